/- Texts of the row of the law FnExactStepCloud, laid together. -/
import Derived.Test.YthgfobcckoedaaaZFnExactStepCloud3
import Derived.Test.YthgfobcckoedaaaZFnExactStepCloud4
import Derived.Test.YthgfobcckoedaaaZFnExactStepCloud5
import Derived.Test.YthgfobcckoedaaaZFnExactStepCloud7
import Derived.Test.YthgfobcckoedaaaZFnExactStepCloud0
import Derived.SizedLaws
import Derived.ChangeArms
import Derived.OpenShut
import Derived.WideShapes
import Derived.WalkKit
import Derived.KernelRfl
namespace Go.Proofs.Ythgfobcckoedaaa.PFnExactStepCloud
open Go.RowKit Go.Proofs.YthgfobcckoedaaaW.PrintWords Go.Proofs.YthgfobcckoedaaaW.PrintLast Go.Proofs.YthgfobcckoedaaaW.PrintMore
attribute [local go_sem] max2_int min2_int max_two min_two max_three min_three max_four min_four   -- for this text's walks alone
set_option linter.unusedVariables false
set_option linter.unusedSimpArgs false
mutual
def laws_FnExactStepCloud.j0 : Nat → Bool → Bool → Bool → Int → Int → Int → Int → Int → Int → Int → Int → Int → List (S68) → Int → Int → List (S48) → Int → Int → List (S48) → Int → Int → List (S48) → Option (Bool)
 | 0, _, _, _, _, _, _, _, _, _, _, _, _, _, _, _, _, _, _, _, _, _, _ => none
 | k + 1, x7, x10, x46, x331000, x331001, x331002, x331003, x331004, x331005, x331006, x332000, x332001, x332002, x352000, x352001, x352002, x358000, x358001, x358002, x372000, x372001, x372002 => if x46 = true then (some false) else ((laws_toCloud.f k x332000 x332001 x332002).bind fun bt373 => ((laws_eqCloud.f k x358000 x358001 x358002 bt373.1 bt373.2.1 bt373.2.2).bind fun t378 => (if t378 = true then ((laws_markCloud.f k x358000 x358001 x358002 1).bind fun bt379 => (if bt379.1 < 0 then (laws_FnExactStepCloud.j1 k x7 true x331000 x331001 x331002 x331003 x331004 x331005 x331006 x332000 x332001 x332002 x352000 x352001 x352002 x372000 x372001 x372002) else ((laws_eqCloud.f k x372000 x372001 x372002 x352000 x352001 x352002).bind fun t381 => (if t381 = true then (laws_FnExactStepCloud.j1 k x7 (x10 != x7) x331000 x331001 x331002 x331003 x331004 x331005 x331006 x332000 x332001 x332002 x352000 x352001 x352002 x372000 x372001 x372002) else (laws_FnExactStepCloud.j1 k x7 true x331000 x331001 x331002 x331003 x331004 x331005 x331006 x332000 x332001 x332002 x352000 x352001 x352002 x372000 x372001 x372002))))) else (some false))))
def laws_FnExactStepCloud.j1 : Nat → Bool → Bool → Int → Int → Int → Int → Int → Int → Int → Int → Int → List (S68) → Int → Int → List (S48) → Int → Int → List (S48) → Option (Bool)
 | 0, _, _, _, _, _, _, _, _, _, _, _, _, _, _, _, _, _, _ => none
 | k + 1, x7, x67, x331000, x331001, x331002, x331003, x331004, x331005, x331006, x332000, x332001, x332002, x352000, x352001, x352002, x372000, x372001, x372002 => if x67 = true then (some false) else ((laws_markCloud.f k x372000 x372001 x372002 1).bind fun bt382 => ((laws_heldCloud.f k x372000 x372001 bt382.2 1).bind fun t384 => (if t384 < 0 then (some false) else (if t384 = bt382.1 then ((laws_toEmitter.f x331000 x331001 x331002 x331003 x331004 x331005 x331006).bind fun bt385 => ((laws_toCloud.f k x332000 x332001 x332002).bind fun bt392 => ((impl_StepCloud.f k bt385.1 bt385.2.1 bt385.2.2.1 bt385.2.2.2.1 bt385.2.2.2.2.1 bt385.2.2.2.2.2.1 bt385.2.2.2.2.2.2 bt392.1 bt392.2.1 bt392.2.2).bind fun bt397 => ((laws_eqCloud.f k bt397.1 bt397.2.1 bt397.2.2.1 x352000 x352001 x352002).bind fun t404 => (if t404 = true then (laws_FnExactStepCloud.j2 k bt382.1 (bt397.2.2.2 != x7) x372000 x372001 bt382.2) else (laws_FnExactStepCloud.j2 k bt382.1 true x372000 x372001 bt382.2)))))) else (some false)))))
def laws_FnExactStepCloud.j2 : Nat → Int → Bool → Int → Int → List (S48) → Option (Bool)
 | 0, _, _, _, _, _ => none
 | k + 1, x12, x95, x372000, x372001, x372002 => if x95 = true then (some false) else ((laws_heldCloud.f k x372000 x372001 x372002 1).bind fun t405 => (if t405 < 0 then (some false) else (if t405 = x12 then (some true) else (some false))))
end
def laws_FnExactStepCloud.f (k : Nat) (a0_0 : Int) (a0_1 : Int) (a0_2 : Int) (a0_3 : Int) (a0_4 : Int) (a0_5 : Int) (a0_6 : Int) (a1_0 : Int) (a1_1 : Int) (l1_2 : List (S68)) : Option (Bool) := (laws_szCloud.f a1_0 a1_1 l1_2 1048576).bind fun t332 => (if t332 < 0 then (some true) else ((laws_toEmitter.f a0_0 a0_1 a0_2 a0_3 a0_4 a0_5 a0_6).bind fun bt333 => ((laws_toCloud.f k a1_0 a1_1 l1_2).bind fun bt340 => ((spec_StepCloud.f k bt333.1 bt333.2.1 bt333.2.2.1 bt333.2.2.2.1 bt333.2.2.2.2.1 bt333.2.2.2.2.2.1 bt333.2.2.2.2.2.2 bt340.1 bt340.2.1 bt340.2.2).bind fun bt345 => ((laws_toCloud.f k a1_0 a1_1 l1_2).bind fun bt352 => ((laws_toEmitter.f a0_0 a0_1 a0_2 a0_3 a0_4 a0_5 a0_6).bind fun bt358 => ((impl_StepCloud.f k bt358.1 bt358.2.1 bt358.2.2.1 bt358.2.2.2.1 bt358.2.2.2.2.1 bt358.2.2.2.2.2.1 bt358.2.2.2.2.2.2 bt352.1 bt352.2.1 bt352.2.2).bind fun bt365 => ((laws_eqCloud.f k bt365.1 bt365.2.1 bt365.2.2.1 bt345.1 bt345.2.1 bt345.2.2.1).bind fun t372 => (if t372 = true then (laws_FnExactStepCloud.j0 k bt345.2.2.2 bt365.2.2.2 (bt365.2.2.2 != bt345.2.2.2) a0_0 a0_1 a0_2 a0_3 a0_4 a0_5 a0_6 a1_0 a1_1 l1_2 bt345.1 bt345.2.1 bt345.2.2.1 bt352.1 bt352.2.1 bt352.2.2 bt365.1 bt365.2.1 bt365.2.2.1) else (laws_FnExactStepCloud.j0 k bt345.2.2.2 bt365.2.2.2 true a0_0 a0_1 a0_2 a0_3 a0_4 a0_5 a0_6 a1_0 a1_1 l1_2 bt345.1 bt345.2.1 bt345.2.2.1 bt352.1 bt352.2.1 bt352.2.2 bt365.1 bt365.2.1 bt365.2.2.1))))))))))
theorem laws_FnExactStepCloud.mono_l : ∀ k, (∀ y0 y1 y2 y3 y4 y5 y6 y7 y8 y9 y10 y11 y12 y13 y14 y15 y16 y17 y18 y19 y20 y21, LeO (laws_FnExactStepCloud.j0 k y0 y1 y2 y3 y4 y5 y6 y7 y8 y9 y10 y11 y12 y13 y14 y15 y16 y17 y18 y19 y20 y21) (laws_FnExactStepCloud.j0 (k + 1) y0 y1 y2 y3 y4 y5 y6 y7 y8 y9 y10 y11 y12 y13 y14 y15 y16 y17 y18 y19 y20 y21)) ∧ (∀ y0 y1 y2 y3 y4 y5 y6 y7 y8 y9 y10 y11 y12 y13 y14 y15 y16 y17, LeO (laws_FnExactStepCloud.j1 k y0 y1 y2 y3 y4 y5 y6 y7 y8 y9 y10 y11 y12 y13 y14 y15 y16 y17) (laws_FnExactStepCloud.j1 (k + 1) y0 y1 y2 y3 y4 y5 y6 y7 y8 y9 y10 y11 y12 y13 y14 y15 y16 y17)) ∧ (∀ y0 y1 y2 y3 y4, LeO (laws_FnExactStepCloud.j2 k y0 y1 y2 y3 y4) (laws_FnExactStepCloud.j2 (k + 1) y0 y1 y2 y3 y4))
 | 0 => ⟨fun _ _ _ _ _ _ _ _ _ _ _ _ _ _ _ _ _ _ _ _ _ _ r h => by simp [laws_FnExactStepCloud.j0] at h, fun _ _ _ _ _ _ _ _ _ _ _ _ _ _ _ _ _ _ r h => by simp [laws_FnExactStepCloud.j1] at h, fun _ _ _ _ _ r h => by simp [laws_FnExactStepCloud.j2] at h⟩
 | k + 1 => by
  obtain ⟨ih0, ih1, ih2⟩ := laws_FnExactStepCloud.mono_l k
  refine ⟨?_, ?_, ?_⟩
  ·intro y0 y1 y2 y3 y4 y5 y6 y7 y8 y9 y10 y11 y12 y13 y14 y15 y16 y17 y18 y19 y20 y21
   unfold laws_FnExactStepCloud.j0
   repeat' first
   | (with_reducible exact ih0 _ _ _ _ _ _ _ _ _ _ _ _ _ _ _ _ _ _ _ _ _ _)
   | (with_reducible exact ih1 _ _ _ _ _ _ _ _ _ _ _ _ _ _ _ _ _ _)
   | (with_reducible exact ih2 _ _ _ _ _)
   | (with_reducible exact impl_StepCloud.mono _ _ _ _ _ _ _ _ _ _ _)
   | (with_reducible exact laws_eqCloud.mono _ _ _ _ _ _ _)
   | (with_reducible exact laws_heldCloud.mono _ _ _ _ _)
   | (with_reducible exact laws_markCloud.mono _ _ _ _ _)
   | (with_reducible exact laws_toCloud.mono _ _ _ _)
   | (with_reducible exact spec_StepCloud.mono _ _ _ _ _ _ _ _ _ _ _)
   | (with_reducible exact LeO.refl _)
   | (with_reducible exact LeO.none _)
   | (with_reducible refine LeO.ite ?_ ?_)
   | (with_reducible refine LeO.bind ?_ (fun _ => ?_))
   | exact ih0 _ _ _ _ _ _ _ _ _ _ _ _ _ _ _ _ _ _ _ _ _ _
   | exact ih1 _ _ _ _ _ _ _ _ _ _ _ _ _ _ _ _ _ _
   | exact ih2 _ _ _ _ _
   | exact impl_StepCloud.mono _ _ _ _ _ _ _ _ _ _ _
   | exact laws_eqCloud.mono _ _ _ _ _ _ _
   | exact laws_heldCloud.mono _ _ _ _ _
   | exact laws_markCloud.mono _ _ _ _ _
   | exact laws_toCloud.mono _ _ _ _
   | exact spec_StepCloud.mono _ _ _ _ _ _ _ _ _ _ _
   | exact LeO.none _
   | refine LeO.ite ?_ ?_
   | refine LeO.bind ?_ (fun _ => ?_)
  ·intro y0 y1 y2 y3 y4 y5 y6 y7 y8 y9 y10 y11 y12 y13 y14 y15 y16 y17
   unfold laws_FnExactStepCloud.j1
   repeat' first
   | (with_reducible exact ih0 _ _ _ _ _ _ _ _ _ _ _ _ _ _ _ _ _ _ _ _ _ _)
   | (with_reducible exact ih1 _ _ _ _ _ _ _ _ _ _ _ _ _ _ _ _ _ _)
   | (with_reducible exact ih2 _ _ _ _ _)
   | (with_reducible exact impl_StepCloud.mono _ _ _ _ _ _ _ _ _ _ _)
   | (with_reducible exact laws_eqCloud.mono _ _ _ _ _ _ _)
   | (with_reducible exact laws_heldCloud.mono _ _ _ _ _)
   | (with_reducible exact laws_markCloud.mono _ _ _ _ _)
   | (with_reducible exact laws_toCloud.mono _ _ _ _)
   | (with_reducible exact spec_StepCloud.mono _ _ _ _ _ _ _ _ _ _ _)
   | (with_reducible exact LeO.refl _)
   | (with_reducible exact LeO.none _)
   | (with_reducible refine LeO.ite ?_ ?_)
   | (with_reducible refine LeO.bind ?_ (fun _ => ?_))
   | exact ih0 _ _ _ _ _ _ _ _ _ _ _ _ _ _ _ _ _ _ _ _ _ _
   | exact ih1 _ _ _ _ _ _ _ _ _ _ _ _ _ _ _ _ _ _
   | exact ih2 _ _ _ _ _
   | exact impl_StepCloud.mono _ _ _ _ _ _ _ _ _ _ _
   | exact laws_eqCloud.mono _ _ _ _ _ _ _
   | exact laws_heldCloud.mono _ _ _ _ _
   | exact laws_markCloud.mono _ _ _ _ _
   | exact laws_toCloud.mono _ _ _ _
   | exact spec_StepCloud.mono _ _ _ _ _ _ _ _ _ _ _
   | exact LeO.none _
   | refine LeO.ite ?_ ?_
   | refine LeO.bind ?_ (fun _ => ?_)
  ·intro y0 y1 y2 y3 y4
   unfold laws_FnExactStepCloud.j2
   repeat' first
   | (with_reducible exact ih0 _ _ _ _ _ _ _ _ _ _ _ _ _ _ _ _ _ _ _ _ _ _)
   | (with_reducible exact ih1 _ _ _ _ _ _ _ _ _ _ _ _ _ _ _ _ _ _)
   | (with_reducible exact ih2 _ _ _ _ _)
   | (with_reducible exact impl_StepCloud.mono _ _ _ _ _ _ _ _ _ _ _)
   | (with_reducible exact laws_eqCloud.mono _ _ _ _ _ _ _)
   | (with_reducible exact laws_heldCloud.mono _ _ _ _ _)
   | (with_reducible exact laws_markCloud.mono _ _ _ _ _)
   | (with_reducible exact laws_toCloud.mono _ _ _ _)
   | (with_reducible exact spec_StepCloud.mono _ _ _ _ _ _ _ _ _ _ _)
   | (with_reducible exact LeO.refl _)
   | (with_reducible exact LeO.none _)
   | (with_reducible refine LeO.ite ?_ ?_)
   | (with_reducible refine LeO.bind ?_ (fun _ => ?_))
   | exact ih0 _ _ _ _ _ _ _ _ _ _ _ _ _ _ _ _ _ _ _ _ _ _
   | exact ih1 _ _ _ _ _ _ _ _ _ _ _ _ _ _ _ _ _ _
   | exact ih2 _ _ _ _ _
   | exact impl_StepCloud.mono _ _ _ _ _ _ _ _ _ _ _
   | exact laws_eqCloud.mono _ _ _ _ _ _ _
   | exact laws_heldCloud.mono _ _ _ _ _
   | exact laws_markCloud.mono _ _ _ _ _
   | exact laws_toCloud.mono _ _ _ _
   | exact spec_StepCloud.mono _ _ _ _ _ _ _ _ _ _ _
   | exact LeO.none _
   | refine LeO.ite ?_ ?_
   | refine LeO.bind ?_ (fun _ => ?_)
theorem laws_FnExactStepCloud.mono : ∀ a0 a1 a2 a3 a4 a5 a6 a7 a8 a9 k, LeO (laws_FnExactStepCloud.f k a0 a1 a2 a3 a4 a5 a6 a7 a8 a9) (laws_FnExactStepCloud.f (k + 1) a0 a1 a2 a3 a4 a5 a6 a7 a8 a9) := by
 intro a0 a1 a2 a3 a4 a5 a6 a7 a8 a9 k
 obtain ⟨ih0, ih1, ih2⟩ := laws_FnExactStepCloud.mono_l k
 unfold laws_FnExactStepCloud.f
 repeat' first
   | (with_reducible exact ih0 _ _ _ _ _ _ _ _ _ _ _ _ _ _ _ _ _ _ _ _ _ _)
   | (with_reducible exact ih1 _ _ _ _ _ _ _ _ _ _ _ _ _ _ _ _ _ _)
   | (with_reducible exact ih2 _ _ _ _ _)
   | (with_reducible exact impl_StepCloud.mono _ _ _ _ _ _ _ _ _ _ _)
   | (with_reducible exact laws_eqCloud.mono _ _ _ _ _ _ _)
   | (with_reducible exact laws_heldCloud.mono _ _ _ _ _)
   | (with_reducible exact laws_markCloud.mono _ _ _ _ _)
   | (with_reducible exact laws_toCloud.mono _ _ _ _)
   | (with_reducible exact spec_StepCloud.mono _ _ _ _ _ _ _ _ _ _ _)
   | (with_reducible exact LeO.refl _)
   | (with_reducible exact LeO.none _)
   | (with_reducible refine LeO.ite ?_ ?_)
   | (with_reducible refine LeO.bind ?_ (fun _ => ?_))
   | exact ih0 _ _ _ _ _ _ _ _ _ _ _ _ _ _ _ _ _ _ _ _ _ _
   | exact ih1 _ _ _ _ _ _ _ _ _ _ _ _ _ _ _ _ _ _
   | exact ih2 _ _ _ _ _
   | exact impl_StepCloud.mono _ _ _ _ _ _ _ _ _ _ _
   | exact laws_eqCloud.mono _ _ _ _ _ _ _
   | exact laws_heldCloud.mono _ _ _ _ _
   | exact laws_markCloud.mono _ _ _ _ _
   | exact laws_toCloud.mono _ _ _ _
   | exact spec_StepCloud.mono _ _ _ _ _ _ _ _ _ _ _
   | exact LeO.none _
   | refine LeO.ite ?_ ?_
   | refine LeO.bind ?_ (fun _ => ?_)
def laws_FnExactStepCloud.T5 : Bool × List (List Nat × List Nat) := (true, [([], []), ([0], [0]), ([], []), ([2, 1], [2]), ([1, 3, 3], [1, 3]), ([4], [4]), ([5], [5]), ([5], [5]), ([], []), ([8, 6, 4, 0, 1, 2, 3, 4, 5, 6, 8], [6, 8]), ([7, 9, 0, 1, 2, 3, 4, 5, 6, 7, 8, 9], [7])])
def laws_FnExactStepCloud.B5 : List Nat := [0, 1, 0, 7, 15, 31, 63, 63, 0, 383, 1023]
theorem laws_FnExactStepCloud.tab5 : rtab .any (opsOf Try.f4 5) = laws_FnExactStepCloud.T5 := by kernel_rfl
theorem laws_FnExactStepCloud.bits5 : waitsOk laws_FnExactStepCloud.T5.2 laws_FnExactStepCloud.B5 = true := by kernel_rfl
def laws_FnExactStepCloud.T7 : Bool × List (List Nat × List Nat) := (true, [([], []), ([0], [0]), ([], []), ([1, 2, 1], [1, 2]), ([3], [3]), ([4], [4]), ([4], [4]), ([], []), ([7, 5, 3, 0, 1, 2, 3, 4, 5, 7], [5, 7]), ([6, 8, 0, 1, 2, 3, 4, 5, 6, 7, 8], [6])])
def laws_FnExactStepCloud.B7 : List Nat := [0, 1, 0, 7, 15, 31, 31, 0, 191, 511]
theorem laws_FnExactStepCloud.tab7 : rtab .any (opsOf Try.f4 7) = laws_FnExactStepCloud.T7 := by kernel_rfl
theorem laws_FnExactStepCloud.bits7 : waitsOk laws_FnExactStepCloud.T7.2 laws_FnExactStepCloud.B7 = true := by kernel_rfl
def laws_FnExactStepCloud.T24 : Bool × List (List Nat × List Nat) := (true, [([], []), ([0], [0]), ([], []), ([2, 1], [2]), ([1, 3, 3], [1, 3]), ([4], [4]), ([5], [5]), ([5], [5]), ([], []), ([8, 6, 4, 0, 1, 2, 3, 4, 5, 6, 8], [6, 8]), ([7, 9, 0, 1, 2, 3, 4, 5, 6, 7, 8, 9], [7])])
def laws_FnExactStepCloud.B24 : List Nat := [0, 1, 0, 7, 15, 31, 63, 63, 0, 383, 1023]
theorem laws_FnExactStepCloud.tab24 : rtab .any (opsOf Try.f4 24) = laws_FnExactStepCloud.T24 := by kernel_rfl
theorem laws_FnExactStepCloud.bits24 : waitsOk laws_FnExactStepCloud.T24.2 laws_FnExactStepCloud.B24 = true := by kernel_rfl
set_option maxHeartbeats 8000000 in
set_option maxRecDepth 100000 in
theorem laws_FnExactStepCloud.calls (k : Nat) (a0_0 : Int) (a0_1 : Int) (a0_2 : Int) (a0_3 : Int) (a0_4 : Int) (a0_5 : Int) (a0_6 : Int) (a1_0 : Int) (a1_1 : Int) (A1_2 : Option Addr) (c1_2 : Nat) (l1_2 : List (S68)) (r : Bool) (w : World) (hr1_2 : Kd.C k68 w A1_2 l1_2.length l1_2) (hc1_2 : l1_2.length ≤ c1_2) (h : laws_FnExactStepCloud.f k a0_0 a0_1 a0_2 a0_3 a0_4 a0_5 a0_6 a1_0 a1_1 l1_2 = some r) :
  Calls Try.prog 4 #[.agg #[.int .i64 a0_0, .int .i64 a0_1, .int .i64 a0_2, .int .i64 a0_3, .int .i64 a0_4, .int .i64 a0_5, .int .i64 a0_6], .agg #[.int .i64 a1_0, .int .i64 a1_1, .slice A1_2 l1_2.length c1_2]] w fun e w' => e = .returned (.bool r) ∧ Below w.heap.size w w' := by
 have hu23 := Try.underlying23
 have hu31 := Try.underlying31
 have hu35 := Try.underlying35
 have HR1_2 := Aside0.mk hr1_2
 have HC1_2 := Aside0.mk hc1_2
 clear hr1_2 hc1_2
 have HB := Aside0.mk (Below.refl w.heap.size w)
 have H : ((laws_szCloud.f a1_0 a1_1 l1_2 1048576).bind fun t332 => (if t332 < 0 then (some true) else ((laws_toEmitter.f a0_0 a0_1 a0_2 a0_3 a0_4 a0_5 a0_6).bind fun bt333 => ((laws_toCloud.f k a1_0 a1_1 l1_2).bind fun bt340 => ((spec_StepCloud.f k bt333.1 bt333.2.1 bt333.2.2.1 bt333.2.2.2.1 bt333.2.2.2.2.1 bt333.2.2.2.2.2.1 bt333.2.2.2.2.2.2 bt340.1 bt340.2.1 bt340.2.2).bind fun bt345 => ((laws_toCloud.f k a1_0 a1_1 l1_2).bind fun bt352 => ((laws_toEmitter.f a0_0 a0_1 a0_2 a0_3 a0_4 a0_5 a0_6).bind fun bt358 => ((impl_StepCloud.f k bt358.1 bt358.2.1 bt358.2.2.1 bt358.2.2.2.1 bt358.2.2.2.2.1 bt358.2.2.2.2.2.1 bt358.2.2.2.2.2.2 bt352.1 bt352.2.1 bt352.2.2).bind fun bt365 => ((laws_eqCloud.f k bt365.1 bt365.2.1 bt365.2.2.1 bt345.1 bt345.2.1 bt345.2.2.1).bind fun t372 => (if t372 = true then (laws_FnExactStepCloud.j0 k bt345.2.2.2 bt365.2.2.2 (bt365.2.2.2 != bt345.2.2.2) a0_0 a0_1 a0_2 a0_3 a0_4 a0_5 a0_6 a1_0 a1_1 l1_2 bt345.1 bt345.2.1 bt345.2.2.1 bt352.1 bt352.2.1 bt352.2.2 bt365.1 bt365.2.1 bt365.2.2.1) else (laws_FnExactStepCloud.j0 k bt345.2.2.2 bt365.2.2.2 true a0_0 a0_1 a0_2 a0_3 a0_4 a0_5 a0_6 a1_0 a1_1 l1_2 bt345.1 bt345.2.1 bt345.2.2.1 bt352.1 bt352.2.1 bt352.2.2 bt365.1 bt365.2.1 bt365.2.2.1))))))))))) = some r := h
 clear h
 replace H := Option.bind_eq_some_iff.mp H
 obtain ⟨t332, A30, H⟩ := H
 replace H : (if t332 < 0 then (some true) else ((laws_toEmitter.f a0_0 a0_1 a0_2 a0_3 a0_4 a0_5 a0_6).bind fun bt333 => ((laws_toCloud.f k a1_0 a1_1 l1_2).bind fun bt340 => ((spec_StepCloud.f k bt333.1 bt333.2.1 bt333.2.2.1 bt333.2.2.2.1 bt333.2.2.2.2.1 bt333.2.2.2.2.2.1 bt333.2.2.2.2.2.2 bt340.1 bt340.2.1 bt340.2.2).bind fun bt345 => ((laws_toCloud.f k a1_0 a1_1 l1_2).bind fun bt352 => ((laws_toEmitter.f a0_0 a0_1 a0_2 a0_3 a0_4 a0_5 a0_6).bind fun bt358 => ((impl_StepCloud.f k bt358.1 bt358.2.1 bt358.2.2.1 bt358.2.2.2.1 bt358.2.2.2.2.1 bt358.2.2.2.2.2.1 bt358.2.2.2.2.2.2 bt352.1 bt352.2.1 bt352.2.2).bind fun bt365 => ((laws_eqCloud.f k bt365.1 bt365.2.1 bt365.2.2.1 bt345.1 bt345.2.1 bt345.2.2.1).bind fun t372 => (if t372 = true then (laws_FnExactStepCloud.j0 k bt345.2.2.2 bt365.2.2.2 (bt365.2.2.2 != bt345.2.2.2) a0_0 a0_1 a0_2 a0_3 a0_4 a0_5 a0_6 a1_0 a1_1 l1_2 bt345.1 bt345.2.1 bt345.2.2.1 bt352.1 bt352.2.1 bt352.2.2 bt365.1 bt365.2.1 bt365.2.2.1) else (laws_FnExactStepCloud.j0 k bt345.2.2.2 bt365.2.2.2 true a0_0 a0_1 a0_2 a0_3 a0_4 a0_5 a0_6 a1_0 a1_1 l1_2 bt345.1 bt345.2.1 bt345.2.2.1 bt352.1 bt352.2.1 bt352.2.2 bt365.1 bt365.2.1 bt365.2.2.1)))))))))) = some r := H
 have A3 := Aside0.mk A30
 clear A30
 by_cases c4 : t332 < 0
 ·rw [if_pos c4] at H
  have c4b0 : decide (t332 < 0) = true := decide_eq_true c4
  clear c4
  obtain rfl := Option.some.inj H
  go_enter Try.func4, Try.ntmps4
  go_wp2_with (first | ((with_reducible refine gate_dst (N := 2) rfl ?_); refine box_event rfl (N := 2) rfl (cs := #[.int .i64 a0_0, .int .i64 a0_1, .int .i64 a0_2, .int .i64 a0_3, .int .i64 a0_4, .int .i64 a0_5, .int .i64 a0_6]) (t := 23) sE ?_; intro gb330 hg w5 hbox hb; have BK330 := Aside0.mk hbox; have GW330 := gS w hg (lU); have GE330 := GW330; replace HB := Aside0.mk (below_step (lU) hb); clear hb hbox hg) | ((with_reducible refine gate_dst (N := 3) rfl ?_); refine box_event rfl (N := 3) rfl (cs := #[.int .i64 a1_0, .int .i64 a1_1, .slice A1_2 l1_2.length c1_2]) (t := 31) sE ?_; intro gb331 hg w6 hbox hb; have BK331 := Aside0.mk hbox; have GW331 := gS w hg (lU1 GE330.out); have GE331 := GW331; replace HB := Aside0.mk (below_step (lU1 GE330.out) hb); have NB330_331 := nL hg (bU BK330.out); have NB331_330 := nG hg (bU BK330.out); replace BK330 := Aside0.mk (blk_below (bU BK330.out) hb); clear hb hbox hg; have hnb7 := NB331_330.out; have hnc7 := NB330_331.out; have hcz8_0 : w6.cell? ⟨gb331, 0, none⟩ = some (.int .i64 a1_0) := (blk_cell BK331.out 0).trans rfl; have hcz8_1 : w6.cell? ⟨gb331, 1, none⟩ = some (.int .i64 a1_1) := (blk_cell BK331.out 1).trans rfl; have hcz8_2 : w6.cell? ⟨gb331, 2, none⟩ = some (.slice A1_2 l1_2.length c1_2) := (blk_cell BK331.out 2).trans rfl; have hfz8_0 := blk_frozen BK331.out 0; have hfz8_1 := blk_frozen BK331.out 1; have hfz8_2 := blk_frozen BK331.out 2) | ((with_reducible refine gate_callee (f := 9) rfl ?_); refine goesL_ (some 18) rfl rfl Try.func9 (by kernel_rfl) rfl #[.agg #[.int .i64 a1_0, .int .i64 a1_1, .slice A1_2 l1_2.length c1_2], .int .i64 1048576] rfl aE ?_; (with_reducible refine (laws_szCloud.calls a1_0 a1_1 _ _ l1_2 1048576 t332 _ ?side1 ?side2 A3.out).mono ?_); (case side1 => exact cU (Kd.C_below HR1_2.out HB.out)); (case side2 => exact HC1_2.out); rintro e w9 ⟨rfl, hb⟩; refine ⟨_, rfl, ?_⟩; replace BK330 := Aside0.mk (blk_below (bU BK330.out) hb); replace BK331 := Aside0.mk (blk_below (bU BK331.out) hb); replace HB := Aside0.mk (below_step (lU2 GE330.out GE331.out) hb); (try clear hb); (try clear hb2); (try clear hk); (try clear hi)))
  go_ret
  exact ⟨eE, lU2 GE330.out GE331.out⟩
 ·rw [if_neg c4] at H
  have c4b0 : decide (t332 < 0) = false := decide_eq_false c4
  clear c4
  replace H := Option.bind_eq_some_iff.mp H
  obtain ⟨⟨t333, t334, t335, t336, t337, t338, t339⟩, A100, H⟩ := H
  replace H : ((laws_toCloud.f k a1_0 a1_1 l1_2).bind fun bt340 => ((spec_StepCloud.f k t333 t334 t335 t336 t337 t338 t339 bt340.1 bt340.2.1 bt340.2.2).bind fun bt345 => ((laws_toCloud.f k a1_0 a1_1 l1_2).bind fun bt352 => ((laws_toEmitter.f a0_0 a0_1 a0_2 a0_3 a0_4 a0_5 a0_6).bind fun bt358 => ((impl_StepCloud.f k bt358.1 bt358.2.1 bt358.2.2.1 bt358.2.2.2.1 bt358.2.2.2.2.1 bt358.2.2.2.2.2.1 bt358.2.2.2.2.2.2 bt352.1 bt352.2.1 bt352.2.2).bind fun bt365 => ((laws_eqCloud.f k bt365.1 bt365.2.1 bt365.2.2.1 bt345.1 bt345.2.1 bt345.2.2.1).bind fun t372 => (if t372 = true then (laws_FnExactStepCloud.j0 k bt345.2.2.2 bt365.2.2.2 (bt365.2.2.2 != bt345.2.2.2) a0_0 a0_1 a0_2 a0_3 a0_4 a0_5 a0_6 a1_0 a1_1 l1_2 bt345.1 bt345.2.1 bt345.2.2.1 bt352.1 bt352.2.1 bt352.2.2 bt365.1 bt365.2.1 bt365.2.2.1) else (laws_FnExactStepCloud.j0 k bt345.2.2.2 bt365.2.2.2 true a0_0 a0_1 a0_2 a0_3 a0_4 a0_5 a0_6 a1_0 a1_1 l1_2 bt345.1 bt345.2.1 bt345.2.2.1 bt352.1 bt352.2.1 bt352.2.2 bt365.1 bt365.2.1 bt365.2.2.1)))))))) = some r := H
  have A10 := Aside0.mk A100
  clear A100
  replace H := Option.bind_eq_some_iff.mp H
  obtain ⟨⟨t340, t341, t342⟩, A110, H⟩ := H
  replace H : ((spec_StepCloud.f k t333 t334 t335 t336 t337 t338 t339 t340 t341 t342).bind fun bt345 => ((laws_toCloud.f k a1_0 a1_1 l1_2).bind fun bt352 => ((laws_toEmitter.f a0_0 a0_1 a0_2 a0_3 a0_4 a0_5 a0_6).bind fun bt358 => ((impl_StepCloud.f k bt358.1 bt358.2.1 bt358.2.2.1 bt358.2.2.2.1 bt358.2.2.2.2.1 bt358.2.2.2.2.2.1 bt358.2.2.2.2.2.2 bt352.1 bt352.2.1 bt352.2.2).bind fun bt365 => ((laws_eqCloud.f k bt365.1 bt365.2.1 bt365.2.2.1 bt345.1 bt345.2.1 bt345.2.2.1).bind fun t372 => (if t372 = true then (laws_FnExactStepCloud.j0 k bt345.2.2.2 bt365.2.2.2 (bt365.2.2.2 != bt345.2.2.2) a0_0 a0_1 a0_2 a0_3 a0_4 a0_5 a0_6 a1_0 a1_1 l1_2 bt345.1 bt345.2.1 bt345.2.2.1 bt352.1 bt352.2.1 bt352.2.2 bt365.1 bt365.2.1 bt365.2.2.1) else (laws_FnExactStepCloud.j0 k bt345.2.2.2 bt365.2.2.2 true a0_0 a0_1 a0_2 a0_3 a0_4 a0_5 a0_6 a1_0 a1_1 l1_2 bt345.1 bt345.2.1 bt345.2.2.1 bt352.1 bt352.2.1 bt352.2.2 bt365.1 bt365.2.1 bt365.2.2.1))))))) = some r := H
  have A11 := Aside0.mk A110
  clear A110
  replace H := Option.bind_eq_some_iff.mp H
  obtain ⟨⟨t345, t346, t347, t350⟩, A120, H⟩ := H
  replace H : ((laws_toCloud.f k a1_0 a1_1 l1_2).bind fun bt352 => ((laws_toEmitter.f a0_0 a0_1 a0_2 a0_3 a0_4 a0_5 a0_6).bind fun bt358 => ((impl_StepCloud.f k bt358.1 bt358.2.1 bt358.2.2.1 bt358.2.2.2.1 bt358.2.2.2.2.1 bt358.2.2.2.2.2.1 bt358.2.2.2.2.2.2 bt352.1 bt352.2.1 bt352.2.2).bind fun bt365 => ((laws_eqCloud.f k bt365.1 bt365.2.1 bt365.2.2.1 t345 t346 t347).bind fun t372 => (if t372 = true then (laws_FnExactStepCloud.j0 k t350 bt365.2.2.2 (bt365.2.2.2 != t350) a0_0 a0_1 a0_2 a0_3 a0_4 a0_5 a0_6 a1_0 a1_1 l1_2 t345 t346 t347 bt352.1 bt352.2.1 bt352.2.2 bt365.1 bt365.2.1 bt365.2.2.1) else (laws_FnExactStepCloud.j0 k t350 bt365.2.2.2 true a0_0 a0_1 a0_2 a0_3 a0_4 a0_5 a0_6 a1_0 a1_1 l1_2 t345 t346 t347 bt352.1 bt352.2.1 bt352.2.2 bt365.1 bt365.2.1 bt365.2.2.1)))))) = some r := H
  have A12 := Aside0.mk A120
  clear A120
  replace H := Option.bind_eq_some_iff.mp H
  obtain ⟨⟨t352, t353, t354⟩, A130, H⟩ := H
  replace H : ((laws_toEmitter.f a0_0 a0_1 a0_2 a0_3 a0_4 a0_5 a0_6).bind fun bt358 => ((impl_StepCloud.f k bt358.1 bt358.2.1 bt358.2.2.1 bt358.2.2.2.1 bt358.2.2.2.2.1 bt358.2.2.2.2.2.1 bt358.2.2.2.2.2.2 t352 t353 t354).bind fun bt365 => ((laws_eqCloud.f k bt365.1 bt365.2.1 bt365.2.2.1 t345 t346 t347).bind fun t372 => (if t372 = true then (laws_FnExactStepCloud.j0 k t350 bt365.2.2.2 (bt365.2.2.2 != t350) a0_0 a0_1 a0_2 a0_3 a0_4 a0_5 a0_6 a1_0 a1_1 l1_2 t345 t346 t347 t352 t353 t354 bt365.1 bt365.2.1 bt365.2.2.1) else (laws_FnExactStepCloud.j0 k t350 bt365.2.2.2 true a0_0 a0_1 a0_2 a0_3 a0_4 a0_5 a0_6 a1_0 a1_1 l1_2 t345 t346 t347 t352 t353 t354 bt365.1 bt365.2.1 bt365.2.2.1))))) = some r := H
  have A13 := Aside0.mk A130
  clear A130
  replace H := Option.bind_eq_some_iff.mp H
  obtain ⟨⟨t358, t359, t360, t361, t362, t363, t364⟩, A140, H⟩ := H
  replace H : ((impl_StepCloud.f k t358 t359 t360 t361 t362 t363 t364 t352 t353 t354).bind fun bt365 => ((laws_eqCloud.f k bt365.1 bt365.2.1 bt365.2.2.1 t345 t346 t347).bind fun t372 => (if t372 = true then (laws_FnExactStepCloud.j0 k t350 bt365.2.2.2 (bt365.2.2.2 != t350) a0_0 a0_1 a0_2 a0_3 a0_4 a0_5 a0_6 a1_0 a1_1 l1_2 t345 t346 t347 t352 t353 t354 bt365.1 bt365.2.1 bt365.2.2.1) else (laws_FnExactStepCloud.j0 k t350 bt365.2.2.2 true a0_0 a0_1 a0_2 a0_3 a0_4 a0_5 a0_6 a1_0 a1_1 l1_2 t345 t346 t347 t352 t353 t354 bt365.1 bt365.2.1 bt365.2.2.1)))) = some r := H
  have A14 := Aside0.mk A140
  clear A140
  replace H := Option.bind_eq_some_iff.mp H
  obtain ⟨⟨t365, t366, t367, t370⟩, A150, H⟩ := H
  replace H : ((laws_eqCloud.f k t365 t366 t367 t345 t346 t347).bind fun t372 => (if t372 = true then (laws_FnExactStepCloud.j0 k t350 t370 (t370 != t350) a0_0 a0_1 a0_2 a0_3 a0_4 a0_5 a0_6 a1_0 a1_1 l1_2 t345 t346 t347 t352 t353 t354 t365 t366 t367) else (laws_FnExactStepCloud.j0 k t350 t370 true a0_0 a0_1 a0_2 a0_3 a0_4 a0_5 a0_6 a1_0 a1_1 l1_2 t345 t346 t347 t352 t353 t354 t365 t366 t367))) = some r := H
  have A15 := Aside0.mk A150
  clear A150
  have HC16 := Aside0.mk H
  clear H
  go_enter Try.func4, Try.ntmps4
  try go_wp2_with (first | ((with_reducible refine gate_dst (N := 2) rfl ?_); refine box_event rfl (N := 2) rfl (cs := #[.int .i64 a0_0, .int .i64 a0_1, .int .i64 a0_2, .int .i64 a0_3, .int .i64 a0_4, .int .i64 a0_5, .int .i64 a0_6]) (t := 23) sE ?_; intro gb330 hg w17 hbox hb; have BK330 := Aside0.mk hbox; have GW330 := gS w hg (lU); have GE330 := GW330; replace HB := Aside0.mk (below_step (lU) hb); clear hb hbox hg) | ((with_reducible refine gate_dst (N := 3) rfl ?_); refine box_event rfl (N := 3) rfl (cs := #[.int .i64 a1_0, .int .i64 a1_1, .slice A1_2 l1_2.length c1_2]) (t := 31) sE ?_; intro gb331 hg w18 hbox hb; have BK331 := Aside0.mk hbox; have GW331 := gS w hg (lU1 GE330.out); have GE331 := GW331; replace HB := Aside0.mk (below_step (lU1 GE330.out) hb); have NB330_331 := nL hg (bU BK330.out); have NB331_330 := nG hg (bU BK330.out); replace BK330 := Aside0.mk (blk_below (bU BK330.out) hb); clear hb hbox hg; have hnb19 := NB331_330.out; have hnc19 := NB330_331.out; have hcz20_0 : w18.cell? ⟨gb331, 0, none⟩ = some (.int .i64 a1_0) := (blk_cell BK331.out 0).trans rfl; have hcz20_1 : w18.cell? ⟨gb331, 1, none⟩ = some (.int .i64 a1_1) := (blk_cell BK331.out 1).trans rfl; have hcz20_2 : w18.cell? ⟨gb331, 2, none⟩ = some (.slice A1_2 l1_2.length c1_2) := (blk_cell BK331.out 2).trans rfl; have hfz20_0 := blk_frozen BK331.out 0; have hfz20_1 := blk_frozen BK331.out 1; have hfz20_2 := blk_frozen BK331.out 2) | ((with_reducible refine gate_callee (f := 9) rfl ?_); refine goesL_ (some 18) rfl rfl Try.func9 (by kernel_rfl) rfl #[.agg #[.int .i64 a1_0, .int .i64 a1_1, .slice A1_2 l1_2.length c1_2], .int .i64 1048576] rfl aE ?_; (with_reducible refine (laws_szCloud.calls a1_0 a1_1 _ _ l1_2 1048576 t332 _ ?side1 ?side2 A3.out).mono ?_); (case side1 => exact cU (Kd.C_below HR1_2.out HB.out)); (case side2 => exact HC1_2.out); rintro e w21 ⟨rfl, hb⟩; refine ⟨_, rfl, ?_⟩; replace BK330 := Aside0.mk (blk_below (bU BK330.out) hb); replace BK331 := Aside0.mk (blk_below (bU BK331.out) hb); replace HB := Aside0.mk (below_step (lU2 GE330.out GE331.out) hb); (try clear hb); (try clear hb2); (try clear hk); (try clear hi)))
  replace BK330 := Aside0.mk (blk_drew BK330.out)
  replace BK331 := Aside0.mk (blk_drew BK331.out)
  replace HB := Aside0.mk (below_drew1 HB.out)
  refine start_ (n := 11) (S := fun w' => w'.cell? ⟨gb330, 0, none⟩ = some (.int .i64 a0_0) ∧ w'.cell? ⟨gb330, 1, none⟩ = some (.int .i64 a0_1) ∧ w'.cell? ⟨gb330, 2, none⟩ = some (.int .i64 a0_2) ∧ w'.cell? ⟨gb330, 3, none⟩ = some (.int .i64 a0_3) ∧ w'.cell? ⟨gb330, 4, none⟩ = some (.int .i64 a0_4) ∧ w'.cell? ⟨gb330, 5, none⟩ = some (.int .i64 a0_5) ∧ w'.cell? ⟨gb330, 6, none⟩ = some (.int .i64 a0_6) ∧ w'.cell? ⟨gb331, 0, none⟩ = some (.int .i64 a1_0) ∧ w'.cell? ⟨gb331, 1, none⟩ = some (.int .i64 a1_1) ∧ w'.cell? ⟨gb331, 2, none⟩ = some (.slice A1_2 l1_2.length c1_2)) (ds := []) #[false, false, false, false, false, false, false, false, false, false, false] (by kernel_rfl) rfl rfl ⟨(blk_cell BK330.out 0).trans rfl, (blk_cell BK330.out 1).trans rfl, (blk_cell BK330.out 2).trans rfl, (blk_cell BK330.out 3).trans rfl, (blk_cell BK330.out 4).trans rfl, (blk_cell BK330.out 5).trans rfl, (blk_cell BK330.out 6).trans rfl, (blk_cell BK331.out 0).trans rfl, (blk_cell BK331.out 1).trans rfl, (blk_cell BK331.out 2).trans rfl⟩ (fun hHeld => ?_); refine with_tabW laws_FnExactStepCloud.tab5 laws_FnExactStepCloud.bits5 (fun HT_ HW_ => ?_)
  generalize w21.drew = w22 at BK330 BK331 HB hHeld ⊢
  refine takeA 0 22 (bz 11 1) rfl rfl (take_ofW HT_.out HW_.out (by kernel_rfl)) hHeld (by rintro w' ⟨s0, s1, s2, s3, s4, s5, s6, s7, s8, s9⟩; go_simp; with_reducible rfl) ?_
  refine takeA 2 24 (bz 11 5) rfl rfl (take_ofW HT_.out HW_.out (by kernel_rfl)) hHeld (by rintro w' ⟨s0, s1, s2, s3, s4, s5, s6, s7, s8, s9⟩; go_simp; with_reducible rfl) ?_
  refine join_ (σ := Value × Value × Nat) 2 #[true, true, true, true, true, true, true, true, true, false, false] (fun s_ => [(23, .agg #[.int .i64 t333, .int .i64 t334, .int .i64 t335, .int .i64 t336, .int .i64 t337, .int .i64 t338, .int .i64 t339]), (25, .agg #[.int .i64 t340, .int .i64 t341, s_.1]), (26, .tuple #[.agg #[.int .i64 t345, .int .i64 t346, s_.2.1], .bool t350]), (6, .pointer (some ⟨s_.2.2, 0, none⟩)), (21, .tuple #[.agg #[.int .i64 t345, .int .i64 t346, s_.2.1], .bool t350]), (27, .agg #[.int .i64 t345, .int .i64 t346, s_.2.1]), (28, .bool t350)]) (fun s_ w' => (w'.cell? ⟨gb330, 0, none⟩ = some (.int .i64 a0_0) ∧ w'.cell? ⟨gb330, 1, none⟩ = some (.int .i64 a0_1) ∧ w'.cell? ⟨gb330, 2, none⟩ = some (.int .i64 a0_2) ∧ w'.cell? ⟨gb330, 3, none⟩ = some (.int .i64 a0_3) ∧ w'.cell? ⟨gb330, 4, none⟩ = some (.int .i64 a0_4) ∧ w'.cell? ⟨gb330, 5, none⟩ = some (.int .i64 a0_5) ∧ w'.cell? ⟨gb330, 6, none⟩ = some (.int .i64 a0_6) ∧ w'.cell? ⟨gb331, 0, none⟩ = some (.int .i64 a1_0) ∧ w'.cell? ⟨gb331, 1, none⟩ = some (.int .i64 a1_1) ∧ w'.cell? ⟨gb331, 2, none⟩ = some (.slice A1_2 l1_2.length c1_2)) ∧ (Kd.R k48 48 w' w.heap.size (fun k_ => some k_ ≠ (s_.2.1 : Value).ownBlock) s_.1 t342) ∧ (Kd.R k48 48 w' w.heap.size (fun k_ => some k_ ≠ (s_.1 : Value).ownBlock) s_.2.1 t347) ∧ (w'.heap[gb330]? = some (.cells #[.int .i64 a0_0, .int .i64 a0_1, .int .i64 a0_2, .int .i64 a0_3, .int .i64 a0_4, .int .i64 a0_5, .int .i64 a0_6] 23 (0, 0))) ∧ (w'.heap[gb331]? = some (.cells #[.int .i64 a1_0, .int .i64 a1_1, .slice A1_2 l1_2.length c1_2] 31 (0, 0))) ∧ (w'.heap[s_.2.2]? = some (.cells #[.int .i64 0, .int .i64 0, .slice none 0 0] 35 (0, 0))) ∧ (w.heap.size ≤ s_.2.2) ∧ (w.heap.size ≤ s_.2.2) ∧ (gb330 ≠ s_.2.2) ∧ (s_.2.2 ≠ gb330) ∧ (gb331 ≠ s_.2.2) ∧ (s_.2.2 ≠ gb331) ∧ (Below w.heap.size w w')) ?_ ?_
  rotate_left
  ·intro hCont
   refine two_ (i := 1) (j := 8) (Ni := some 23) (Nj := some 6) #[true, true, true, false, false, false, false, false, false, false, false] #[true, false, true, false, false, false, false, false, true, false, false] rfl rfl rfl rfl (two_of HT_.out (by kernel_rfl)) (by decide) (by decide) (fun K hK => ?_) (fun K hK => ?_)
   ·skip
    refine goes_ Try.func7 (by kernel_rfl) rfl #[.agg #[.int .i64 a0_0, .int .i64 a0_1, .int .i64 a0_2, .int .i64 a0_3, .int .i64 a0_4, .int .i64 a0_5, .int .i64 a0_6]] (by rfl) rfl rfl aE ?_
    with_reducible refine (laws_toEmitter.calls a0_0 a0_1 a0_2 a0_3 a0_4 a0_5 a0_6 t333 t334 t335 t336 t337 t338 t339 _ A10.out).mono ?_
    rintro e w23 ⟨rfl, hb⟩
    refine ⟨_, rfl, ?_⟩
    replace BK330 := Aside0.mk (blk_below (bU BK330.out) hb)
    replace BK331 := Aside0.mk (blk_below (bU BK331.out) hb)
    replace HB := Aside0.mk (below_step (lU2 GE330.out GE331.out) hb)
    (try clear hb)
    (try clear hb2)
    (try clear hk)
    (try clear hi)
    refine hK.out _ _ ⟨(blk_cell BK330.out 0).trans rfl, (blk_cell BK330.out 1).trans rfl, (blk_cell BK330.out 2).trans rfl, (blk_cell BK330.out 3).trans rfl, (blk_cell BK330.out 4).trans rfl, (blk_cell BK330.out 5).trans rfl, (blk_cell BK330.out 6).trans rfl, (blk_cell BK331.out 0).trans rfl, (blk_cell BK331.out 1).trans rfl, (blk_cell BK331.out 2).trans rfl⟩ (fun hHeld => ?_)
    clear hK K
    refine norm_ (a' := ?_) ?_ ?_
    rotate_left
    ·show Act.put _ (some 23) _ = _
     simp only [Act.put, List.setIfInBounds_toArray, List.set_cons_zero, List.set_cons_succ, i64_w, i32_w]
     rfl
    refine two_ (i := 3) (j := 8) (Ni := some 25) (Nj := some 6) #[true, true, true, true, false, false, false, false, false, false, false] #[true, true, true, false, false, false, false, false, true, false, false] rfl rfl rfl rfl (two_of HT_.out (by kernel_rfl)) (by decide) (by decide) (fun K hK => ?_) (fun K hK => ?_)
    ·skip
     refine goes_ Try.func11 (by kernel_rfl) rfl #[.agg #[.int .i64 a1_0, .int .i64 a1_1, .slice A1_2 l1_2.length c1_2]] (by rfl) rfl rfl aE ?_
     with_reducible refine (laws_toCloud.calls k a1_0 a1_1 _ _ l1_2 t340 t341 t342 _ ?side1 ?side2 A11.out).mono ?_
     (case side1 => exact cU (Kd.C_below HR1_2.out HB.out))
     (case side2 => exact HC1_2.out)
     rintro e w24 ⟨v343, rfl, ho0, hb⟩
     refine ⟨_, rfl, ?_⟩
     have HO344 := Aside0.mk (Kd.R_lower ho0 (below_size (lU2 GE330.out GE331.out)))
     replace BK330 := Aside0.mk (blk_below (bU BK330.out) hb)
     replace BK331 := Aside0.mk (blk_below (bU BK331.out) hb)
     replace HB := Aside0.mk (below_step (lU2 GE330.out GE331.out) hb)
     (try clear hb)
     (try clear hb2)
     (try clear hk)
     (try clear hi)
     (try clear ho0)
     obtain ⟨Ao25, co25, eo25⟩ := Kd.R_slice HO344.out
     (first | subst eo25 | (injection eo25 with f1_ f2_ f3_; have f4_ := f1_.symm; have f5_ := f3_.symm; clear f1_ f2_ f3_; subst f4_; subst f5_))
     refine hK.out _ _ ⟨(blk_cell BK330.out 0).trans rfl, (blk_cell BK330.out 1).trans rfl, (blk_cell BK330.out 2).trans rfl, (blk_cell BK330.out 3).trans rfl, (blk_cell BK330.out 4).trans rfl, (blk_cell BK330.out 5).trans rfl, (blk_cell BK330.out 6).trans rfl, (blk_cell BK331.out 0).trans rfl, (blk_cell BK331.out 1).trans rfl, (blk_cell BK331.out 2).trans rfl⟩ (fun hHeld => ?_)
     clear hK K
     refine norm_ (a' := ?_) ?_ ?_
     rotate_left
     ·show Act.put _ (some 25) _ = _
      simp only [Act.put, List.setIfInBounds_toArray, List.set_cons_zero, List.set_cons_succ, i64_w, i32_w]
      rfl
     refine two_ (i := 4) (j := 8) (Ni := some 26) (Nj := some 6) #[true, true, true, true, true, false, false, false, false, false, false] #[true, true, true, true, false, false, false, false, true, false, false] rfl rfl rfl rfl (two_of HT_.out (by kernel_rfl)) (by decide) (by decide) (fun K hK => ?_) (fun K hK => ?_)
     ·skip
      refine goes_ Try.func10 (by kernel_rfl) rfl #[.agg #[.int .i64 t333, .int .i64 t334, .int .i64 t335, .int .i64 t336, .int .i64 t337, .int .i64 t338, .int .i64 t339], .agg #[.int .i64 t340, .int .i64 t341, .slice Ao25 t342.length co25]] (by rfl) rfl rfl aE ?_
      with_reducible refine (spec_StepCloud.calls k t333 t334 t335 t336 t337 t338 t339 t340 t341 _ _ t342 t345 t346 t347 t350 _ ?side1 ?side2 A12.out).mono ?_
      (case side1 => exact cU (Kd.R_reads' HO344.out).2.2)
      (case side2 => exact (Kd.R_reads' HO344.out).2.1)
      rintro e w26 ⟨v348, rfl, ho0, hb⟩
      refine ⟨_, rfl, ?_⟩
      have HO349 := Aside0.mk (Kd.R_lower (Kd.R_new' ho0 (Kd.R_lt (rU HO344.out))) (below_size (lU2 GE330.out GE331.out)))
      replace HO344 := Aside0.mk (Kd.R_elder' (rU HO344.out) (Kd.R_base ho0) hb)
      replace BK330 := Aside0.mk (blk_below (bU BK330.out) hb)
      replace BK331 := Aside0.mk (blk_below (bU BK331.out) hb)
      replace HB := Aside0.mk (below_step (lU2 GE330.out GE331.out) hb)
      (try clear hb)
      (try clear hb2)
      (try clear hk)
      (try clear hi)
      (try clear ho0)
      refine hK.out _ _ ⟨(blk_cell BK330.out 0).trans rfl, (blk_cell BK330.out 1).trans rfl, (blk_cell BK330.out 2).trans rfl, (blk_cell BK330.out 3).trans rfl, (blk_cell BK330.out 4).trans rfl, (blk_cell BK330.out 5).trans rfl, (blk_cell BK330.out 6).trans rfl, (blk_cell BK331.out 0).trans rfl, (blk_cell BK331.out 1).trans rfl, (blk_cell BK331.out 2).trans rfl⟩ (fun hHeld => ?_)
      clear hK K
      refine norm_ (a' := ?_) ?_ ?_
      rotate_left
      ·show Act.put _ (some 26) _ = _
       simp only [Act.put, List.setIfInBounds_toArray, List.set_cons_zero, List.set_cons_succ, i64_w, i32_w]
       rfl
      refine pureA 5 21 (bz 11 63) rfl rfl (any_of HT_.out (by kernel_rfl)) ?_
      refine pureA 6 27 (bz 11 127) rfl rfl (any_of HT_.out (by kernel_rfl)) ?_
      refine pureA 7 28 (bz 11 255) rfl rfl (any_of HT_.out (by kernel_rfl)) ?_
      refine one_ (i := 8) (N := some 6) (bz 11 511) rfl rfl (one_of HT_.out (by kernel_rfl)) (by decide) (fun K hK => ?_)
      refine box_step ?hg (N := 6) ?hd (cs := #[.int .i64 0, .int .i64 0, .slice none 0 0]) (t := 35) ?hr ?_; (case hd => rfl); (case hg => rfl); (case hr => exact sE)
      intro gb351 hg w27 hbox hb
      replace HO344 := Aside0.mk (Kd.R_below (rU HO344.out) hb)
      replace HO349 := Aside0.mk (Kd.R_below (rU HO349.out) hb)
      have BK351 := Aside0.mk hbox
      have GW351 := gS w hg (lU2 GE330.out GE331.out)
      have GE351 := gS w hg (lU2 GE330.out GE331.out)
      replace HB := Aside0.mk (below_step (lU2 GE330.out GE331.out) hb)
      have NB330_351 := nL hg (bU BK330.out)
      have NB351_330 := nG hg (bU BK330.out)
      replace BK330 := Aside0.mk (blk_below (bU BK330.out) hb)
      have NB331_351 := nL hg (bU BK331.out)
      have NB351_331 := nG hg (bU BK331.out)
      replace BK331 := Aside0.mk (blk_below (bU BK331.out) hb)
      clear hb hbox hg
      refine hK.out _ _ ⟨(blk_cell BK330.out 0).trans rfl, (blk_cell BK330.out 1).trans rfl, (blk_cell BK330.out 2).trans rfl, (blk_cell BK330.out 3).trans rfl, (blk_cell BK330.out 4).trans rfl, (blk_cell BK330.out 5).trans rfl, (blk_cell BK330.out 6).trans rfl, (blk_cell BK331.out 0).trans rfl, (blk_cell BK331.out 1).trans rfl, (blk_cell BK331.out 2).trans rfl⟩ (fun hHeld => ?_)
      clear hK K
      refine norm_ (a' := ?_) ?_ ?_
      rotate_left
      ·show Act.put _ (some 6) _ = _
       simp only [Act.put, List.setIfInBounds_toArray, List.set_cons_zero, List.set_cons_succ, i64_w, i32_w]
       rfl
      exact norm_ (by simp only [putAll, Act.put, List.setIfInBounds_toArray, List.set_cons_zero, List.set_cons_succ]) (hCont (.slice Ao25 t342.length co25, v348, gb351) _ ⟨hHeld, (by (with_reducible repeat (first | apply Kd.R_alloc | apply Kd.R_drewN | apply Kd.R_drew)); exact Kd.R_mono HO344.out (fun _ hk => hk.2)), (by (with_reducible repeat (first | apply Kd.R_alloc | apply Kd.R_drewN | apply Kd.R_drew)); exact Kd.R_mono HO349.out (fun _ hk => hk.2)), (bU BK330.out), (bU BK331.out), (bU BK351.out), GW351.out, GE351.out, NB330_351.out, NB351_330.out, NB331_351.out, NB351_331.out, (lU3 GE330.out GE331.out GE351.out)⟩)
     ·skip
      refine box_step ?hg (N := 6) ?hd (cs := #[.int .i64 0, .int .i64 0, .slice none 0 0]) (t := 35) ?hr ?_; (case hd => rfl); (case hg => rfl); (case hr => exact sE)
      intro gb351 hg w25 hbox hb
      replace HO344 := Aside0.mk (Kd.R_below (rU HO344.out) hb)
      have BK351 := Aside0.mk hbox
      have GW351 := gS w hg (lU2 GE330.out GE331.out)
      have GE351 := gS w hg (lU2 GE330.out GE331.out)
      replace HB := Aside0.mk (below_step (lU2 GE330.out GE331.out) hb)
      have NB330_351 := nL hg (bU BK330.out)
      have NB351_330 := nG hg (bU BK330.out)
      replace BK330 := Aside0.mk (blk_below (bU BK330.out) hb)
      have NB331_351 := nL hg (bU BK331.out)
      have NB351_331 := nG hg (bU BK331.out)
      replace BK331 := Aside0.mk (blk_below (bU BK331.out) hb)
      clear hb hbox hg
      obtain ⟨Ao26, co26, eo26⟩ := Kd.R_slice HO344.out
      (first | subst eo26 | (injection eo26 with f1_ f2_ f3_; have f4_ := f1_.symm; have f5_ := f3_.symm; clear f1_ f2_ f3_; subst f4_; subst f5_))
      refine hK.out _ _ ⟨(blk_cell BK330.out 0).trans rfl, (blk_cell BK330.out 1).trans rfl, (blk_cell BK330.out 2).trans rfl, (blk_cell BK330.out 3).trans rfl, (blk_cell BK330.out 4).trans rfl, (blk_cell BK330.out 5).trans rfl, (blk_cell BK330.out 6).trans rfl, (blk_cell BK331.out 0).trans rfl, (blk_cell BK331.out 1).trans rfl, (blk_cell BK331.out 2).trans rfl⟩ (fun hHeld => ?_)
      clear hK K
      refine norm_ (a' := ?_) ?_ ?_
      rotate_left
      ·show Act.put _ (some 6) _ = _
       simp only [Act.put, List.setIfInBounds_toArray, List.set_cons_zero, List.set_cons_succ, i64_w, i32_w]
       rfl
      refine one_ (i := 4) (N := some 26) (bz 11 287) rfl rfl (one_of HT_.out (by kernel_rfl)) (by decide) (fun K hK => ?_)
      refine goes_ Try.func10 (by kernel_rfl) rfl #[.agg #[.int .i64 t333, .int .i64 t334, .int .i64 t335, .int .i64 t336, .int .i64 t337, .int .i64 t338, .int .i64 t339], .agg #[.int .i64 t340, .int .i64 t341, .slice Ao26 t342.length co26]] (by rfl) rfl rfl aE ?_
      with_reducible refine (spec_StepCloud.calls k t333 t334 t335 t336 t337 t338 t339 t340 t341 _ _ t342 t345 t346 t347 t350 _ ?side1 ?side2 A12.out).mono ?_
      (case side1 => exact cU (Kd.R_reads' HO344.out).2.2)
      (case side2 => exact (Kd.R_reads' HO344.out).2.1)
      rintro e w27 ⟨v348, rfl, ho0, hb⟩
      refine ⟨_, rfl, ?_⟩
      have HO349 := Aside0.mk (Kd.R_lower (Kd.R_new' ho0 (Kd.R_lt (rU HO344.out))) (below_size (lU3 GE330.out GE331.out GE351.out)))
      replace HO344 := Aside0.mk (Kd.R_elder' (rU HO344.out) (Kd.R_base ho0) hb)
      replace BK330 := Aside0.mk (blk_below (bU BK330.out) hb)
      replace BK331 := Aside0.mk (blk_below (bU BK331.out) hb)
      replace BK351 := Aside0.mk (blk_below (bU BK351.out) hb)
      replace HB := Aside0.mk (below_step (lU3 GE330.out GE331.out GE351.out) hb)
      (try clear hb)
      (try clear hb2)
      (try clear hk)
      (try clear hi)
      (try clear ho0)
      refine hK.out _ _ ⟨(blk_cell BK330.out 0).trans rfl, (blk_cell BK330.out 1).trans rfl, (blk_cell BK330.out 2).trans rfl, (blk_cell BK330.out 3).trans rfl, (blk_cell BK330.out 4).trans rfl, (blk_cell BK330.out 5).trans rfl, (blk_cell BK330.out 6).trans rfl, (blk_cell BK331.out 0).trans rfl, (blk_cell BK331.out 1).trans rfl, (blk_cell BK331.out 2).trans rfl⟩ (fun hHeld => ?_)
      clear hK K
      refine norm_ (a' := ?_) ?_ ?_
      rotate_left
      ·show Act.put _ (some 26) _ = _
       simp only [Act.put, List.setIfInBounds_toArray, List.set_cons_zero, List.set_cons_succ, i64_w, i32_w]
       rfl
      refine pureA 5 21 (bz 11 319) rfl rfl (any_of HT_.out (by kernel_rfl)) ?_
      refine pureA 6 27 (bz 11 383) rfl rfl (any_of HT_.out (by kernel_rfl)) ?_
      refine pureA 7 28 (bz 11 511) rfl rfl (any_of HT_.out (by kernel_rfl)) ?_
      exact norm_ (by simp only [putAll, Act.put, List.setIfInBounds_toArray, List.set_cons_zero, List.set_cons_succ]) (hCont (.slice Ao26 t342.length co26, v348, gb351) _ ⟨hHeld, (by (with_reducible repeat (first | apply Kd.R_alloc | apply Kd.R_drewN | apply Kd.R_drew)); exact Kd.R_mono HO344.out (fun _ hk => hk.2)), (by (with_reducible repeat (first | apply Kd.R_alloc | apply Kd.R_drewN | apply Kd.R_drew)); exact Kd.R_mono HO349.out (fun _ hk => hk.2)), (bU BK330.out), (bU BK331.out), (bU BK351.out), GW351.out, GE351.out, NB330_351.out, NB351_330.out, NB331_351.out, NB351_331.out, (lU3 GE330.out GE331.out GE351.out)⟩)
    ·skip
     refine box_step ?hg (N := 6) ?hd (cs := #[.int .i64 0, .int .i64 0, .slice none 0 0]) (t := 35) ?hr ?_; (case hd => rfl); (case hg => rfl); (case hr => exact sE)
     intro gb351 hg w24 hbox hb
     have BK351 := Aside0.mk hbox
     have GW351 := gS w hg (lU2 GE330.out GE331.out)
     have GE351 := gS w hg (lU2 GE330.out GE331.out)
     replace HB := Aside0.mk (below_step (lU2 GE330.out GE331.out) hb)
     have NB330_351 := nL hg (bU BK330.out)
     have NB351_330 := nG hg (bU BK330.out)
     replace BK330 := Aside0.mk (blk_below (bU BK330.out) hb)
     have NB331_351 := nL hg (bU BK331.out)
     have NB351_331 := nG hg (bU BK331.out)
     replace BK331 := Aside0.mk (blk_below (bU BK331.out) hb)
     clear hb hbox hg
     refine hK.out _ _ ⟨(blk_cell BK330.out 0).trans rfl, (blk_cell BK330.out 1).trans rfl, (blk_cell BK330.out 2).trans rfl, (blk_cell BK330.out 3).trans rfl, (blk_cell BK330.out 4).trans rfl, (blk_cell BK330.out 5).trans rfl, (blk_cell BK330.out 6).trans rfl, (blk_cell BK331.out 0).trans rfl, (blk_cell BK331.out 1).trans rfl, (blk_cell BK331.out 2).trans rfl⟩ (fun hHeld => ?_)
     clear hK K
     refine norm_ (a' := ?_) ?_ ?_
     rotate_left
     ·show Act.put _ (some 6) _ = _
      simp only [Act.put, List.setIfInBounds_toArray, List.set_cons_zero, List.set_cons_succ, i64_w, i32_w]
      rfl
     refine one_ (i := 3) (N := some 25) (bz 11 271) rfl rfl (one_of HT_.out (by kernel_rfl)) (by decide) (fun K hK => ?_)
     refine goes_ Try.func11 (by kernel_rfl) rfl #[.agg #[.int .i64 a1_0, .int .i64 a1_1, .slice A1_2 l1_2.length c1_2]] (by rfl) rfl rfl aE ?_
     with_reducible refine (laws_toCloud.calls k a1_0 a1_1 _ _ l1_2 t340 t341 t342 _ ?side1 ?side2 A11.out).mono ?_
     (case side1 => exact cU (Kd.C_below HR1_2.out HB.out))
     (case side2 => exact HC1_2.out)
     rintro e w25 ⟨v343, rfl, ho0, hb⟩
     refine ⟨_, rfl, ?_⟩
     have HO344 := Aside0.mk (Kd.R_lower ho0 (below_size (lU3 GE330.out GE331.out GE351.out)))
     replace BK330 := Aside0.mk (blk_below (bU BK330.out) hb)
     replace BK331 := Aside0.mk (blk_below (bU BK331.out) hb)
     replace BK351 := Aside0.mk (blk_below (bU BK351.out) hb)
     replace HB := Aside0.mk (below_step (lU3 GE330.out GE331.out GE351.out) hb)
     (try clear hb)
     (try clear hb2)
     (try clear hk)
     (try clear hi)
     (try clear ho0)
     obtain ⟨Ao26, co26, eo26⟩ := Kd.R_slice HO344.out
     (first | subst eo26 | (injection eo26 with f1_ f2_ f3_; have f4_ := f1_.symm; have f5_ := f3_.symm; clear f1_ f2_ f3_; subst f4_; subst f5_))
     refine hK.out _ _ ⟨(blk_cell BK330.out 0).trans rfl, (blk_cell BK330.out 1).trans rfl, (blk_cell BK330.out 2).trans rfl, (blk_cell BK330.out 3).trans rfl, (blk_cell BK330.out 4).trans rfl, (blk_cell BK330.out 5).trans rfl, (blk_cell BK330.out 6).trans rfl, (blk_cell BK331.out 0).trans rfl, (blk_cell BK331.out 1).trans rfl, (blk_cell BK331.out 2).trans rfl⟩ (fun hHeld => ?_)
     clear hK K
     refine norm_ (a' := ?_) ?_ ?_
     rotate_left
     ·show Act.put _ (some 25) _ = _
      simp only [Act.put, List.setIfInBounds_toArray, List.set_cons_zero, List.set_cons_succ, i64_w, i32_w]
      rfl
     refine one_ (i := 4) (N := some 26) (bz 11 287) rfl rfl (one_of HT_.out (by kernel_rfl)) (by decide) (fun K hK => ?_)
     refine goes_ Try.func10 (by kernel_rfl) rfl #[.agg #[.int .i64 t333, .int .i64 t334, .int .i64 t335, .int .i64 t336, .int .i64 t337, .int .i64 t338, .int .i64 t339], .agg #[.int .i64 t340, .int .i64 t341, .slice Ao26 t342.length co26]] (by rfl) rfl rfl aE ?_
     with_reducible refine (spec_StepCloud.calls k t333 t334 t335 t336 t337 t338 t339 t340 t341 _ _ t342 t345 t346 t347 t350 _ ?side1 ?side2 A12.out).mono ?_
     (case side1 => exact cU (Kd.R_reads' HO344.out).2.2)
     (case side2 => exact (Kd.R_reads' HO344.out).2.1)
     rintro e w27 ⟨v348, rfl, ho0, hb⟩
     refine ⟨_, rfl, ?_⟩
     have HO349 := Aside0.mk (Kd.R_lower (Kd.R_new' ho0 (Kd.R_lt (rU HO344.out))) (below_size (lU3 GE330.out GE331.out GE351.out)))
     replace HO344 := Aside0.mk (Kd.R_elder' (rU HO344.out) (Kd.R_base ho0) hb)
     replace BK330 := Aside0.mk (blk_below (bU BK330.out) hb)
     replace BK331 := Aside0.mk (blk_below (bU BK331.out) hb)
     replace BK351 := Aside0.mk (blk_below (bU BK351.out) hb)
     replace HB := Aside0.mk (below_step (lU3 GE330.out GE331.out GE351.out) hb)
     (try clear hb)
     (try clear hb2)
     (try clear hk)
     (try clear hi)
     (try clear ho0)
     refine hK.out _ _ ⟨(blk_cell BK330.out 0).trans rfl, (blk_cell BK330.out 1).trans rfl, (blk_cell BK330.out 2).trans rfl, (blk_cell BK330.out 3).trans rfl, (blk_cell BK330.out 4).trans rfl, (blk_cell BK330.out 5).trans rfl, (blk_cell BK330.out 6).trans rfl, (blk_cell BK331.out 0).trans rfl, (blk_cell BK331.out 1).trans rfl, (blk_cell BK331.out 2).trans rfl⟩ (fun hHeld => ?_)
     clear hK K
     refine norm_ (a' := ?_) ?_ ?_
     rotate_left
     ·show Act.put _ (some 26) _ = _
      simp only [Act.put, List.setIfInBounds_toArray, List.set_cons_zero, List.set_cons_succ, i64_w, i32_w]
      rfl
     refine pureA 5 21 (bz 11 319) rfl rfl (any_of HT_.out (by kernel_rfl)) ?_
     refine pureA 6 27 (bz 11 383) rfl rfl (any_of HT_.out (by kernel_rfl)) ?_
     refine pureA 7 28 (bz 11 511) rfl rfl (any_of HT_.out (by kernel_rfl)) ?_
     exact norm_ (by simp only [putAll, Act.put, List.setIfInBounds_toArray, List.set_cons_zero, List.set_cons_succ]) (hCont (.slice Ao26 t342.length co26, v348, gb351) _ ⟨hHeld, (by (with_reducible repeat (first | apply Kd.R_alloc | apply Kd.R_drewN | apply Kd.R_drew)); exact Kd.R_mono HO344.out (fun _ hk => hk.2)), (by (with_reducible repeat (first | apply Kd.R_alloc | apply Kd.R_drewN | apply Kd.R_drew)); exact Kd.R_mono HO349.out (fun _ hk => hk.2)), (bU BK330.out), (bU BK331.out), (bU BK351.out), GW351.out, GE351.out, NB330_351.out, NB351_330.out, NB331_351.out, NB351_331.out, (lU3 GE330.out GE331.out GE351.out)⟩)
   ·skip
    refine box_step ?hg (N := 6) ?hd (cs := #[.int .i64 0, .int .i64 0, .slice none 0 0]) (t := 35) ?hr ?_; (case hd => rfl); (case hg => rfl); (case hr => exact sE)
    intro gb351 hg w23 hbox hb
    have BK351 := Aside0.mk hbox
    have GW351 := gS w hg (lU2 GE330.out GE331.out)
    have GE351 := gS w hg (lU2 GE330.out GE331.out)
    replace HB := Aside0.mk (below_step (lU2 GE330.out GE331.out) hb)
    have NB330_351 := nL hg (bU BK330.out)
    have NB351_330 := nG hg (bU BK330.out)
    replace BK330 := Aside0.mk (blk_below (bU BK330.out) hb)
    have NB331_351 := nL hg (bU BK331.out)
    have NB351_331 := nG hg (bU BK331.out)
    replace BK331 := Aside0.mk (blk_below (bU BK331.out) hb)
    clear hb hbox hg
    refine hK.out _ _ ⟨(blk_cell BK330.out 0).trans rfl, (blk_cell BK330.out 1).trans rfl, (blk_cell BK330.out 2).trans rfl, (blk_cell BK330.out 3).trans rfl, (blk_cell BK330.out 4).trans rfl, (blk_cell BK330.out 5).trans rfl, (blk_cell BK330.out 6).trans rfl, (blk_cell BK331.out 0).trans rfl, (blk_cell BK331.out 1).trans rfl, (blk_cell BK331.out 2).trans rfl⟩ (fun hHeld => ?_)
    clear hK K
    refine norm_ (a' := ?_) ?_ ?_
    rotate_left
    ·show Act.put _ (some 6) _ = _
     simp only [Act.put, List.setIfInBounds_toArray, List.set_cons_zero, List.set_cons_succ, i64_w, i32_w]
     rfl
    refine one_ (i := 1) (N := some 23) (bz 11 263) rfl rfl (one_of HT_.out (by kernel_rfl)) (by decide) (fun K hK => ?_)
    refine goes_ Try.func7 (by kernel_rfl) rfl #[.agg #[.int .i64 a0_0, .int .i64 a0_1, .int .i64 a0_2, .int .i64 a0_3, .int .i64 a0_4, .int .i64 a0_5, .int .i64 a0_6]] (by rfl) rfl rfl aE ?_
    with_reducible refine (laws_toEmitter.calls a0_0 a0_1 a0_2 a0_3 a0_4 a0_5 a0_6 t333 t334 t335 t336 t337 t338 t339 _ A10.out).mono ?_
    rintro e w24 ⟨rfl, hb⟩
    refine ⟨_, rfl, ?_⟩
    replace BK330 := Aside0.mk (blk_below (bU BK330.out) hb)
    replace BK331 := Aside0.mk (blk_below (bU BK331.out) hb)
    replace BK351 := Aside0.mk (blk_below (bU BK351.out) hb)
    replace HB := Aside0.mk (below_step (lU3 GE330.out GE331.out GE351.out) hb)
    (try clear hb)
    (try clear hb2)
    (try clear hk)
    (try clear hi)
    refine hK.out _ _ ⟨(blk_cell BK330.out 0).trans rfl, (blk_cell BK330.out 1).trans rfl, (blk_cell BK330.out 2).trans rfl, (blk_cell BK330.out 3).trans rfl, (blk_cell BK330.out 4).trans rfl, (blk_cell BK330.out 5).trans rfl, (blk_cell BK330.out 6).trans rfl, (blk_cell BK331.out 0).trans rfl, (blk_cell BK331.out 1).trans rfl, (blk_cell BK331.out 2).trans rfl⟩ (fun hHeld => ?_)
    clear hK K
    refine norm_ (a' := ?_) ?_ ?_
    rotate_left
    ·show Act.put _ (some 23) _ = _
     simp only [Act.put, List.setIfInBounds_toArray, List.set_cons_zero, List.set_cons_succ, i64_w, i32_w]
     rfl
    refine one_ (i := 3) (N := some 25) (bz 11 271) rfl rfl (one_of HT_.out (by kernel_rfl)) (by decide) (fun K hK => ?_)
    refine goes_ Try.func11 (by kernel_rfl) rfl #[.agg #[.int .i64 a1_0, .int .i64 a1_1, .slice A1_2 l1_2.length c1_2]] (by rfl) rfl rfl aE ?_
    with_reducible refine (laws_toCloud.calls k a1_0 a1_1 _ _ l1_2 t340 t341 t342 _ ?side1 ?side2 A11.out).mono ?_
    (case side1 => exact cU (Kd.C_below HR1_2.out HB.out))
    (case side2 => exact HC1_2.out)
    rintro e w25 ⟨v343, rfl, ho0, hb⟩
    refine ⟨_, rfl, ?_⟩
    have HO344 := Aside0.mk (Kd.R_lower ho0 (below_size (lU3 GE330.out GE331.out GE351.out)))
    replace BK330 := Aside0.mk (blk_below (bU BK330.out) hb)
    replace BK331 := Aside0.mk (blk_below (bU BK331.out) hb)
    replace BK351 := Aside0.mk (blk_below (bU BK351.out) hb)
    replace HB := Aside0.mk (below_step (lU3 GE330.out GE331.out GE351.out) hb)
    (try clear hb)
    (try clear hb2)
    (try clear hk)
    (try clear hi)
    (try clear ho0)
    obtain ⟨Ao26, co26, eo26⟩ := Kd.R_slice HO344.out
    (first | subst eo26 | (injection eo26 with f1_ f2_ f3_; have f4_ := f1_.symm; have f5_ := f3_.symm; clear f1_ f2_ f3_; subst f4_; subst f5_))
    refine hK.out _ _ ⟨(blk_cell BK330.out 0).trans rfl, (blk_cell BK330.out 1).trans rfl, (blk_cell BK330.out 2).trans rfl, (blk_cell BK330.out 3).trans rfl, (blk_cell BK330.out 4).trans rfl, (blk_cell BK330.out 5).trans rfl, (blk_cell BK330.out 6).trans rfl, (blk_cell BK331.out 0).trans rfl, (blk_cell BK331.out 1).trans rfl, (blk_cell BK331.out 2).trans rfl⟩ (fun hHeld => ?_)
    clear hK K
    refine norm_ (a' := ?_) ?_ ?_
    rotate_left
    ·show Act.put _ (some 25) _ = _
     simp only [Act.put, List.setIfInBounds_toArray, List.set_cons_zero, List.set_cons_succ, i64_w, i32_w]
     rfl
    refine one_ (i := 4) (N := some 26) (bz 11 287) rfl rfl (one_of HT_.out (by kernel_rfl)) (by decide) (fun K hK => ?_)
    refine goes_ Try.func10 (by kernel_rfl) rfl #[.agg #[.int .i64 t333, .int .i64 t334, .int .i64 t335, .int .i64 t336, .int .i64 t337, .int .i64 t338, .int .i64 t339], .agg #[.int .i64 t340, .int .i64 t341, .slice Ao26 t342.length co26]] (by rfl) rfl rfl aE ?_
    with_reducible refine (spec_StepCloud.calls k t333 t334 t335 t336 t337 t338 t339 t340 t341 _ _ t342 t345 t346 t347 t350 _ ?side1 ?side2 A12.out).mono ?_
    (case side1 => exact cU (Kd.R_reads' HO344.out).2.2)
    (case side2 => exact (Kd.R_reads' HO344.out).2.1)
    rintro e w27 ⟨v348, rfl, ho0, hb⟩
    refine ⟨_, rfl, ?_⟩
    have HO349 := Aside0.mk (Kd.R_lower (Kd.R_new' ho0 (Kd.R_lt (rU HO344.out))) (below_size (lU3 GE330.out GE331.out GE351.out)))
    replace HO344 := Aside0.mk (Kd.R_elder' (rU HO344.out) (Kd.R_base ho0) hb)
    replace BK330 := Aside0.mk (blk_below (bU BK330.out) hb)
    replace BK331 := Aside0.mk (blk_below (bU BK331.out) hb)
    replace BK351 := Aside0.mk (blk_below (bU BK351.out) hb)
    replace HB := Aside0.mk (below_step (lU3 GE330.out GE331.out GE351.out) hb)
    (try clear hb)
    (try clear hb2)
    (try clear hk)
    (try clear hi)
    (try clear ho0)
    refine hK.out _ _ ⟨(blk_cell BK330.out 0).trans rfl, (blk_cell BK330.out 1).trans rfl, (blk_cell BK330.out 2).trans rfl, (blk_cell BK330.out 3).trans rfl, (blk_cell BK330.out 4).trans rfl, (blk_cell BK330.out 5).trans rfl, (blk_cell BK330.out 6).trans rfl, (blk_cell BK331.out 0).trans rfl, (blk_cell BK331.out 1).trans rfl, (blk_cell BK331.out 2).trans rfl⟩ (fun hHeld => ?_)
    clear hK K
    refine norm_ (a' := ?_) ?_ ?_
    rotate_left
    ·show Act.put _ (some 26) _ = _
     simp only [Act.put, List.setIfInBounds_toArray, List.set_cons_zero, List.set_cons_succ, i64_w, i32_w]
     rfl
    refine pureA 5 21 (bz 11 319) rfl rfl (any_of HT_.out (by kernel_rfl)) ?_
    refine pureA 6 27 (bz 11 383) rfl rfl (any_of HT_.out (by kernel_rfl)) ?_
    refine pureA 7 28 (bz 11 511) rfl rfl (any_of HT_.out (by kernel_rfl)) ?_
    exact norm_ (by simp only [putAll, Act.put, List.setIfInBounds_toArray, List.set_cons_zero, List.set_cons_succ]) (hCont (.slice Ao26 t342.length co26, v348, gb351) _ ⟨hHeld, (by (with_reducible repeat (first | apply Kd.R_alloc | apply Kd.R_drewN | apply Kd.R_drew)); exact Kd.R_mono HO344.out (fun _ hk => hk.2)), (by (with_reducible repeat (first | apply Kd.R_alloc | apply Kd.R_drewN | apply Kd.R_drew)); exact Kd.R_mono HO349.out (fun _ hk => hk.2)), (bU BK330.out), (bU BK331.out), (bU BK351.out), GW351.out, GE351.out, NB330_351.out, NB351_330.out, NB331_351.out, NB351_331.out, (lU3 GE330.out GE331.out GE351.out)⟩)
  rintro ⟨v343, v348, gb351⟩ w28 ⟨hS_, h0_, h1_, h2_, h3_, h4_, h5_, h6_, h7_, h8_, h9_, h10_, h11_⟩
  have HO344 : Aside0 (Kd.R k48 48 w28 w.heap.size (fun k_ => some k_ ≠ (v348 : Value).ownBlock) v343 t342) := ⟨h0_⟩
  have HO349 : Aside0 (Kd.R k48 48 w28 w.heap.size (fun k_ => some k_ ≠ (v343 : Value).ownBlock) v348 t347) := ⟨h1_⟩
  replace BK330 : Aside0 (w28.heap[gb330]? = some (.cells #[.int .i64 a0_0, .int .i64 a0_1, .int .i64 a0_2, .int .i64 a0_3, .int .i64 a0_4, .int .i64 a0_5, .int .i64 a0_6] 23 (0, 0))) := ⟨h2_⟩
  replace BK331 : Aside0 (w28.heap[gb331]? = some (.cells #[.int .i64 a1_0, .int .i64 a1_1, .slice A1_2 l1_2.length c1_2] 31 (0, 0))) := ⟨h3_⟩
  have BK351 : Aside0 (w28.heap[gb351]? = some (.cells #[.int .i64 0, .int .i64 0, .slice none 0 0] 35 (0, 0))) := ⟨h4_⟩
  have GW351 : Aside0 (w.heap.size ≤ gb351) := ⟨h5_⟩
  have GE351 : Aside0 (w.heap.size ≤ gb351) := ⟨h6_⟩
  have NB330_351 : Aside0 (gb330 ≠ gb351) := ⟨h7_⟩
  have NB351_330 : Aside0 (gb351 ≠ gb330) := ⟨h8_⟩
  have NB331_351 : Aside0 (gb331 ≠ gb351) := ⟨h9_⟩
  have NB351_331 : Aside0 (gb351 ≠ gb331) := ⟨h10_⟩
  replace HB : Aside0 (Below w.heap.size w w28) := ⟨h11_⟩
  clear h0_ h1_ h2_ h3_ h4_ h5_ h6_ h7_ h8_ h9_ h10_ h11_
  have hHeld : w28.cell? ⟨gb330, 0, none⟩ = some (.int .i64 a0_0) ∧ w28.cell? ⟨gb330, 1, none⟩ = some (.int .i64 a0_1) ∧ w28.cell? ⟨gb330, 2, none⟩ = some (.int .i64 a0_2) ∧ w28.cell? ⟨gb330, 3, none⟩ = some (.int .i64 a0_3) ∧ w28.cell? ⟨gb330, 4, none⟩ = some (.int .i64 a0_4) ∧ w28.cell? ⟨gb330, 5, none⟩ = some (.int .i64 a0_5) ∧ w28.cell? ⟨gb330, 6, none⟩ = some (.int .i64 a0_6) ∧ w28.cell? ⟨gb331, 0, none⟩ = some (.int .i64 a1_0) ∧ w28.cell? ⟨gb331, 1, none⟩ = some (.int .i64 a1_1) ∧ w28.cell? ⟨gb331, 2, none⟩ = some (.slice A1_2 l1_2.length c1_2) := hS_
  obtain ⟨Ao31, co31, eo31⟩ := Kd.R_slice HO349.out
  (first | subst eo31 | (injection eo31 with f1_ f2_ f3_; have f4_ := f1_.symm; have f5_ := f3_.symm; clear f1_ f2_ f3_; subst f4_; subst f5_))
  refine norm_ (a' := ?_) ?_ ?_
  rotate_left
  ·simp only [putAll, Act.put, List.setIfInBounds_toArray, List.set_cons_zero, List.set_cons_succ]
   rfl
  refine one_ (i := 9) (N := none) (bz 11 1023) rfl rfl (one_of HT_.out (by kernel_rfl)) (by decide) (fun K hK => ?_)
  have hs29 : w28.cell? ⟨gb351, 0, none⟩ = some (.int .i64 0) := (blk_cell BK351.out 0).trans rfl
  have hfs29 := blk_frozen BK351.out 0
  have hns29_0 := NB330_351.out
  have hns29_1 := NB331_351.out
  have hms29_0 := NB351_330.out
  have hms29_1 := NB351_331.out
  have hs30 : w28.cell? ⟨gb351, 1, none⟩ = some (.int .i64 0) := (blk_cell BK351.out 1).trans rfl
  have hfs30 := blk_frozen BK351.out 1
  have hns30_0 := NB330_351.out
  have hns30_1 := NB331_351.out
  have hms30_0 := NB351_330.out
  have hms30_1 := NB351_331.out
  have hs32 : w28.cell? ⟨gb351, 2, none⟩ = some (.slice none 0 0) := (blk_cell BK351.out 2).trans rfl
  have hfs32 := blk_frozen BK351.out 2
  have hns32_0 := NB330_351.out
  have hns32_1 := NB331_351.out
  have hms32_0 := NB351_330.out
  have hms32_1 := NB351_331.out
  refine skip_ (w1 := ?_) (by rfl) rfl ?_ ?_
  rotate_left
  ·go_simp
   rfl
  refine hK.out _ _ ⟨((cell_far (p := ⟨gb351, _, none⟩) NB330_351.out _).trans (((cell_far (p := ⟨gb351, _, none⟩) NB330_351.out _).trans (((cell_far (p := ⟨gb351, _, none⟩) NB330_351.out _).trans (hHeld.1)))))), ((cell_far (p := ⟨gb351, _, none⟩) NB330_351.out _).trans (((cell_far (p := ⟨gb351, _, none⟩) NB330_351.out _).trans (((cell_far (p := ⟨gb351, _, none⟩) NB330_351.out _).trans (hHeld.2.1)))))), ((cell_far (p := ⟨gb351, _, none⟩) NB330_351.out _).trans (((cell_far (p := ⟨gb351, _, none⟩) NB330_351.out _).trans (((cell_far (p := ⟨gb351, _, none⟩) NB330_351.out _).trans (hHeld.2.2.1)))))), ((cell_far (p := ⟨gb351, _, none⟩) NB330_351.out _).trans (((cell_far (p := ⟨gb351, _, none⟩) NB330_351.out _).trans (((cell_far (p := ⟨gb351, _, none⟩) NB330_351.out _).trans (hHeld.2.2.2.1)))))), ((cell_far (p := ⟨gb351, _, none⟩) NB330_351.out _).trans (((cell_far (p := ⟨gb351, _, none⟩) NB330_351.out _).trans (((cell_far (p := ⟨gb351, _, none⟩) NB330_351.out _).trans (hHeld.2.2.2.2.1)))))), ((cell_far (p := ⟨gb351, _, none⟩) NB330_351.out _).trans (((cell_far (p := ⟨gb351, _, none⟩) NB330_351.out _).trans (((cell_far (p := ⟨gb351, _, none⟩) NB330_351.out _).trans (hHeld.2.2.2.2.2.1)))))), ((cell_far (p := ⟨gb351, _, none⟩) NB330_351.out _).trans (((cell_far (p := ⟨gb351, _, none⟩) NB330_351.out _).trans (((cell_far (p := ⟨gb351, _, none⟩) NB330_351.out _).trans (hHeld.2.2.2.2.2.2.1)))))), ((cell_far (p := ⟨gb351, _, none⟩) NB331_351.out _).trans (((cell_far (p := ⟨gb351, _, none⟩) NB331_351.out _).trans (((cell_far (p := ⟨gb351, _, none⟩) NB331_351.out _).trans (hHeld.2.2.2.2.2.2.2.1)))))), ((cell_far (p := ⟨gb351, _, none⟩) NB331_351.out _).trans (((cell_far (p := ⟨gb351, _, none⟩) NB331_351.out _).trans (((cell_far (p := ⟨gb351, _, none⟩) NB331_351.out _).trans (hHeld.2.2.2.2.2.2.2.2.1)))))), ((cell_far (p := ⟨gb351, _, none⟩) NB331_351.out _).trans (((cell_far (p := ⟨gb351, _, none⟩) NB331_351.out _).trans (((cell_far (p := ⟨gb351, _, none⟩) NB331_351.out _).trans (hHeld.2.2.2.2.2.2.2.2.2))))))⟩ (fun hHeld => ?_)
  clear hK K
  refine pureA 10 7 (bz 11 2047) rfl rfl (any_of HT_.out (by kernel_rfl)) ?_
  refine done_ (done_of HT_.out (by kernel_rfl)) ?_
  have hnb33 := NB331_351.out
  have hnc33 := NB351_331.out
  have hcz34_0 : w28.cell? ⟨gb331, 0, none⟩ = some (.int .i64 a1_0) := (blk_cell BK331.out 0).trans rfl
  have hcz34_1 : w28.cell? ⟨gb331, 1, none⟩ = some (.int .i64 a1_1) := (blk_cell BK331.out 1).trans rfl
  have hcz34_2 : w28.cell? ⟨gb331, 2, none⟩ = some (.slice A1_2 l1_2.length c1_2) := (blk_cell BK331.out 2).trans rfl
  have hfz34_0 := blk_frozen BK331.out 0
  have hfz34_1 := blk_frozen BK331.out 1
  have hfz34_2 := blk_frozen BK331.out 2
  try go_wp2_with (first | ((with_reducible refine gate_callee (f := 11) rfl ?_); refine goesL_ (some 30) rfl rfl Try.func11 (by kernel_rfl) rfl #[.agg #[.int .i64 a1_0, .int .i64 a1_1, .slice A1_2 l1_2.length c1_2]] rfl aE ?_; (with_reducible refine (laws_toCloud.calls k a1_0 a1_1 _ _ l1_2 t352 t353 t354 _ ?side1 ?side2 A13.out).mono ?_); (case side1 => exact Kd.C_below HR1_2.out (lU3 GE330.out GE331.out GE351.out)); (case side2 => exact HC1_2.out); rintro e w35 ⟨v355, rfl, ho0, hb⟩; refine ⟨_, rfl, ?_⟩; have HO356 := Aside0.mk (Kd.R_lower (Kd.R_new' (Kd.R_new' ho0 (Kd.R_lt (rU (Kd.R_mono (Kd.R_far (p := ⟨gb351, 2, none⟩) (Kd.R_far (p := ⟨gb351, 1, none⟩) (Kd.R_far (p := ⟨gb351, 0, none⟩) (Kd.R_types HO344.out BK351.out (by decide)) (fun _ hk => hk.2) (.int .i64 t345)) (fun _ hk => hk.2) (.int .i64 t346)) (fun _ hk => hk.2) (.slice Ao31 t347.length co31)) (fun _ h_ => h_.1))))) (Kd.R_lt (rU (Kd.R_mono (Kd.R_far (p := ⟨gb351, 2, none⟩) (Kd.R_far (p := ⟨gb351, 1, none⟩) (Kd.R_far (p := ⟨gb351, 0, none⟩) (Kd.R_types HO349.out BK351.out (by decide)) (fun _ hk => hk.2) (.int .i64 t345)) (fun _ hk => hk.2) (.int .i64 t346)) (fun _ hk => hk.2) (.slice Ao31 t347.length co31)) (fun _ h_ => h_.1))))) (below_size (lU3 GE330.out GE331.out GE351.out))); replace HO344 := Aside0.mk (Kd.R_elder' (rU (Kd.R_mono (Kd.R_far (p := ⟨gb351, 2, none⟩) (Kd.R_far (p := ⟨gb351, 1, none⟩) (Kd.R_far (p := ⟨gb351, 0, none⟩) (Kd.R_types HO344.out BK351.out (by decide)) (fun _ hk => hk.2) (.int .i64 t345)) (fun _ hk => hk.2) (.int .i64 t346)) (fun _ hk => hk.2) (.slice Ao31 t347.length co31)) (fun _ h_ => h_.1))) (Kd.R_base ho0) hb); replace HO349 := Aside0.mk (Kd.R_elder' (rU (Kd.R_mono (Kd.R_far (p := ⟨gb351, 2, none⟩) (Kd.R_far (p := ⟨gb351, 1, none⟩) (Kd.R_far (p := ⟨gb351, 0, none⟩) (Kd.R_types HO349.out BK351.out (by decide)) (fun _ hk => hk.2) (.int .i64 t345)) (fun _ hk => hk.2) (.int .i64 t346)) (fun _ hk => hk.2) (.slice Ao31 t347.length co31)) (fun _ h_ => h_.1))) (Kd.R_base ho0) hb); replace BK330 := Aside0.mk (blk_below (bF NB330_351.out BK330.out) hb); replace BK331 := Aside0.mk (blk_below (bF NB331_351.out BK331.out) hb); replace BK351 := Aside0.mk (blk_below (g := gb351) (o := .cells #[.int .i64 t345, .int .i64 t346, .slice Ao31 t347.length co31] 35 (0, 0)) (by refine bU ?_; refine blk_put (cs := #[.int .i64 t345, .int .i64 t346, .slice none 0 0]) ?_ 2 _ rfl; refine bU ?_; refine blk_put (cs := #[.int .i64 t345, .int .i64 0, .slice none 0 0]) ?_ 1 _ rfl; refine bU ?_; refine blk_put (cs := #[.int .i64 0, .int .i64 0, .slice none 0 0]) ?_ 0 _ rfl; refine bU ?_; exact BK351.out) hb); replace HB := Aside0.mk (below_step (lU3 GE330.out GE331.out GE351.out) hb); (try clear hb); (try clear hb2); (try clear hk); (try clear hi); (try clear ho0)) | ((with_reducible refine gate_dst (N := 8) rfl ?_); refine box_event rfl (N := 8) rfl (cs := #[.int .i64 0, .int .i64 0, .slice none 0 0]) (t := 35) sE ?_; intro gb357 hg w36 hbox hb; replace HO344 := Aside0.mk (Kd.R_below (rU HO344.out) hb); replace HO349 := Aside0.mk (Kd.R_below (rU HO349.out) hb); replace HO356 := Aside0.mk (Kd.R_below (rU HO356.out) hb); have BK357 := Aside0.mk hbox; have GW357 := gS w hg (lU3 GE330.out GE331.out GE351.out); have GE357 := GW357; replace HB := Aside0.mk (below_step (lU3 GE330.out GE331.out GE351.out) hb); have NB330_357 := nL hg (bU BK330.out); have NB357_330 := nG hg (bU BK330.out); replace BK330 := Aside0.mk (blk_below (bU BK330.out) hb); have NB331_357 := nL hg (bU BK331.out); have NB357_331 := nG hg (bU BK331.out); replace BK331 := Aside0.mk (blk_below (bU BK331.out) hb); have NB351_357 := nL hg (bU BK351.out); have NB357_351 := nG hg (bU BK351.out); replace BK351 := Aside0.mk (blk_below (bU BK351.out) hb); clear hb hbox hg; have hnb37 := NB357_330.out; have hnc37 := NB330_357.out; have hnb38 := NB357_331.out; have hnc38 := NB331_357.out; have hnb39 := NB357_351.out; have hnc39 := NB351_357.out; have hcz40_0 : w36.cell? ⟨gb357, 0, none⟩ = some (.int .i64 0) := (blk_cell BK357.out 0).trans rfl; have hcz40_1 : w36.cell? ⟨gb357, 1, none⟩ = some (.int .i64 0) := (blk_cell BK357.out 1).trans rfl; have hcz40_2 : w36.cell? ⟨gb357, 2, none⟩ = some (.slice none 0 0) := (blk_cell BK357.out 2).trans rfl; have hfz40_0 := blk_frozen BK357.out 0; have hfz40_1 := blk_frozen BK357.out 1; have hfz40_2 := blk_frozen BK357.out 2; obtain ⟨Ao41, co41, eo41⟩ := Kd.R_slice HO356.out; subst eo41) | ((with_reducible refine gate_store (t := 35) (p := 8) rfl ?_); refine store_event (t := 35) (p := 8) (v := ?vo_w42) (w1 := (((w36.setCell ⟨gb357, 0, none⟩ (.int .i64 t352)).setCell ⟨gb357, 1, none⟩ (.int .i64 t353)).setCell ⟨gb357, 2, none⟩ (.slice Ao41 t354.length co41))) ?hg ?ho ?hn ?hr ?_; (case ho => rfl); (case hg => rfl); (case hn => rfl); (case hr => first | (go_simp; done) | (go_simp; rfl) | (have hq0_ := (blk_cell BK357.out 0).trans (show _ = some _ from rfl); have hf0_ := blk_frozen BK357.out 0; have hq1_ := (blk_cell BK357.out 1).trans (show _ = some _ from rfl); have hf1_ := blk_frozen BK357.out 1; have hq2_ := (blk_cell BK357.out 2).trans (show _ = some _ from rfl); have hf2_ := blk_frozen BK357.out 2; first | (go_simp; done) | (go_simp; rfl))); intro w42 hw; replace HO344 : Aside0 (Kd.R k48 48 w42 w.heap.size (fun k_ => some k_ ≠ (.slice Ao31 t347.length co31 : Value).ownBlock ∧ some k_ ≠ (.slice Ao41 t354.length co41 : Value).ownBlock) v343 t342) := ⟨(by rw [hw]; exact (by (with_reducible repeat (first | apply Kd.R_alloc | apply Kd.R_drewN | apply Kd.R_drew)); exact Kd.R_mono (Kd.R_far (p := ⟨gb357, 2, none⟩) (Kd.R_far (p := ⟨gb357, 1, none⟩) (Kd.R_far (p := ⟨gb357, 0, none⟩) (Kd.R_types HO344.out BK357.out (by decide)) (fun _ hk => hk.2) (.int .i64 t352)) (fun _ hk => hk.2) (.int .i64 t353)) (fun _ hk => hk.2) (.slice Ao41 t354.length co41)) (fun _ hk => ⟨hk.1.1, hk.1.2⟩)))⟩; replace HO349 : Aside0 (Kd.R k48 48 w42 w.heap.size (fun k_ => some k_ ≠ (v343 : Value).ownBlock ∧ some k_ ≠ (.slice Ao41 t354.length co41 : Value).ownBlock) (.slice Ao31 t347.length co31) t347) := ⟨(by rw [hw]; exact (by (with_reducible repeat (first | apply Kd.R_alloc | apply Kd.R_drewN | apply Kd.R_drew)); exact Kd.R_mono (Kd.R_far (p := ⟨gb357, 2, none⟩) (Kd.R_far (p := ⟨gb357, 1, none⟩) (Kd.R_far (p := ⟨gb357, 0, none⟩) (Kd.R_types HO349.out BK357.out (by decide)) (fun _ hk => hk.2) (.int .i64 t352)) (fun _ hk => hk.2) (.int .i64 t353)) (fun _ hk => hk.2) (.slice Ao41 t354.length co41)) (fun _ hk => ⟨hk.1.1, hk.1.2⟩)))⟩; replace HO356 : Aside0 (Kd.R k48 48 w42 w.heap.size (fun k_ => some k_ ≠ (v343 : Value).ownBlock ∧ some k_ ≠ (.slice Ao31 t347.length co31 : Value).ownBlock) (.slice Ao41 t354.length co41) t354) := ⟨(by rw [hw]; exact (by (with_reducible repeat (first | apply Kd.R_alloc | apply Kd.R_drewN | apply Kd.R_drew)); exact Kd.R_mono (Kd.R_far (p := ⟨gb357, 2, none⟩) (Kd.R_far (p := ⟨gb357, 1, none⟩) (Kd.R_far (p := ⟨gb357, 0, none⟩) (Kd.R_types HO356.out BK357.out (by decide)) (fun _ hk => hk.2) (.int .i64 t352)) (fun _ hk => hk.2) (.int .i64 t353)) (fun _ hk => hk.2) (.slice Ao41 t354.length co41)) (fun _ hk => ⟨hk.1.1.2, hk.1.2⟩)))⟩; replace BK330 : Aside0 (w42.heap[gb330]? = some (.cells #[.int .i64 a0_0, .int .i64 a0_1, .int .i64 a0_2, .int .i64 a0_3, .int .i64 a0_4, .int .i64 a0_5, .int .i64 a0_6] 23 (0, 0))) := ⟨(by rw [hw]; exact (bF NB330_357.out BK330.out))⟩; replace BK331 : Aside0 (w42.heap[gb331]? = some (.cells #[.int .i64 a1_0, .int .i64 a1_1, .slice A1_2 l1_2.length c1_2] 31 (0, 0))) := ⟨(by rw [hw]; exact (bF NB331_357.out BK331.out))⟩; replace BK351 : Aside0 (w42.heap[gb351]? = some (.cells #[.int .i64 t345, .int .i64 t346, .slice Ao31 t347.length co31] 35 (0, 0))) := ⟨(by rw [hw]; exact (bF NB351_357.out BK351.out))⟩; replace BK357 : Aside0 (w42.heap[gb357]? = some (.cells #[.int .i64 t352, .int .i64 t353, .slice Ao41 t354.length co41] 35 (0, 0))) := ⟨(by rw [hw]; exact (by refine bU ?_; refine blk_put (cs := #[.int .i64 t352, .int .i64 t353, .slice none 0 0]) ?_ 2 _ rfl; refine bU ?_; refine blk_put (cs := #[.int .i64 t352, .int .i64 0, .slice none 0 0]) ?_ 1 _ rfl; refine bU ?_; refine blk_put (cs := #[.int .i64 0, .int .i64 0, .slice none 0 0]) ?_ 0 _ rfl; refine bU ?_; exact BK357.out))⟩; replace HB : Aside0 (Below w.heap.size w w42) := ⟨(by rw [hw]; exact (lU4 GE330.out GE331.out GE351.out GE357.out))⟩; clear hw))
  replace HO344 := Aside0.mk (Kd.R_drew HO344.out)
  replace HO349 := Aside0.mk (Kd.R_drew HO349.out)
  replace HO356 := Aside0.mk (Kd.R_drew HO356.out)
  replace BK330 := Aside0.mk (blk_drew BK330.out)
  replace BK331 := Aside0.mk (blk_drew BK331.out)
  replace BK351 := Aside0.mk (blk_drew BK351.out)
  replace BK357 := Aside0.mk (blk_drew BK357.out)
  replace HB := Aside0.mk (below_drew1 HB.out)
  refine start_ (n := 10) (S := fun w' => w'.cell? ⟨gb330, 0, none⟩ = some (.int .i64 a0_0) ∧ w'.cell? ⟨gb330, 1, none⟩ = some (.int .i64 a0_1) ∧ w'.cell? ⟨gb330, 2, none⟩ = some (.int .i64 a0_2) ∧ w'.cell? ⟨gb330, 3, none⟩ = some (.int .i64 a0_3) ∧ w'.cell? ⟨gb330, 4, none⟩ = some (.int .i64 a0_4) ∧ w'.cell? ⟨gb330, 5, none⟩ = some (.int .i64 a0_5) ∧ w'.cell? ⟨gb330, 6, none⟩ = some (.int .i64 a0_6) ∧ w'.cell? ⟨gb357, 0, none⟩ = some (.int .i64 t352) ∧ w'.cell? ⟨gb357, 1, none⟩ = some (.int .i64 t353) ∧ w'.cell? ⟨gb357, 2, none⟩ = some (.slice Ao41 t354.length co41)) (ds := []) #[false, false, false, false, false, false, false, false, false, false] (by kernel_rfl) rfl rfl ⟨(blk_cell BK330.out 0).trans rfl, (blk_cell BK330.out 1).trans rfl, (blk_cell BK330.out 2).trans rfl, (blk_cell BK330.out 3).trans rfl, (blk_cell BK330.out 4).trans rfl, (blk_cell BK330.out 5).trans rfl, (blk_cell BK330.out 6).trans rfl, (blk_cell BK357.out 0).trans rfl, (blk_cell BK357.out 1).trans rfl, (blk_cell BK357.out 2).trans rfl⟩ (fun hHeld => ?_); refine with_tabW laws_FnExactStepCloud.tab7 laws_FnExactStepCloud.bits7 (fun HT_ HW_ => ?_)
  generalize w42.drew = w43 at HO344 HO349 HO356 BK330 BK331 BK351 BK357 HB hHeld ⊢
  refine takeA 0 32 (bz 10 1) rfl rfl (take_ofW HT_.out HW_.out (by kernel_rfl)) hHeld (by rintro w' ⟨s0, s1, s2, s3, s4, s5, s6, s7, s8, s9⟩; go_simp; with_reducible rfl) ?_
  refine takeA 2 34 (bz 10 5) rfl rfl (take_ofW HT_.out HW_.out (by kernel_rfl)) hHeld (by rintro w' ⟨s0, s1, s2, s3, s4, s5, s6, s7, s8, s9⟩; go_simp; with_reducible rfl) ?_
  refine join_ (σ := Value × Nat) 2 #[true, true, true, true, true, true, true, true, false, false] (fun s_ => [(33, .agg #[.int .i64 t358, .int .i64 t359, .int .i64 t360, .int .i64 t361, .int .i64 t362, .int .i64 t363, .int .i64 t364]), (35, .tuple #[.agg #[.int .i64 t365, .int .i64 t366, s_.1], .bool t370]), (9, .pointer (some ⟨s_.2, 0, none⟩)), (31, .tuple #[.agg #[.int .i64 t365, .int .i64 t366, s_.1], .bool t370]), (36, .agg #[.int .i64 t365, .int .i64 t366, s_.1]), (37, .bool t370)]) (fun s_ w' => (w'.cell? ⟨gb330, 0, none⟩ = some (.int .i64 a0_0) ∧ w'.cell? ⟨gb330, 1, none⟩ = some (.int .i64 a0_1) ∧ w'.cell? ⟨gb330, 2, none⟩ = some (.int .i64 a0_2) ∧ w'.cell? ⟨gb330, 3, none⟩ = some (.int .i64 a0_3) ∧ w'.cell? ⟨gb330, 4, none⟩ = some (.int .i64 a0_4) ∧ w'.cell? ⟨gb330, 5, none⟩ = some (.int .i64 a0_5) ∧ w'.cell? ⟨gb330, 6, none⟩ = some (.int .i64 a0_6) ∧ w'.cell? ⟨gb357, 0, none⟩ = some (.int .i64 t352) ∧ w'.cell? ⟨gb357, 1, none⟩ = some (.int .i64 t353) ∧ w'.cell? ⟨gb357, 2, none⟩ = some (.slice Ao41 t354.length co41)) ∧ (Kd.R k48 48 w' w.heap.size (fun k_ => some k_ ≠ (.slice Ao31 t347.length co31 : Value).ownBlock ∧ some k_ ≠ (.slice Ao41 t354.length co41 : Value).ownBlock ∧ some k_ ≠ (s_.1 : Value).ownBlock) v343 t342) ∧ (Kd.R k48 48 w' w.heap.size (fun k_ => some k_ ≠ (v343 : Value).ownBlock ∧ some k_ ≠ (.slice Ao41 t354.length co41 : Value).ownBlock ∧ some k_ ≠ (s_.1 : Value).ownBlock) (.slice Ao31 t347.length co31) t347) ∧ (Kd.R k48 48 w' w.heap.size (fun k_ => some k_ ≠ (v343 : Value).ownBlock ∧ some k_ ≠ (.slice Ao31 t347.length co31 : Value).ownBlock ∧ some k_ ≠ (s_.1 : Value).ownBlock) (.slice Ao41 t354.length co41) t354) ∧ (Kd.R k48 48 w' w.heap.size (fun k_ => some k_ ≠ (v343 : Value).ownBlock ∧ some k_ ≠ (.slice Ao31 t347.length co31 : Value).ownBlock ∧ some k_ ≠ (.slice Ao41 t354.length co41 : Value).ownBlock) s_.1 t367) ∧ (w'.heap[gb330]? = some (.cells #[.int .i64 a0_0, .int .i64 a0_1, .int .i64 a0_2, .int .i64 a0_3, .int .i64 a0_4, .int .i64 a0_5, .int .i64 a0_6] 23 (0, 0))) ∧ (w'.heap[gb331]? = some (.cells #[.int .i64 a1_0, .int .i64 a1_1, .slice A1_2 l1_2.length c1_2] 31 (0, 0))) ∧ (w'.heap[gb351]? = some (.cells #[.int .i64 t345, .int .i64 t346, .slice Ao31 t347.length co31] 35 (0, 0))) ∧ (w'.heap[gb357]? = some (.cells #[.int .i64 t352, .int .i64 t353, .slice Ao41 t354.length co41] 35 (0, 0))) ∧ (w'.heap[s_.2]? = some (.cells #[.int .i64 0, .int .i64 0, .slice none 0 0] 35 (0, 0))) ∧ (w.heap.size ≤ s_.2) ∧ (w.heap.size ≤ s_.2) ∧ (gb330 ≠ s_.2) ∧ (s_.2 ≠ gb330) ∧ (gb331 ≠ s_.2) ∧ (s_.2 ≠ gb331) ∧ (gb351 ≠ s_.2) ∧ (s_.2 ≠ gb351) ∧ (gb357 ≠ s_.2) ∧ (s_.2 ≠ gb357) ∧ (Below w.heap.size w w')) ?_ ?_
  rotate_left
  ·intro hCont
   refine two_ (i := 1) (j := 7) (Ni := some 33) (Nj := some 9) #[true, true, true, false, false, false, false, false, false, false] #[true, false, true, false, false, false, false, true, false, false] rfl rfl rfl rfl (two_of HT_.out (by kernel_rfl)) (by decide) (by decide) (fun K hK => ?_) (fun K hK => ?_)
   ·skip
    refine goes_ Try.func7 (by kernel_rfl) rfl #[.agg #[.int .i64 a0_0, .int .i64 a0_1, .int .i64 a0_2, .int .i64 a0_3, .int .i64 a0_4, .int .i64 a0_5, .int .i64 a0_6]] (by rfl) rfl rfl aE ?_
    with_reducible refine (laws_toEmitter.calls a0_0 a0_1 a0_2 a0_3 a0_4 a0_5 a0_6 t358 t359 t360 t361 t362 t363 t364 _ A14.out).mono ?_
    rintro e w44 ⟨rfl, hb⟩
    refine ⟨_, rfl, ?_⟩
    replace HO344 := Aside0.mk (Kd.R_below (rU HO344.out) hb)
    replace HO349 := Aside0.mk (Kd.R_below (rU HO349.out) hb)
    replace HO356 := Aside0.mk (Kd.R_below (rU HO356.out) hb)
    replace BK330 := Aside0.mk (blk_below (bU BK330.out) hb)
    replace BK331 := Aside0.mk (blk_below (bU BK331.out) hb)
    replace BK351 := Aside0.mk (blk_below (bU BK351.out) hb)
    replace BK357 := Aside0.mk (blk_below (bU BK357.out) hb)
    replace HB := Aside0.mk (below_step (lU4 GE330.out GE331.out GE351.out GE357.out) hb)
    (try clear hb)
    (try clear hb2)
    (try clear hk)
    (try clear hi)
    refine hK.out _ _ ⟨(blk_cell BK330.out 0).trans rfl, (blk_cell BK330.out 1).trans rfl, (blk_cell BK330.out 2).trans rfl, (blk_cell BK330.out 3).trans rfl, (blk_cell BK330.out 4).trans rfl, (blk_cell BK330.out 5).trans rfl, (blk_cell BK330.out 6).trans rfl, (blk_cell BK357.out 0).trans rfl, (blk_cell BK357.out 1).trans rfl, (blk_cell BK357.out 2).trans rfl⟩ (fun hHeld => ?_)
    clear hK K
    refine norm_ (a' := ?_) ?_ ?_
    rotate_left
    ·show Act.put _ (some 33) _ = _
     simp only [Act.put, List.setIfInBounds_toArray, List.set_cons_zero, List.set_cons_succ, i64_w, i32_w]
     rfl
    refine two_ (i := 3) (j := 7) (Ni := some 35) (Nj := some 9) #[true, true, true, true, false, false, false, false, false, false] #[true, true, true, false, false, false, false, true, false, false] rfl rfl rfl rfl (two_of HT_.out (by kernel_rfl)) (by decide) (by decide) (fun K hK => ?_) (fun K hK => ?_)
    ·skip
     refine goes_ Try.func12 (by kernel_rfl) rfl #[.agg #[.int .i64 t358, .int .i64 t359, .int .i64 t360, .int .i64 t361, .int .i64 t362, .int .i64 t363, .int .i64 t364], .agg #[.int .i64 t352, .int .i64 t353, .slice Ao41 t354.length co41]] (by rfl) rfl rfl aE ?_
     with_reducible refine (impl_StepCloud.calls k t358 t359 t360 t361 t362 t363 t364 t352 t353 _ _ t354 t365 t366 t367 t370 _ ?side1 ?side2 A15.out).mono ?_
     (case side1 => exact cU (Kd.R_reads' HO356.out).2.2)
     (case side2 => exact (Kd.R_reads' HO356.out).2.1)
     rintro e w45 ⟨v368, rfl, ho0, hb⟩
     refine ⟨_, rfl, ?_⟩
     have HO369 := Aside0.mk (Kd.R_lower (Kd.R_new' (Kd.R_new' (Kd.R_new' ho0 (Kd.R_lt (rU HO344.out))) (Kd.R_lt (rU HO349.out))) (Kd.R_lt (rU HO356.out))) (below_size (lU4 GE330.out GE331.out GE351.out GE357.out)))
     replace HO344 := Aside0.mk (Kd.R_elder' (rU HO344.out) (Kd.R_base ho0) hb)
     replace HO349 := Aside0.mk (Kd.R_elder' (rU HO349.out) (Kd.R_base ho0) hb)
     replace HO356 := Aside0.mk (Kd.R_elder' (rU HO356.out) (Kd.R_base ho0) hb)
     replace BK330 := Aside0.mk (blk_below (bU BK330.out) hb)
     replace BK331 := Aside0.mk (blk_below (bU BK331.out) hb)
     replace BK351 := Aside0.mk (blk_below (bU BK351.out) hb)
     replace BK357 := Aside0.mk (blk_below (bU BK357.out) hb)
     replace HB := Aside0.mk (below_step (lU4 GE330.out GE331.out GE351.out GE357.out) hb)
     (try clear hb)
     (try clear hb2)
     (try clear hk)
     (try clear hi)
     (try clear ho0)
     refine hK.out _ _ ⟨(blk_cell BK330.out 0).trans rfl, (blk_cell BK330.out 1).trans rfl, (blk_cell BK330.out 2).trans rfl, (blk_cell BK330.out 3).trans rfl, (blk_cell BK330.out 4).trans rfl, (blk_cell BK330.out 5).trans rfl, (blk_cell BK330.out 6).trans rfl, (blk_cell BK357.out 0).trans rfl, (blk_cell BK357.out 1).trans rfl, (blk_cell BK357.out 2).trans rfl⟩ (fun hHeld => ?_)
     clear hK K
     refine norm_ (a' := ?_) ?_ ?_
     rotate_left
     ·show Act.put _ (some 35) _ = _
      simp only [Act.put, List.setIfInBounds_toArray, List.set_cons_zero, List.set_cons_succ, i64_w, i32_w]
      rfl
     refine pureA 4 31 (bz 10 31) rfl rfl (any_of HT_.out (by kernel_rfl)) ?_
     refine pureA 5 36 (bz 10 63) rfl rfl (any_of HT_.out (by kernel_rfl)) ?_
     refine pureA 6 37 (bz 10 127) rfl rfl (any_of HT_.out (by kernel_rfl)) ?_
     refine one_ (i := 7) (N := some 9) (bz 10 255) rfl rfl (one_of HT_.out (by kernel_rfl)) (by decide) (fun K hK => ?_)
     refine box_step ?hg (N := 9) ?hd (cs := #[.int .i64 0, .int .i64 0, .slice none 0 0]) (t := 35) ?hr ?_; (case hd => rfl); (case hg => rfl); (case hr => exact sE)
     intro gb371 hg w46 hbox hb
     replace HO344 := Aside0.mk (Kd.R_below (rU HO344.out) hb)
     replace HO349 := Aside0.mk (Kd.R_below (rU HO349.out) hb)
     replace HO356 := Aside0.mk (Kd.R_below (rU HO356.out) hb)
     replace HO369 := Aside0.mk (Kd.R_below (rU HO369.out) hb)
     have BK371 := Aside0.mk hbox
     have GW371 := gS w hg (lU4 GE330.out GE331.out GE351.out GE357.out)
     have GE371 := gS w hg (lU4 GE330.out GE331.out GE351.out GE357.out)
     replace HB := Aside0.mk (below_step (lU4 GE330.out GE331.out GE351.out GE357.out) hb)
     have NB330_371 := nL hg (bU BK330.out)
     have NB371_330 := nG hg (bU BK330.out)
     replace BK330 := Aside0.mk (blk_below (bU BK330.out) hb)
     have NB331_371 := nL hg (bU BK331.out)
     have NB371_331 := nG hg (bU BK331.out)
     replace BK331 := Aside0.mk (blk_below (bU BK331.out) hb)
     have NB351_371 := nL hg (bU BK351.out)
     have NB371_351 := nG hg (bU BK351.out)
     replace BK351 := Aside0.mk (blk_below (bU BK351.out) hb)
     have NB357_371 := nL hg (bU BK357.out)
     have NB371_357 := nG hg (bU BK357.out)
     replace BK357 := Aside0.mk (blk_below (bU BK357.out) hb)
     clear hb hbox hg
     refine hK.out _ _ ⟨(blk_cell BK330.out 0).trans rfl, (blk_cell BK330.out 1).trans rfl, (blk_cell BK330.out 2).trans rfl, (blk_cell BK330.out 3).trans rfl, (blk_cell BK330.out 4).trans rfl, (blk_cell BK330.out 5).trans rfl, (blk_cell BK330.out 6).trans rfl, (blk_cell BK357.out 0).trans rfl, (blk_cell BK357.out 1).trans rfl, (blk_cell BK357.out 2).trans rfl⟩ (fun hHeld => ?_)
     clear hK K
     refine norm_ (a' := ?_) ?_ ?_
     rotate_left
     ·show Act.put _ (some 9) _ = _
      simp only [Act.put, List.setIfInBounds_toArray, List.set_cons_zero, List.set_cons_succ, i64_w, i32_w]
      rfl
     exact norm_ (by simp only [putAll, Act.put, List.setIfInBounds_toArray, List.set_cons_zero, List.set_cons_succ]) (hCont (v368, gb371) _ ⟨hHeld, (by (with_reducible repeat (first | apply Kd.R_alloc | apply Kd.R_drewN | apply Kd.R_drew)); exact Kd.R_mono HO344.out (fun _ hk => ⟨hk.1.1, ⟨hk.1.2, hk.2⟩⟩)), (by (with_reducible repeat (first | apply Kd.R_alloc | apply Kd.R_drewN | apply Kd.R_drew)); exact Kd.R_mono HO349.out (fun _ hk => ⟨hk.1.1, ⟨hk.1.2, hk.2⟩⟩)), (by (with_reducible repeat (first | apply Kd.R_alloc | apply Kd.R_drewN | apply Kd.R_drew)); exact Kd.R_mono HO356.out (fun _ hk => ⟨hk.1.1, ⟨hk.1.2, hk.2⟩⟩)), (by (with_reducible repeat (first | apply Kd.R_alloc | apply Kd.R_drewN | apply Kd.R_drew)); exact Kd.R_mono HO369.out (fun _ hk => ⟨hk.1.1.2, ⟨hk.1.2, hk.2⟩⟩)), (bU BK330.out), (bU BK331.out), (bU BK351.out), (bU BK357.out), (bU BK371.out), GW371.out, GE371.out, NB330_371.out, NB371_330.out, NB331_371.out, NB371_331.out, NB351_371.out, NB371_351.out, NB357_371.out, NB371_357.out, (lU5 GE330.out GE331.out GE351.out GE357.out GE371.out)⟩)
    ·skip
     refine box_step ?hg (N := 9) ?hd (cs := #[.int .i64 0, .int .i64 0, .slice none 0 0]) (t := 35) ?hr ?_; (case hd => rfl); (case hg => rfl); (case hr => exact sE)
     intro gb371 hg w45 hbox hb
     replace HO344 := Aside0.mk (Kd.R_below (rU HO344.out) hb)
     replace HO349 := Aside0.mk (Kd.R_below (rU HO349.out) hb)
     replace HO356 := Aside0.mk (Kd.R_below (rU HO356.out) hb)
     have BK371 := Aside0.mk hbox
     have GW371 := gS w hg (lU4 GE330.out GE331.out GE351.out GE357.out)
     have GE371 := gS w hg (lU4 GE330.out GE331.out GE351.out GE357.out)
     replace HB := Aside0.mk (below_step (lU4 GE330.out GE331.out GE351.out GE357.out) hb)
     have NB330_371 := nL hg (bU BK330.out)
     have NB371_330 := nG hg (bU BK330.out)
     replace BK330 := Aside0.mk (blk_below (bU BK330.out) hb)
     have NB331_371 := nL hg (bU BK331.out)
     have NB371_331 := nG hg (bU BK331.out)
     replace BK331 := Aside0.mk (blk_below (bU BK331.out) hb)
     have NB351_371 := nL hg (bU BK351.out)
     have NB371_351 := nG hg (bU BK351.out)
     replace BK351 := Aside0.mk (blk_below (bU BK351.out) hb)
     have NB357_371 := nL hg (bU BK357.out)
     have NB371_357 := nG hg (bU BK357.out)
     replace BK357 := Aside0.mk (blk_below (bU BK357.out) hb)
     clear hb hbox hg
     refine hK.out _ _ ⟨(blk_cell BK330.out 0).trans rfl, (blk_cell BK330.out 1).trans rfl, (blk_cell BK330.out 2).trans rfl, (blk_cell BK330.out 3).trans rfl, (blk_cell BK330.out 4).trans rfl, (blk_cell BK330.out 5).trans rfl, (blk_cell BK330.out 6).trans rfl, (blk_cell BK357.out 0).trans rfl, (blk_cell BK357.out 1).trans rfl, (blk_cell BK357.out 2).trans rfl⟩ (fun hHeld => ?_)
     clear hK K
     refine norm_ (a' := ?_) ?_ ?_
     rotate_left
     ·show Act.put _ (some 9) _ = _
      simp only [Act.put, List.setIfInBounds_toArray, List.set_cons_zero, List.set_cons_succ, i64_w, i32_w]
      rfl
     refine one_ (i := 3) (N := some 35) (bz 10 143) rfl rfl (one_of HT_.out (by kernel_rfl)) (by decide) (fun K hK => ?_)
     refine goes_ Try.func12 (by kernel_rfl) rfl #[.agg #[.int .i64 t358, .int .i64 t359, .int .i64 t360, .int .i64 t361, .int .i64 t362, .int .i64 t363, .int .i64 t364], .agg #[.int .i64 t352, .int .i64 t353, .slice Ao41 t354.length co41]] (by rfl) rfl rfl aE ?_
     with_reducible refine (impl_StepCloud.calls k t358 t359 t360 t361 t362 t363 t364 t352 t353 _ _ t354 t365 t366 t367 t370 _ ?side1 ?side2 A15.out).mono ?_
     (case side1 => exact cU (Kd.R_reads' HO356.out).2.2)
     (case side2 => exact (Kd.R_reads' HO356.out).2.1)
     rintro e w46 ⟨v368, rfl, ho0, hb⟩
     refine ⟨_, rfl, ?_⟩
     have HO369 := Aside0.mk (Kd.R_lower (Kd.R_new' (Kd.R_new' (Kd.R_new' ho0 (Kd.R_lt (rU HO344.out))) (Kd.R_lt (rU HO349.out))) (Kd.R_lt (rU HO356.out))) (below_size (lU5 GE330.out GE331.out GE351.out GE357.out GE371.out)))
     replace HO344 := Aside0.mk (Kd.R_elder' (rU HO344.out) (Kd.R_base ho0) hb)
     replace HO349 := Aside0.mk (Kd.R_elder' (rU HO349.out) (Kd.R_base ho0) hb)
     replace HO356 := Aside0.mk (Kd.R_elder' (rU HO356.out) (Kd.R_base ho0) hb)
     replace BK330 := Aside0.mk (blk_below (bU BK330.out) hb)
     replace BK331 := Aside0.mk (blk_below (bU BK331.out) hb)
     replace BK351 := Aside0.mk (blk_below (bU BK351.out) hb)
     replace BK357 := Aside0.mk (blk_below (bU BK357.out) hb)
     replace BK371 := Aside0.mk (blk_below (bU BK371.out) hb)
     replace HB := Aside0.mk (below_step (lU5 GE330.out GE331.out GE351.out GE357.out GE371.out) hb)
     (try clear hb)
     (try clear hb2)
     (try clear hk)
     (try clear hi)
     (try clear ho0)
     refine hK.out _ _ ⟨(blk_cell BK330.out 0).trans rfl, (blk_cell BK330.out 1).trans rfl, (blk_cell BK330.out 2).trans rfl, (blk_cell BK330.out 3).trans rfl, (blk_cell BK330.out 4).trans rfl, (blk_cell BK330.out 5).trans rfl, (blk_cell BK330.out 6).trans rfl, (blk_cell BK357.out 0).trans rfl, (blk_cell BK357.out 1).trans rfl, (blk_cell BK357.out 2).trans rfl⟩ (fun hHeld => ?_)
     clear hK K
     refine norm_ (a' := ?_) ?_ ?_
     rotate_left
     ·show Act.put _ (some 35) _ = _
      simp only [Act.put, List.setIfInBounds_toArray, List.set_cons_zero, List.set_cons_succ, i64_w, i32_w]
      rfl
     refine pureA 4 31 (bz 10 159) rfl rfl (any_of HT_.out (by kernel_rfl)) ?_
     refine pureA 5 36 (bz 10 191) rfl rfl (any_of HT_.out (by kernel_rfl)) ?_
     refine pureA 6 37 (bz 10 255) rfl rfl (any_of HT_.out (by kernel_rfl)) ?_
     exact norm_ (by simp only [putAll, Act.put, List.setIfInBounds_toArray, List.set_cons_zero, List.set_cons_succ]) (hCont (v368, gb371) _ ⟨hHeld, (by (with_reducible repeat (first | apply Kd.R_alloc | apply Kd.R_drewN | apply Kd.R_drew)); exact Kd.R_mono HO344.out (fun _ hk => ⟨hk.1.1, ⟨hk.1.2, hk.2⟩⟩)), (by (with_reducible repeat (first | apply Kd.R_alloc | apply Kd.R_drewN | apply Kd.R_drew)); exact Kd.R_mono HO349.out (fun _ hk => ⟨hk.1.1, ⟨hk.1.2, hk.2⟩⟩)), (by (with_reducible repeat (first | apply Kd.R_alloc | apply Kd.R_drewN | apply Kd.R_drew)); exact Kd.R_mono HO356.out (fun _ hk => ⟨hk.1.1, ⟨hk.1.2, hk.2⟩⟩)), (by (with_reducible repeat (first | apply Kd.R_alloc | apply Kd.R_drewN | apply Kd.R_drew)); exact Kd.R_mono HO369.out (fun _ hk => ⟨hk.1.1.2, ⟨hk.1.2, hk.2⟩⟩)), (bU BK330.out), (bU BK331.out), (bU BK351.out), (bU BK357.out), (bU BK371.out), GW371.out, GE371.out, NB330_371.out, NB371_330.out, NB331_371.out, NB371_331.out, NB351_371.out, NB371_351.out, NB357_371.out, NB371_357.out, (lU5 GE330.out GE331.out GE351.out GE357.out GE371.out)⟩)
   ·skip
    refine box_step ?hg (N := 9) ?hd (cs := #[.int .i64 0, .int .i64 0, .slice none 0 0]) (t := 35) ?hr ?_; (case hd => rfl); (case hg => rfl); (case hr => exact sE)
    intro gb371 hg w44 hbox hb
    replace HO344 := Aside0.mk (Kd.R_below (rU HO344.out) hb)
    replace HO349 := Aside0.mk (Kd.R_below (rU HO349.out) hb)
    replace HO356 := Aside0.mk (Kd.R_below (rU HO356.out) hb)
    have BK371 := Aside0.mk hbox
    have GW371 := gS w hg (lU4 GE330.out GE331.out GE351.out GE357.out)
    have GE371 := gS w hg (lU4 GE330.out GE331.out GE351.out GE357.out)
    replace HB := Aside0.mk (below_step (lU4 GE330.out GE331.out GE351.out GE357.out) hb)
    have NB330_371 := nL hg (bU BK330.out)
    have NB371_330 := nG hg (bU BK330.out)
    replace BK330 := Aside0.mk (blk_below (bU BK330.out) hb)
    have NB331_371 := nL hg (bU BK331.out)
    have NB371_331 := nG hg (bU BK331.out)
    replace BK331 := Aside0.mk (blk_below (bU BK331.out) hb)
    have NB351_371 := nL hg (bU BK351.out)
    have NB371_351 := nG hg (bU BK351.out)
    replace BK351 := Aside0.mk (blk_below (bU BK351.out) hb)
    have NB357_371 := nL hg (bU BK357.out)
    have NB371_357 := nG hg (bU BK357.out)
    replace BK357 := Aside0.mk (blk_below (bU BK357.out) hb)
    clear hb hbox hg
    refine hK.out _ _ ⟨(blk_cell BK330.out 0).trans rfl, (blk_cell BK330.out 1).trans rfl, (blk_cell BK330.out 2).trans rfl, (blk_cell BK330.out 3).trans rfl, (blk_cell BK330.out 4).trans rfl, (blk_cell BK330.out 5).trans rfl, (blk_cell BK330.out 6).trans rfl, (blk_cell BK357.out 0).trans rfl, (blk_cell BK357.out 1).trans rfl, (blk_cell BK357.out 2).trans rfl⟩ (fun hHeld => ?_)
    clear hK K
    refine norm_ (a' := ?_) ?_ ?_
    rotate_left
    ·show Act.put _ (some 9) _ = _
     simp only [Act.put, List.setIfInBounds_toArray, List.set_cons_zero, List.set_cons_succ, i64_w, i32_w]
     rfl
    refine one_ (i := 1) (N := some 33) (bz 10 135) rfl rfl (one_of HT_.out (by kernel_rfl)) (by decide) (fun K hK => ?_)
    refine goes_ Try.func7 (by kernel_rfl) rfl #[.agg #[.int .i64 a0_0, .int .i64 a0_1, .int .i64 a0_2, .int .i64 a0_3, .int .i64 a0_4, .int .i64 a0_5, .int .i64 a0_6]] (by rfl) rfl rfl aE ?_
    with_reducible refine (laws_toEmitter.calls a0_0 a0_1 a0_2 a0_3 a0_4 a0_5 a0_6 t358 t359 t360 t361 t362 t363 t364 _ A14.out).mono ?_
    rintro e w45 ⟨rfl, hb⟩
    refine ⟨_, rfl, ?_⟩
    replace HO344 := Aside0.mk (Kd.R_below (rU HO344.out) hb)
    replace HO349 := Aside0.mk (Kd.R_below (rU HO349.out) hb)
    replace HO356 := Aside0.mk (Kd.R_below (rU HO356.out) hb)
    replace BK330 := Aside0.mk (blk_below (bU BK330.out) hb)
    replace BK331 := Aside0.mk (blk_below (bU BK331.out) hb)
    replace BK351 := Aside0.mk (blk_below (bU BK351.out) hb)
    replace BK357 := Aside0.mk (blk_below (bU BK357.out) hb)
    replace BK371 := Aside0.mk (blk_below (bU BK371.out) hb)
    replace HB := Aside0.mk (below_step (lU5 GE330.out GE331.out GE351.out GE357.out GE371.out) hb)
    (try clear hb)
    (try clear hb2)
    (try clear hk)
    (try clear hi)
    refine hK.out _ _ ⟨(blk_cell BK330.out 0).trans rfl, (blk_cell BK330.out 1).trans rfl, (blk_cell BK330.out 2).trans rfl, (blk_cell BK330.out 3).trans rfl, (blk_cell BK330.out 4).trans rfl, (blk_cell BK330.out 5).trans rfl, (blk_cell BK330.out 6).trans rfl, (blk_cell BK357.out 0).trans rfl, (blk_cell BK357.out 1).trans rfl, (blk_cell BK357.out 2).trans rfl⟩ (fun hHeld => ?_)
    clear hK K
    refine norm_ (a' := ?_) ?_ ?_
    rotate_left
    ·show Act.put _ (some 33) _ = _
     simp only [Act.put, List.setIfInBounds_toArray, List.set_cons_zero, List.set_cons_succ, i64_w, i32_w]
     rfl
    refine one_ (i := 3) (N := some 35) (bz 10 143) rfl rfl (one_of HT_.out (by kernel_rfl)) (by decide) (fun K hK => ?_)
    refine goes_ Try.func12 (by kernel_rfl) rfl #[.agg #[.int .i64 t358, .int .i64 t359, .int .i64 t360, .int .i64 t361, .int .i64 t362, .int .i64 t363, .int .i64 t364], .agg #[.int .i64 t352, .int .i64 t353, .slice Ao41 t354.length co41]] (by rfl) rfl rfl aE ?_
    with_reducible refine (impl_StepCloud.calls k t358 t359 t360 t361 t362 t363 t364 t352 t353 _ _ t354 t365 t366 t367 t370 _ ?side1 ?side2 A15.out).mono ?_
    (case side1 => exact cU (Kd.R_reads' HO356.out).2.2)
    (case side2 => exact (Kd.R_reads' HO356.out).2.1)
    rintro e w46 ⟨v368, rfl, ho0, hb⟩
    refine ⟨_, rfl, ?_⟩
    have HO369 := Aside0.mk (Kd.R_lower (Kd.R_new' (Kd.R_new' (Kd.R_new' ho0 (Kd.R_lt (rU HO344.out))) (Kd.R_lt (rU HO349.out))) (Kd.R_lt (rU HO356.out))) (below_size (lU5 GE330.out GE331.out GE351.out GE357.out GE371.out)))
    replace HO344 := Aside0.mk (Kd.R_elder' (rU HO344.out) (Kd.R_base ho0) hb)
    replace HO349 := Aside0.mk (Kd.R_elder' (rU HO349.out) (Kd.R_base ho0) hb)
    replace HO356 := Aside0.mk (Kd.R_elder' (rU HO356.out) (Kd.R_base ho0) hb)
    replace BK330 := Aside0.mk (blk_below (bU BK330.out) hb)
    replace BK331 := Aside0.mk (blk_below (bU BK331.out) hb)
    replace BK351 := Aside0.mk (blk_below (bU BK351.out) hb)
    replace BK357 := Aside0.mk (blk_below (bU BK357.out) hb)
    replace BK371 := Aside0.mk (blk_below (bU BK371.out) hb)
    replace HB := Aside0.mk (below_step (lU5 GE330.out GE331.out GE351.out GE357.out GE371.out) hb)
    (try clear hb)
    (try clear hb2)
    (try clear hk)
    (try clear hi)
    (try clear ho0)
    refine hK.out _ _ ⟨(blk_cell BK330.out 0).trans rfl, (blk_cell BK330.out 1).trans rfl, (blk_cell BK330.out 2).trans rfl, (blk_cell BK330.out 3).trans rfl, (blk_cell BK330.out 4).trans rfl, (blk_cell BK330.out 5).trans rfl, (blk_cell BK330.out 6).trans rfl, (blk_cell BK357.out 0).trans rfl, (blk_cell BK357.out 1).trans rfl, (blk_cell BK357.out 2).trans rfl⟩ (fun hHeld => ?_)
    clear hK K
    refine norm_ (a' := ?_) ?_ ?_
    rotate_left
    ·show Act.put _ (some 35) _ = _
     simp only [Act.put, List.setIfInBounds_toArray, List.set_cons_zero, List.set_cons_succ, i64_w, i32_w]
     rfl
    refine pureA 4 31 (bz 10 159) rfl rfl (any_of HT_.out (by kernel_rfl)) ?_
    refine pureA 5 36 (bz 10 191) rfl rfl (any_of HT_.out (by kernel_rfl)) ?_
    refine pureA 6 37 (bz 10 255) rfl rfl (any_of HT_.out (by kernel_rfl)) ?_
    exact norm_ (by simp only [putAll, Act.put, List.setIfInBounds_toArray, List.set_cons_zero, List.set_cons_succ]) (hCont (v368, gb371) _ ⟨hHeld, (by (with_reducible repeat (first | apply Kd.R_alloc | apply Kd.R_drewN | apply Kd.R_drew)); exact Kd.R_mono HO344.out (fun _ hk => ⟨hk.1.1, ⟨hk.1.2, hk.2⟩⟩)), (by (with_reducible repeat (first | apply Kd.R_alloc | apply Kd.R_drewN | apply Kd.R_drew)); exact Kd.R_mono HO349.out (fun _ hk => ⟨hk.1.1, ⟨hk.1.2, hk.2⟩⟩)), (by (with_reducible repeat (first | apply Kd.R_alloc | apply Kd.R_drewN | apply Kd.R_drew)); exact Kd.R_mono HO356.out (fun _ hk => ⟨hk.1.1, ⟨hk.1.2, hk.2⟩⟩)), (by (with_reducible repeat (first | apply Kd.R_alloc | apply Kd.R_drewN | apply Kd.R_drew)); exact Kd.R_mono HO369.out (fun _ hk => ⟨hk.1.1.2, ⟨hk.1.2, hk.2⟩⟩)), (bU BK330.out), (bU BK331.out), (bU BK351.out), (bU BK357.out), (bU BK371.out), GW371.out, GE371.out, NB330_371.out, NB371_330.out, NB331_371.out, NB371_331.out, NB351_371.out, NB371_351.out, NB357_371.out, NB371_357.out, (lU5 GE330.out GE331.out GE351.out GE357.out GE371.out)⟩)
  rintro ⟨v368, gb371⟩ w47 ⟨hS_, h0_, h1_, h2_, h3_, h4_, h5_, h6_, h7_, h8_, h9_, h10_, h11_, h12_, h13_, h14_, h15_, h16_, h17_, h18_, h19_⟩
  replace HO344 : Aside0 (Kd.R k48 48 w47 w.heap.size (fun k_ => some k_ ≠ (.slice Ao31 t347.length co31 : Value).ownBlock ∧ some k_ ≠ (.slice Ao41 t354.length co41 : Value).ownBlock ∧ some k_ ≠ (v368 : Value).ownBlock) v343 t342) := ⟨h0_⟩
  replace HO349 : Aside0 (Kd.R k48 48 w47 w.heap.size (fun k_ => some k_ ≠ (v343 : Value).ownBlock ∧ some k_ ≠ (.slice Ao41 t354.length co41 : Value).ownBlock ∧ some k_ ≠ (v368 : Value).ownBlock) (.slice Ao31 t347.length co31) t347) := ⟨h1_⟩
  replace HO356 : Aside0 (Kd.R k48 48 w47 w.heap.size (fun k_ => some k_ ≠ (v343 : Value).ownBlock ∧ some k_ ≠ (.slice Ao31 t347.length co31 : Value).ownBlock ∧ some k_ ≠ (v368 : Value).ownBlock) (.slice Ao41 t354.length co41) t354) := ⟨h2_⟩
  have HO369 : Aside0 (Kd.R k48 48 w47 w.heap.size (fun k_ => some k_ ≠ (v343 : Value).ownBlock ∧ some k_ ≠ (.slice Ao31 t347.length co31 : Value).ownBlock ∧ some k_ ≠ (.slice Ao41 t354.length co41 : Value).ownBlock) v368 t367) := ⟨h3_⟩
  replace BK330 : Aside0 (w47.heap[gb330]? = some (.cells #[.int .i64 a0_0, .int .i64 a0_1, .int .i64 a0_2, .int .i64 a0_3, .int .i64 a0_4, .int .i64 a0_5, .int .i64 a0_6] 23 (0, 0))) := ⟨h4_⟩
  replace BK331 : Aside0 (w47.heap[gb331]? = some (.cells #[.int .i64 a1_0, .int .i64 a1_1, .slice A1_2 l1_2.length c1_2] 31 (0, 0))) := ⟨h5_⟩
  replace BK351 : Aside0 (w47.heap[gb351]? = some (.cells #[.int .i64 t345, .int .i64 t346, .slice Ao31 t347.length co31] 35 (0, 0))) := ⟨h6_⟩
  replace BK357 : Aside0 (w47.heap[gb357]? = some (.cells #[.int .i64 t352, .int .i64 t353, .slice Ao41 t354.length co41] 35 (0, 0))) := ⟨h7_⟩
  have BK371 : Aside0 (w47.heap[gb371]? = some (.cells #[.int .i64 0, .int .i64 0, .slice none 0 0] 35 (0, 0))) := ⟨h8_⟩
  have GW371 : Aside0 (w.heap.size ≤ gb371) := ⟨h9_⟩
  have GE371 : Aside0 (w.heap.size ≤ gb371) := ⟨h10_⟩
  have NB330_371 : Aside0 (gb330 ≠ gb371) := ⟨h11_⟩
  have NB371_330 : Aside0 (gb371 ≠ gb330) := ⟨h12_⟩
  have NB331_371 : Aside0 (gb331 ≠ gb371) := ⟨h13_⟩
  have NB371_331 : Aside0 (gb371 ≠ gb331) := ⟨h14_⟩
  have NB351_371 : Aside0 (gb351 ≠ gb371) := ⟨h15_⟩
  have NB371_351 : Aside0 (gb371 ≠ gb351) := ⟨h16_⟩
  have NB357_371 : Aside0 (gb357 ≠ gb371) := ⟨h17_⟩
  have NB371_357 : Aside0 (gb371 ≠ gb357) := ⟨h18_⟩
  replace HB : Aside0 (Below w.heap.size w w47) := ⟨h19_⟩
  clear h0_ h1_ h2_ h3_ h4_ h5_ h6_ h7_ h8_ h9_ h10_ h11_ h12_ h13_ h14_ h15_ h16_ h17_ h18_ h19_
  have hHeld : w47.cell? ⟨gb330, 0, none⟩ = some (.int .i64 a0_0) ∧ w47.cell? ⟨gb330, 1, none⟩ = some (.int .i64 a0_1) ∧ w47.cell? ⟨gb330, 2, none⟩ = some (.int .i64 a0_2) ∧ w47.cell? ⟨gb330, 3, none⟩ = some (.int .i64 a0_3) ∧ w47.cell? ⟨gb330, 4, none⟩ = some (.int .i64 a0_4) ∧ w47.cell? ⟨gb330, 5, none⟩ = some (.int .i64 a0_5) ∧ w47.cell? ⟨gb330, 6, none⟩ = some (.int .i64 a0_6) ∧ w47.cell? ⟨gb357, 0, none⟩ = some (.int .i64 t352) ∧ w47.cell? ⟨gb357, 1, none⟩ = some (.int .i64 t353) ∧ w47.cell? ⟨gb357, 2, none⟩ = some (.slice Ao41 t354.length co41) := hS_
  obtain ⟨Ao50, co50, eo50⟩ := Kd.R_slice HO369.out
  (first | subst eo50 | (injection eo50 with f1_ f2_ f3_; have f4_ := f1_.symm; have f5_ := f3_.symm; clear f1_ f2_ f3_; subst f4_; subst f5_))
  refine norm_ (a' := ?_) ?_ ?_
  rotate_left
  ·simp only [putAll, Act.put, List.setIfInBounds_toArray, List.set_cons_zero, List.set_cons_succ]
   rfl
  refine one_ (i := 8) (N := none) (bz 10 511) rfl rfl (one_of HT_.out (by kernel_rfl)) (by decide) (fun K hK => ?_)
  have hs48 : w47.cell? ⟨gb371, 0, none⟩ = some (.int .i64 0) := (blk_cell BK371.out 0).trans rfl
  have hfs48 := blk_frozen BK371.out 0
  have hns48_0 := NB330_371.out
  have hns48_1 := NB331_371.out
  have hns48_2 := NB351_371.out
  have hns48_3 := NB357_371.out
  have hms48_0 := NB371_330.out
  have hms48_1 := NB371_331.out
  have hms48_2 := NB371_351.out
  have hms48_3 := NB371_357.out
  have hs49 : w47.cell? ⟨gb371, 1, none⟩ = some (.int .i64 0) := (blk_cell BK371.out 1).trans rfl
  have hfs49 := blk_frozen BK371.out 1
  have hns49_0 := NB330_371.out
  have hns49_1 := NB331_371.out
  have hns49_2 := NB351_371.out
  have hns49_3 := NB357_371.out
  have hms49_0 := NB371_330.out
  have hms49_1 := NB371_331.out
  have hms49_2 := NB371_351.out
  have hms49_3 := NB371_357.out
  have hs51 : w47.cell? ⟨gb371, 2, none⟩ = some (.slice none 0 0) := (blk_cell BK371.out 2).trans rfl
  have hfs51 := blk_frozen BK371.out 2
  have hns51_0 := NB330_371.out
  have hns51_1 := NB331_371.out
  have hns51_2 := NB351_371.out
  have hns51_3 := NB357_371.out
  have hms51_0 := NB371_330.out
  have hms51_1 := NB371_331.out
  have hms51_2 := NB371_351.out
  have hms51_3 := NB371_357.out
  refine skip_ (w1 := ?_) (by rfl) rfl ?_ ?_
  rotate_left
  ·go_simp
   rfl
  refine hK.out _ _ ⟨((cell_far (p := ⟨gb371, _, none⟩) NB330_371.out _).trans (((cell_far (p := ⟨gb371, _, none⟩) NB330_371.out _).trans (((cell_far (p := ⟨gb371, _, none⟩) NB330_371.out _).trans (hHeld.1)))))), ((cell_far (p := ⟨gb371, _, none⟩) NB330_371.out _).trans (((cell_far (p := ⟨gb371, _, none⟩) NB330_371.out _).trans (((cell_far (p := ⟨gb371, _, none⟩) NB330_371.out _).trans (hHeld.2.1)))))), ((cell_far (p := ⟨gb371, _, none⟩) NB330_371.out _).trans (((cell_far (p := ⟨gb371, _, none⟩) NB330_371.out _).trans (((cell_far (p := ⟨gb371, _, none⟩) NB330_371.out _).trans (hHeld.2.2.1)))))), ((cell_far (p := ⟨gb371, _, none⟩) NB330_371.out _).trans (((cell_far (p := ⟨gb371, _, none⟩) NB330_371.out _).trans (((cell_far (p := ⟨gb371, _, none⟩) NB330_371.out _).trans (hHeld.2.2.2.1)))))), ((cell_far (p := ⟨gb371, _, none⟩) NB330_371.out _).trans (((cell_far (p := ⟨gb371, _, none⟩) NB330_371.out _).trans (((cell_far (p := ⟨gb371, _, none⟩) NB330_371.out _).trans (hHeld.2.2.2.2.1)))))), ((cell_far (p := ⟨gb371, _, none⟩) NB330_371.out _).trans (((cell_far (p := ⟨gb371, _, none⟩) NB330_371.out _).trans (((cell_far (p := ⟨gb371, _, none⟩) NB330_371.out _).trans (hHeld.2.2.2.2.2.1)))))), ((cell_far (p := ⟨gb371, _, none⟩) NB330_371.out _).trans (((cell_far (p := ⟨gb371, _, none⟩) NB330_371.out _).trans (((cell_far (p := ⟨gb371, _, none⟩) NB330_371.out _).trans (hHeld.2.2.2.2.2.2.1)))))), ((cell_far (p := ⟨gb371, _, none⟩) NB357_371.out _).trans (((cell_far (p := ⟨gb371, _, none⟩) NB357_371.out _).trans (((cell_far (p := ⟨gb371, _, none⟩) NB357_371.out _).trans (hHeld.2.2.2.2.2.2.2.1)))))), ((cell_far (p := ⟨gb371, _, none⟩) NB357_371.out _).trans (((cell_far (p := ⟨gb371, _, none⟩) NB357_371.out _).trans (((cell_far (p := ⟨gb371, _, none⟩) NB357_371.out _).trans (hHeld.2.2.2.2.2.2.2.2.1)))))), ((cell_far (p := ⟨gb371, _, none⟩) NB357_371.out _).trans (((cell_far (p := ⟨gb371, _, none⟩) NB357_371.out _).trans (((cell_far (p := ⟨gb371, _, none⟩) NB357_371.out _).trans (hHeld.2.2.2.2.2.2.2.2.2))))))⟩ (fun hHeld => ?_)
  clear hK K
  refine pureA 9 10 (bz 10 1023) rfl rfl (any_of HT_.out (by kernel_rfl)) ?_
  refine done_ (done_of HT_.out (by kernel_rfl)) ?_
  go_upto_region 8 with (fail)
  go_cut [46] (fun v46 wc => ∃ (kq : Nat) (x46_15 : Bool), v46 = .bool x46_15 ∧ Aside0 (laws_FnExactStepCloud.j0 kq t350 t370 x46_15 a0_0 a0_1 a0_2 a0_3 a0_4 a0_5 a0_6 a1_0 a1_1 l1_2 t345 t346 t347 t352 t353 t354 t365 t366 t367 = some r) ∧ Aside0 (kq ≤ k) ∧ Aside0 (Kd.R k48 48 wc w.heap.size (fun k_ => some k_ ≠ ((.slice Ao41 t354.length co41) : Value).ownBlock ∧ some k_ ≠ ((.slice Ao50 t367.length co50) : Value).ownBlock) (.slice Ao31 t347.length co31) t347) ∧ Aside0 (Kd.R k48 48 wc w.heap.size (fun k_ => some k_ ≠ ((.slice Ao31 t347.length co31) : Value).ownBlock ∧ some k_ ≠ ((.slice Ao50 t367.length co50) : Value).ownBlock) (.slice Ao41 t354.length co41) t354) ∧ Aside0 (Kd.R k48 48 wc w.heap.size (fun k_ => some k_ ≠ ((.slice Ao31 t347.length co31) : Value).ownBlock ∧ some k_ ≠ ((.slice Ao41 t354.length co41) : Value).ownBlock) (.slice Ao50 t367.length co50) t367) ∧ Aside0 (wc.heap[gb330]? = some (.cells #[.int .i64 a0_0, .int .i64 a0_1, .int .i64 a0_2, .int .i64 a0_3, .int .i64 a0_4, .int .i64 a0_5, .int .i64 a0_6] 23 (0, 0))) ∧ Aside0 (wc.heap[gb331]? = some (.cells #[.int .i64 a1_0, .int .i64 a1_1, (.slice A1_2 l1_2.length c1_2)] 31 (0, 0))) ∧ Aside0 (wc.heap[gb351]? = some (.cells #[.int .i64 t345, .int .i64 t346, (.slice Ao31 t347.length co31)] 35 (0, 0))) ∧ Aside0 (wc.heap[gb357]? = some (.cells #[.int .i64 t352, .int .i64 t353, (.slice Ao41 t354.length co41)] 35 (0, 0))) ∧ Aside0 (wc.heap[gb371]? = some (.cells #[.int .i64 t365, .int .i64 t366, (.slice Ao50 t367.length co50)] 35 (0, 0))) ∧ Aside0 (Below w.heap.size w wc))
  case first =>
   have H := HC16.out
   clear HC16
   replace H := Option.bind_eq_some_iff.mp H
   obtain ⟨t372, A520, H⟩ := H
   replace H : (if t372 = true then (laws_FnExactStepCloud.j0 k t350 t370 (t370 != t350) a0_0 a0_1 a0_2 a0_3 a0_4 a0_5 a0_6 a1_0 a1_1 l1_2 t345 t346 t347 t352 t353 t354 t365 t366 t367) else (laws_FnExactStepCloud.j0 k t350 t370 true a0_0 a0_1 a0_2 a0_3 a0_4 a0_5 a0_6 a1_0 a1_1 l1_2 t345 t346 t347 t352 t353 t354 t365 t366 t367)) = some r := H
   have A52 := Aside0.mk A520
   clear A520
   by_cases c53 : t372 = true
   ·subst c53
    have H1 : (laws_FnExactStepCloud.j0 k t350 t370 (t370 != t350) a0_0 a0_1 a0_2 a0_3 a0_4 a0_5 a0_6 a1_0 a1_1 l1_2 t345 t346 t347 t352 t353 t354 t365 t366 t367) = some r := by rw [if_pos rfl] at H; exact H
    clear H
    have H := H1
    clear H1
    have H' := Aside0.mk H
    clear H
    have hnb54 := NB371_330.out
    have hnc54 := NB330_371.out
    have hnb55 := NB371_331.out
    have hnc55 := NB331_371.out
    have hnb56 := NB371_351.out
    have hnc56 := NB351_371.out
    have hnb57 := NB371_357.out
    have hnc57 := NB357_371.out
    have hcz58_0 : w47.cell? ⟨gb371, 0, none⟩ = some (.int .i64 0) := (blk_cell BK371.out 0).trans rfl
    have hcz58_1 : w47.cell? ⟨gb371, 1, none⟩ = some (.int .i64 0) := (blk_cell BK371.out 1).trans rfl
    have hcz58_2 : w47.cell? ⟨gb371, 2, none⟩ = some (.slice none 0 0) := (blk_cell BK371.out 2).trans rfl
    have hfz58_0 := blk_frozen BK371.out 0
    have hfz58_1 := blk_frozen BK371.out 1
    have hfz58_2 := blk_frozen BK371.out 2
    have hnb59 := NB351_330.out
    have hnc59 := NB330_351.out
    have hnb60 := NB351_331.out
    have hnc60 := NB331_351.out
    have hnb61 := NB351_357.out
    have hnc61 := NB357_351.out
    have hcz62_0 : w47.cell? ⟨gb351, 0, none⟩ = some (.int .i64 t345) := (blk_cell BK351.out 0).trans rfl
    have hcz62_1 : w47.cell? ⟨gb351, 1, none⟩ = some (.int .i64 t346) := (blk_cell BK351.out 1).trans rfl
    have hcz62_2 : w47.cell? ⟨gb351, 2, none⟩ = some (.slice Ao31 t347.length co31) := (blk_cell BK351.out 2).trans rfl
    have hfz62_0 := blk_frozen BK351.out 0
    have hfz62_1 := blk_frozen BK351.out 1
    have hfz62_2 := blk_frozen BK351.out 2
    go_wp2_with (first | ((with_reducible refine gate_callee (f := 13) rfl ?_); refine goesL_ (some 40) rfl rfl Try.func13 (by kernel_rfl) rfl #[.agg #[.int .i64 t365, .int .i64 t366, .slice Ao50 t367.length co50], .agg #[.int .i64 t345, .int .i64 t346, .slice Ao31 t347.length co31]] rfl aE ?_; (with_reducible refine (laws_eqCloud.calls k t365 t366 _ _ t367 t345 t346 _ _ t347 true _ ?side1 ?side2 ?side3 ?side4 A52.out).mono ?_); (case side1 => refine (Kd.R_reads' (e := 48) (base := w.heap.size) (ok := fun k_ => (some k_ ≠ (v343 : Value).ownBlock ∧ (some k_ ≠ (.slice Ao31 t347.length co31 : Value).ownBlock ∧ some k_ ≠ (.slice Ao41 t354.length co41 : Value).ownBlock))) (n := t367.length) (c := co50) ?_).2.2; exact (rU (Kd.R_mono (Kd.R_far (p := ⟨gb371, 2, none⟩) (Kd.R_far (p := ⟨gb371, 1, none⟩) (Kd.R_far (p := ⟨gb371, 0, none⟩) (Kd.R_types HO369.out BK371.out (by decide)) (fun _ hk => hk.2) (.int .i64 t365)) (fun _ hk => hk.2) (.int .i64 t366)) (fun _ hk => hk.2) (.slice Ao50 t367.length co50)) (fun _ h_ => h_.1)))); (case side2 => exact (Kd.R_reads' HO369.out).2.1); (case side3 => refine (Kd.R_reads' (e := 48) (base := w.heap.size) (ok := fun k_ => (some k_ ≠ (v343 : Value).ownBlock ∧ (some k_ ≠ (.slice Ao41 t354.length co41 : Value).ownBlock ∧ some k_ ≠ (.slice Ao50 t367.length co50 : Value).ownBlock))) (n := t347.length) (c := co31) ?_).2.2; exact (rU (Kd.R_mono (Kd.R_far (p := ⟨gb371, 2, none⟩) (Kd.R_far (p := ⟨gb371, 1, none⟩) (Kd.R_far (p := ⟨gb371, 0, none⟩) (Kd.R_types HO349.out BK371.out (by decide)) (fun _ hk => hk.2) (.int .i64 t365)) (fun _ hk => hk.2) (.int .i64 t366)) (fun _ hk => hk.2) (.slice Ao50 t367.length co50)) (fun _ h_ => h_.1)))); (case side4 => exact (Kd.R_reads' HO349.out).2.1); rintro e w63 ⟨rfl, hb⟩; refine ⟨_, rfl, ?_⟩; replace HO344 := Aside0.mk (Kd.R_below (rU (Kd.R_mono (Kd.R_far (p := ⟨gb371, 2, none⟩) (Kd.R_far (p := ⟨gb371, 1, none⟩) (Kd.R_far (p := ⟨gb371, 0, none⟩) (Kd.R_types HO344.out BK371.out (by decide)) (fun _ hk => hk.2) (.int .i64 t365)) (fun _ hk => hk.2) (.int .i64 t366)) (fun _ hk => hk.2) (.slice Ao50 t367.length co50)) (fun _ h_ => h_.1))) hb); replace HO349 := Aside0.mk (Kd.R_below (rU (Kd.R_mono (Kd.R_far (p := ⟨gb371, 2, none⟩) (Kd.R_far (p := ⟨gb371, 1, none⟩) (Kd.R_far (p := ⟨gb371, 0, none⟩) (Kd.R_types HO349.out BK371.out (by decide)) (fun _ hk => hk.2) (.int .i64 t365)) (fun _ hk => hk.2) (.int .i64 t366)) (fun _ hk => hk.2) (.slice Ao50 t367.length co50)) (fun _ h_ => h_.1))) hb); replace HO356 := Aside0.mk (Kd.R_below (rU (Kd.R_mono (Kd.R_far (p := ⟨gb371, 2, none⟩) (Kd.R_far (p := ⟨gb371, 1, none⟩) (Kd.R_far (p := ⟨gb371, 0, none⟩) (Kd.R_types HO356.out BK371.out (by decide)) (fun _ hk => hk.2) (.int .i64 t365)) (fun _ hk => hk.2) (.int .i64 t366)) (fun _ hk => hk.2) (.slice Ao50 t367.length co50)) (fun _ h_ => h_.1))) hb); replace HO369 := Aside0.mk (Kd.R_below (rU (Kd.R_mono (Kd.R_far (p := ⟨gb371, 2, none⟩) (Kd.R_far (p := ⟨gb371, 1, none⟩) (Kd.R_far (p := ⟨gb371, 0, none⟩) (Kd.R_types HO369.out BK371.out (by decide)) (fun _ hk => hk.2) (.int .i64 t365)) (fun _ hk => hk.2) (.int .i64 t366)) (fun _ hk => hk.2) (.slice Ao50 t367.length co50)) (fun _ h_ => h_.1))) hb); replace BK330 := Aside0.mk (blk_below (bF NB330_371.out BK330.out) hb); replace BK331 := Aside0.mk (blk_below (bF NB331_371.out BK331.out) hb); replace BK351 := Aside0.mk (blk_below (bF NB351_371.out BK351.out) hb); replace BK357 := Aside0.mk (blk_below (bF NB357_371.out BK357.out) hb); replace BK371 := Aside0.mk (blk_below (g := gb371) (o := .cells #[.int .i64 t365, .int .i64 t366, .slice Ao50 t367.length co50] 35 (0, 0)) (by refine bU ?_; refine blk_put (cs := #[.int .i64 t365, .int .i64 t366, .slice none 0 0]) ?_ 2 _ rfl; refine bU ?_; refine blk_put (cs := #[.int .i64 t365, .int .i64 0, .slice none 0 0]) ?_ 1 _ rfl; refine bU ?_; refine blk_put (cs := #[.int .i64 0, .int .i64 0, .slice none 0 0]) ?_ 0 _ rfl; refine bU ?_; exact BK371.out) hb); replace HB := Aside0.mk (below_step (lU5 GE330.out GE331.out GE351.out GE357.out GE371.out) hb); (try clear hb); (try clear hb2); (try clear hk); (try clear hi)))
    go_meet
    case rel => exact ⟨_, ((t370 != t350)), tE, H', ⟨by first | omega | exact Nat.le_refl _⟩, ⟨by (with_reducible repeat (first | apply Kd.R_alloc | apply Kd.R_drewN | apply Kd.R_drew)); exact Kd.R_mono HO349.out (fun _ hk => ⟨hk.2.1, hk.2.2⟩)⟩, ⟨by (with_reducible repeat (first | apply Kd.R_alloc | apply Kd.R_drewN | apply Kd.R_drew)); exact Kd.R_mono HO356.out (fun _ hk => ⟨hk.2.1, hk.2.2⟩)⟩, ⟨by (with_reducible repeat (first | apply Kd.R_alloc | apply Kd.R_drewN | apply Kd.R_drew)); exact Kd.R_mono HO369.out (fun _ hk => ⟨hk.2.1, hk.2.2⟩)⟩, ⟨by refine bU ?_; exact BK330.out⟩, ⟨by refine bU ?_; exact BK331.out⟩, ⟨by refine bU ?_; exact BK351.out⟩, ⟨by refine bU ?_; exact BK357.out⟩, ⟨by refine bU ?_; exact BK371.out⟩, ⟨by repeat (first | (with_reducible first | exact HB.out | apply below_alloc | apply pw_below_drewN | apply below_drew1 | refine below_set ?_ GE330.out | refine below_set ?_ GE331.out | refine below_set ?_ GE351.out | refine below_set ?_ GE357.out | refine below_set ?_ GE371.out) | exact HB.out)⟩⟩
   ·replace c53 := Bool.eq_false_iff.mpr c53
    subst c53
    have H1 : (laws_FnExactStepCloud.j0 k t350 t370 true a0_0 a0_1 a0_2 a0_3 a0_4 a0_5 a0_6 a1_0 a1_1 l1_2 t345 t346 t347 t352 t353 t354 t365 t366 t367) = some r := by rw [if_neg (show ¬ (false = true) by decide)] at H; exact H
    clear H
    have H := H1
    clear H1
    have H' := Aside0.mk H
    clear H
    have hnb64 := NB371_330.out
    have hnc64 := NB330_371.out
    have hnb65 := NB371_331.out
    have hnc65 := NB331_371.out
    have hnb66 := NB371_351.out
    have hnc66 := NB351_371.out
    have hnb67 := NB371_357.out
    have hnc67 := NB357_371.out
    have hcz68_0 : w47.cell? ⟨gb371, 0, none⟩ = some (.int .i64 0) := (blk_cell BK371.out 0).trans rfl
    have hcz68_1 : w47.cell? ⟨gb371, 1, none⟩ = some (.int .i64 0) := (blk_cell BK371.out 1).trans rfl
    have hcz68_2 : w47.cell? ⟨gb371, 2, none⟩ = some (.slice none 0 0) := (blk_cell BK371.out 2).trans rfl
    have hfz68_0 := blk_frozen BK371.out 0
    have hfz68_1 := blk_frozen BK371.out 1
    have hfz68_2 := blk_frozen BK371.out 2
    have hnb69 := NB351_330.out
    have hnc69 := NB330_351.out
    have hnb70 := NB351_331.out
    have hnc70 := NB331_351.out
    have hnb71 := NB351_357.out
    have hnc71 := NB357_351.out
    have hcz72_0 : w47.cell? ⟨gb351, 0, none⟩ = some (.int .i64 t345) := (blk_cell BK351.out 0).trans rfl
    have hcz72_1 : w47.cell? ⟨gb351, 1, none⟩ = some (.int .i64 t346) := (blk_cell BK351.out 1).trans rfl
    have hcz72_2 : w47.cell? ⟨gb351, 2, none⟩ = some (.slice Ao31 t347.length co31) := (blk_cell BK351.out 2).trans rfl
    have hfz72_0 := blk_frozen BK351.out 0
    have hfz72_1 := blk_frozen BK351.out 1
    have hfz72_2 := blk_frozen BK351.out 2
    go_wp2_with (first | ((with_reducible refine gate_callee (f := 13) rfl ?_); refine goesL_ (some 40) rfl rfl Try.func13 (by kernel_rfl) rfl #[.agg #[.int .i64 t365, .int .i64 t366, .slice Ao50 t367.length co50], .agg #[.int .i64 t345, .int .i64 t346, .slice Ao31 t347.length co31]] rfl aE ?_; (with_reducible refine (laws_eqCloud.calls k t365 t366 _ _ t367 t345 t346 _ _ t347 false _ ?side1 ?side2 ?side3 ?side4 A52.out).mono ?_); (case side1 => refine (Kd.R_reads' (e := 48) (base := w.heap.size) (ok := fun k_ => (some k_ ≠ (v343 : Value).ownBlock ∧ (some k_ ≠ (.slice Ao31 t347.length co31 : Value).ownBlock ∧ some k_ ≠ (.slice Ao41 t354.length co41 : Value).ownBlock))) (n := t367.length) (c := co50) ?_).2.2; exact (rU (Kd.R_mono (Kd.R_far (p := ⟨gb371, 2, none⟩) (Kd.R_far (p := ⟨gb371, 1, none⟩) (Kd.R_far (p := ⟨gb371, 0, none⟩) (Kd.R_types HO369.out BK371.out (by decide)) (fun _ hk => hk.2) (.int .i64 t365)) (fun _ hk => hk.2) (.int .i64 t366)) (fun _ hk => hk.2) (.slice Ao50 t367.length co50)) (fun _ h_ => h_.1)))); (case side2 => exact (Kd.R_reads' HO369.out).2.1); (case side3 => refine (Kd.R_reads' (e := 48) (base := w.heap.size) (ok := fun k_ => (some k_ ≠ (v343 : Value).ownBlock ∧ (some k_ ≠ (.slice Ao41 t354.length co41 : Value).ownBlock ∧ some k_ ≠ (.slice Ao50 t367.length co50 : Value).ownBlock))) (n := t347.length) (c := co31) ?_).2.2; exact (rU (Kd.R_mono (Kd.R_far (p := ⟨gb371, 2, none⟩) (Kd.R_far (p := ⟨gb371, 1, none⟩) (Kd.R_far (p := ⟨gb371, 0, none⟩) (Kd.R_types HO349.out BK371.out (by decide)) (fun _ hk => hk.2) (.int .i64 t365)) (fun _ hk => hk.2) (.int .i64 t366)) (fun _ hk => hk.2) (.slice Ao50 t367.length co50)) (fun _ h_ => h_.1)))); (case side4 => exact (Kd.R_reads' HO349.out).2.1); rintro e w73 ⟨rfl, hb⟩; refine ⟨_, rfl, ?_⟩; replace HO344 := Aside0.mk (Kd.R_below (rU (Kd.R_mono (Kd.R_far (p := ⟨gb371, 2, none⟩) (Kd.R_far (p := ⟨gb371, 1, none⟩) (Kd.R_far (p := ⟨gb371, 0, none⟩) (Kd.R_types HO344.out BK371.out (by decide)) (fun _ hk => hk.2) (.int .i64 t365)) (fun _ hk => hk.2) (.int .i64 t366)) (fun _ hk => hk.2) (.slice Ao50 t367.length co50)) (fun _ h_ => h_.1))) hb); replace HO349 := Aside0.mk (Kd.R_below (rU (Kd.R_mono (Kd.R_far (p := ⟨gb371, 2, none⟩) (Kd.R_far (p := ⟨gb371, 1, none⟩) (Kd.R_far (p := ⟨gb371, 0, none⟩) (Kd.R_types HO349.out BK371.out (by decide)) (fun _ hk => hk.2) (.int .i64 t365)) (fun _ hk => hk.2) (.int .i64 t366)) (fun _ hk => hk.2) (.slice Ao50 t367.length co50)) (fun _ h_ => h_.1))) hb); replace HO356 := Aside0.mk (Kd.R_below (rU (Kd.R_mono (Kd.R_far (p := ⟨gb371, 2, none⟩) (Kd.R_far (p := ⟨gb371, 1, none⟩) (Kd.R_far (p := ⟨gb371, 0, none⟩) (Kd.R_types HO356.out BK371.out (by decide)) (fun _ hk => hk.2) (.int .i64 t365)) (fun _ hk => hk.2) (.int .i64 t366)) (fun _ hk => hk.2) (.slice Ao50 t367.length co50)) (fun _ h_ => h_.1))) hb); replace HO369 := Aside0.mk (Kd.R_below (rU (Kd.R_mono (Kd.R_far (p := ⟨gb371, 2, none⟩) (Kd.R_far (p := ⟨gb371, 1, none⟩) (Kd.R_far (p := ⟨gb371, 0, none⟩) (Kd.R_types HO369.out BK371.out (by decide)) (fun _ hk => hk.2) (.int .i64 t365)) (fun _ hk => hk.2) (.int .i64 t366)) (fun _ hk => hk.2) (.slice Ao50 t367.length co50)) (fun _ h_ => h_.1))) hb); replace BK330 := Aside0.mk (blk_below (bF NB330_371.out BK330.out) hb); replace BK331 := Aside0.mk (blk_below (bF NB331_371.out BK331.out) hb); replace BK351 := Aside0.mk (blk_below (bF NB351_371.out BK351.out) hb); replace BK357 := Aside0.mk (blk_below (bF NB357_371.out BK357.out) hb); replace BK371 := Aside0.mk (blk_below (g := gb371) (o := .cells #[.int .i64 t365, .int .i64 t366, .slice Ao50 t367.length co50] 35 (0, 0)) (by refine bU ?_; refine blk_put (cs := #[.int .i64 t365, .int .i64 t366, .slice none 0 0]) ?_ 2 _ rfl; refine bU ?_; refine blk_put (cs := #[.int .i64 t365, .int .i64 0, .slice none 0 0]) ?_ 1 _ rfl; refine bU ?_; refine blk_put (cs := #[.int .i64 0, .int .i64 0, .slice none 0 0]) ?_ 0 _ rfl; refine bU ?_; exact BK371.out) hb); replace HB := Aside0.mk (below_step (lU5 GE330.out GE331.out GE351.out GE357.out GE371.out) hb); (try clear hb); (try clear hb2); (try clear hk); (try clear hi)))
    go_meet
    case rel => exact ⟨_, (true), tE, H', ⟨by first | omega | exact Nat.le_refl _⟩, ⟨by (with_reducible repeat (first | apply Kd.R_alloc | apply Kd.R_drewN | apply Kd.R_drew)); exact Kd.R_mono HO349.out (fun _ hk => ⟨hk.2.1, hk.2.2⟩)⟩, ⟨by (with_reducible repeat (first | apply Kd.R_alloc | apply Kd.R_drewN | apply Kd.R_drew)); exact Kd.R_mono HO356.out (fun _ hk => ⟨hk.2.1, hk.2.2⟩)⟩, ⟨by (with_reducible repeat (first | apply Kd.R_alloc | apply Kd.R_drewN | apply Kd.R_drew)); exact Kd.R_mono HO369.out (fun _ hk => ⟨hk.2.1, hk.2.2⟩)⟩, ⟨by refine bU ?_; exact BK330.out⟩, ⟨by refine bU ?_; exact BK331.out⟩, ⟨by refine bU ?_; exact BK351.out⟩, ⟨by refine bU ?_; exact BK357.out⟩, ⟨by refine bU ?_; exact BK371.out⟩, ⟨by repeat (first | (with_reducible first | exact HB.out | apply below_alloc | apply pw_below_drewN | apply below_drew1 | refine below_set ?_ GE330.out | refine below_set ?_ GE331.out | refine below_set ?_ GE351.out | refine below_set ?_ GE357.out | refine below_set ?_ GE371.out) | exact HB.out)⟩⟩
  case rest =>
   clear HC16
   try clear c1
   try clear p2
   try clear c5
   try clear c6
   try clear c7
   try clear c12
   try clear c13
   try clear c53
   try clear c54
   try clear c55
   try clear c56
   try clear c57
   try clear c59
   try clear c60
   try clear c61
   try clear c64
   try clear c65
   try clear c66
   try clear c67
   try clear c69
   try clear c70
   try clear c71
   try clear hcz58_0
   try clear hcz58_1
   try clear hcz58_2
   try clear hcz62_0
   try clear hcz62_1
   try clear hcz62_2
   try clear hcz68_0
   try clear hcz68_1
   try clear hcz68_2
   try clear hcz72_0
   try clear hcz72_1
   try clear hcz72_2
   try clear hfz58_0
   try clear hfz58_1
   try clear hfz58_2
   try clear hfz62_0
   try clear hfz62_1
   try clear hfz62_2
   try clear hfz68_0
   try clear hfz68_1
   try clear hfz68_2
   try clear hfz72_0
   try clear hfz72_1
   try clear hfz72_2
   obtain ⟨kq, x46_15, rfl, HA, HJ15, HO_352002, HO_358002, HO_372002, BK330, BK331, BK351, BK357, BK371, HB⟩ := hcut
   cases kq with
   | zero => exact absurd HA.out (by simp [laws_FnExactStepCloud.j0])
   | succ kj15 =>
    have H := HA.out
    clear HA
    simp only [laws_FnExactStepCloud.j0] at H
    by_cases c74 : x46_15 = true
    ·subst c74
     have H1 : (some false) = some r := by rw [if_pos rfl] at H; exact H
     clear H
     have H := H1
     clear H1
     obtain rfl := Option.some.inj H
     go_wp2
     go_ret
     exact ⟨eE, lU5 GE330.out GE331.out GE351.out GE357.out GE371.out⟩
    ·replace c74 := Bool.eq_false_iff.mpr c74
     subst c74
     have H1 : ((laws_toCloud.f kj15 a1_0 a1_1 l1_2).bind fun bt373 => ((laws_eqCloud.f kj15 t352 t353 t354 bt373.1 bt373.2.1 bt373.2.2).bind fun t378 => (if t378 = true then ((laws_markCloud.f kj15 t352 t353 t354 1).bind fun bt379 => (if bt379.1 < 0 then (laws_FnExactStepCloud.j1 kj15 t350 true a0_0 a0_1 a0_2 a0_3 a0_4 a0_5 a0_6 a1_0 a1_1 l1_2 t345 t346 t347 t365 t366 t367) else ((laws_eqCloud.f kj15 t365 t366 t367 t345 t346 t347).bind fun t381 => (if t381 = true then (laws_FnExactStepCloud.j1 kj15 t350 (t370 != t350) a0_0 a0_1 a0_2 a0_3 a0_4 a0_5 a0_6 a1_0 a1_1 l1_2 t345 t346 t347 t365 t366 t367) else (laws_FnExactStepCloud.j1 kj15 t350 true a0_0 a0_1 a0_2 a0_3 a0_4 a0_5 a0_6 a1_0 a1_1 l1_2 t345 t346 t347 t365 t366 t367))))) else (some false)))) = some r := by rw [if_neg (show ¬ (false = true) by decide)] at H; exact H
     clear H
     have H := H1
     clear H1
     replace H := Option.bind_eq_some_iff.mp H
     obtain ⟨⟨t373, t374, t375⟩, A750, H⟩ := H
     replace H : ((laws_eqCloud.f kj15 t352 t353 t354 t373 t374 t375).bind fun t378 => (if t378 = true then ((laws_markCloud.f kj15 t352 t353 t354 1).bind fun bt379 => (if bt379.1 < 0 then (laws_FnExactStepCloud.j1 kj15 t350 true a0_0 a0_1 a0_2 a0_3 a0_4 a0_5 a0_6 a1_0 a1_1 l1_2 t345 t346 t347 t365 t366 t367) else ((laws_eqCloud.f kj15 t365 t366 t367 t345 t346 t347).bind fun t381 => (if t381 = true then (laws_FnExactStepCloud.j1 kj15 t350 (t370 != t350) a0_0 a0_1 a0_2 a0_3 a0_4 a0_5 a0_6 a1_0 a1_1 l1_2 t345 t346 t347 t365 t366 t367) else (laws_FnExactStepCloud.j1 kj15 t350 true a0_0 a0_1 a0_2 a0_3 a0_4 a0_5 a0_6 a1_0 a1_1 l1_2 t345 t346 t347 t365 t366 t367))))) else (some false))) = some r := H
     have A75 := Aside0.mk A750
     clear A750
     replace H := Option.bind_eq_some_iff.mp H
     obtain ⟨t378, A760, H⟩ := H
     replace H : (if t378 = true then ((laws_markCloud.f kj15 t352 t353 t354 1).bind fun bt379 => (if bt379.1 < 0 then (laws_FnExactStepCloud.j1 kj15 t350 true a0_0 a0_1 a0_2 a0_3 a0_4 a0_5 a0_6 a1_0 a1_1 l1_2 t345 t346 t347 t365 t366 t367) else ((laws_eqCloud.f kj15 t365 t366 t367 t345 t346 t347).bind fun t381 => (if t381 = true then (laws_FnExactStepCloud.j1 kj15 t350 (t370 != t350) a0_0 a0_1 a0_2 a0_3 a0_4 a0_5 a0_6 a1_0 a1_1 l1_2 t345 t346 t347 t365 t366 t367) else (laws_FnExactStepCloud.j1 kj15 t350 true a0_0 a0_1 a0_2 a0_3 a0_4 a0_5 a0_6 a1_0 a1_1 l1_2 t345 t346 t347 t365 t366 t367))))) else (some false)) = some r := H
     have A76 := Aside0.mk A760
     clear A760
     by_cases c77 : t378 = true
     ·subst c77
      have H1 : ((laws_markCloud.f kj15 t352 t353 t354 1).bind fun bt379 => (if bt379.1 < 0 then (laws_FnExactStepCloud.j1 kj15 t350 true a0_0 a0_1 a0_2 a0_3 a0_4 a0_5 a0_6 a1_0 a1_1 l1_2 t345 t346 t347 t365 t366 t367) else ((laws_eqCloud.f kj15 t365 t366 t367 t345 t346 t347).bind fun t381 => (if t381 = true then (laws_FnExactStepCloud.j1 kj15 t350 (t370 != t350) a0_0 a0_1 a0_2 a0_3 a0_4 a0_5 a0_6 a1_0 a1_1 l1_2 t345 t346 t347 t365 t366 t367) else (laws_FnExactStepCloud.j1 kj15 t350 true a0_0 a0_1 a0_2 a0_3 a0_4 a0_5 a0_6 a1_0 a1_1 l1_2 t345 t346 t347 t365 t366 t367))))) = some r := by rw [if_pos rfl] at H; exact H
      clear H
      have H := H1
      clear H1
      replace H := Option.bind_eq_some_iff.mp H
      obtain ⟨⟨t379, t380⟩, A780, H⟩ := H
      replace H : (if t379 < 0 then (laws_FnExactStepCloud.j1 kj15 t350 true a0_0 a0_1 a0_2 a0_3 a0_4 a0_5 a0_6 a1_0 a1_1 l1_2 t345 t346 t347 t365 t366 t367) else ((laws_eqCloud.f kj15 t365 t366 t367 t345 t346 t347).bind fun t381 => (if t381 = true then (laws_FnExactStepCloud.j1 kj15 t350 (t370 != t350) a0_0 a0_1 a0_2 a0_3 a0_4 a0_5 a0_6 a1_0 a1_1 l1_2 t345 t346 t347 t365 t366 t367) else (laws_FnExactStepCloud.j1 kj15 t350 true a0_0 a0_1 a0_2 a0_3 a0_4 a0_5 a0_6 a1_0 a1_1 l1_2 t345 t346 t347 t365 t366 t367)))) = some r := H
      have A78 := Aside0.mk A780
      clear A780
      have HC79 := Aside0.mk H
      clear H
      try go_wp2
      replace HO_352002 := Aside0.mk (Kd.R_drew HO_352002.out)
      replace HO_358002 := Aside0.mk (Kd.R_drew HO_358002.out)
      replace HO_372002 := Aside0.mk (Kd.R_drew HO_372002.out)
      replace BK330 := Aside0.mk (blk_drew BK330.out)
      replace BK331 := Aside0.mk (blk_drew BK331.out)
      replace BK351 := Aside0.mk (blk_drew BK351.out)
      replace BK357 := Aside0.mk (blk_drew BK357.out)
      replace BK371 := Aside0.mk (blk_drew BK371.out)
      replace HB := Aside0.mk (below_drew1 HB.out)
      refine start_ (n := 5) (S := fun w' => w'.cell? ⟨gb357, 0, none⟩ = some (.int .i64 t352) ∧ w'.cell? ⟨gb357, 1, none⟩ = some (.int .i64 t353) ∧ w'.cell? ⟨gb357, 2, none⟩ = some (.slice Ao41 t354.length co41) ∧ w'.cell? ⟨gb331, 0, none⟩ = some (.int .i64 a1_0) ∧ w'.cell? ⟨gb331, 1, none⟩ = some (.int .i64 a1_1) ∧ w'.cell? ⟨gb331, 2, none⟩ = some (.slice A1_2 l1_2.length c1_2)) (ds := []) #[false, false, false, false, false] (by kernel_rfl) rfl rfl ⟨(blk_cell BK357.out 0).trans rfl, (blk_cell BK357.out 1).trans rfl, (blk_cell BK357.out 2).trans rfl, (blk_cell BK331.out 0).trans rfl, (blk_cell BK331.out 1).trans rfl, (blk_cell BK331.out 2).trans rfl⟩ (fun hHeld => ?_)
      generalize wc.drew = w80 at HO_352002 HO_358002 HO_372002 BK330 BK331 BK351 BK357 BK371 HB hHeld ⊢
      refine take_ (i := 0) (N := some 47) (v := ?_) (a' := ?_) (bz 5 1) rfl rfl (by kernel_rfl) (fun _ _ _ h => h) (Or.inl ⟨by rfl, ?_⟩) hHeld ?_ ?_
      rotate_left
      ·rintro w' ⟨s0, s1, s2, s3, s4, s5⟩
       go_simp
       with_reducible rfl
      rotate_left
      ·simp only [Act.put, List.setIfInBounds_toArray, List.set_cons_zero, List.set_cons_succ, i64_w, i32_w]
       rfl
      refine take_ (i := 1) (N := some 48) (v := ?_) (a' := ?_) (bz 5 3) rfl rfl (by kernel_rfl) (fun _ _ _ h => h) (Or.inl ⟨by rfl, ?_⟩) hHeld ?_ ?_
      rotate_left
      ·rintro w' ⟨s0, s1, s2, s3, s4, s5⟩
       go_simp
       with_reducible rfl
      rotate_left
      ·simp only [Act.put, List.setIfInBounds_toArray, List.set_cons_zero, List.set_cons_succ, i64_w, i32_w]
       rfl
      refine one_ (i := 2) (N := some 49) (bz 5 7) rfl rfl (by kernel_rfl) (by decide) (fun K hK => ?_)
      refine goes_ Try.func11 (by kernel_rfl) rfl #[.agg #[.int .i64 a1_0, .int .i64 a1_1, .slice A1_2 l1_2.length c1_2]] (by rfl) rfl rfl aE ?_
      with_reducible refine (laws_toCloud.calls kj15 a1_0 a1_1 _ _ l1_2 t373 t374 t375 _ ?side1 ?side2 A75.out).mono ?_
      (case side1 => exact cU (Kd.C_below HR1_2.out HB.out))
      (case side2 => exact HC1_2.out)
      rintro e w81 ⟨v376, rfl, ho0, hb⟩
      refine ⟨_, rfl, ?_⟩
      have HO377 := Aside0.mk (Kd.R_lower (Kd.R_new' (Kd.R_new' (Kd.R_new' ho0 (Kd.R_lt (rU HO_352002.out))) (Kd.R_lt (rU HO_358002.out))) (Kd.R_lt (rU HO_372002.out))) (below_size (lU5 GE330.out GE331.out GE351.out GE357.out GE371.out)))
      replace HO_352002 := Aside0.mk (Kd.R_elder' (rU HO_352002.out) (Kd.R_base ho0) hb)
      replace HO_358002 := Aside0.mk (Kd.R_elder' (rU HO_358002.out) (Kd.R_base ho0) hb)
      replace HO_372002 := Aside0.mk (Kd.R_elder' (rU HO_372002.out) (Kd.R_base ho0) hb)
      replace BK330 := Aside0.mk (blk_below (bU BK330.out) hb)
      replace BK331 := Aside0.mk (blk_below (bU BK331.out) hb)
      replace BK351 := Aside0.mk (blk_below (bU BK351.out) hb)
      replace BK357 := Aside0.mk (blk_below (bU BK357.out) hb)
      replace BK371 := Aside0.mk (blk_below (bU BK371.out) hb)
      replace HB := Aside0.mk (below_step (lU5 GE330.out GE331.out GE351.out GE357.out GE371.out) hb)
      (try clear hb)
      (try clear hb2)
      (try clear hk)
      (try clear hi)
      (try clear ho0)
      obtain ⟨Ao82, co82, eo82⟩ := Kd.R_slice HO377.out
      (first | subst eo82 | (injection eo82 with f1_ f2_ f3_; have f4_ := f1_.symm; have f5_ := f3_.symm; clear f1_ f2_ f3_; subst f4_; subst f5_))
      refine hK.out _ _ ⟨(blk_cell BK357.out 0).trans rfl, (blk_cell BK357.out 1).trans rfl, (blk_cell BK357.out 2).trans rfl, (blk_cell BK331.out 0).trans rfl, (blk_cell BK331.out 1).trans rfl, (blk_cell BK331.out 2).trans rfl⟩ (fun hHeld => ?_)
      clear hK K
      refine norm_ (a' := ?_) ?_ ?_
      rotate_left
      ·show Act.put _ (some 49) _ = _
       simp only [Act.put, List.setIfInBounds_toArray, List.set_cons_zero, List.set_cons_succ, i64_w, i32_w]
       rfl
      refine one_ (i := 3) (N := some 50) (bz 5 15) rfl rfl (by kernel_rfl) (by decide) (fun K hK => ?_)
      refine goes_ Try.func13 (by kernel_rfl) rfl #[.agg #[.int .i64 t352, .int .i64 t353, .slice Ao41 t354.length co41], .agg #[.int .i64 t373, .int .i64 t374, .slice Ao82 t375.length co82]] (by rfl) rfl rfl aE ?_
      with_reducible refine (laws_eqCloud.calls kj15 t352 t353 _ _ t354 t373 t374 _ _ t375 true _ ?side1 ?side2 ?side3 ?side4 A76.out).mono ?_
      (case side1 => exact cU (Kd.R_reads' HO_358002.out).2.2)
      (case side2 => exact (Kd.R_reads' HO_358002.out).2.1)
      (case side3 => exact cU (Kd.R_reads' HO377.out).2.2)
      (case side4 => exact (Kd.R_reads' HO377.out).2.1)
      rintro e w83 ⟨rfl, hb⟩
      refine ⟨_, rfl, ?_⟩
      replace HO_352002 := Aside0.mk (Kd.R_below (rU HO_352002.out) hb)
      replace HO_358002 := Aside0.mk (Kd.R_below (rU HO_358002.out) hb)
      replace HO_372002 := Aside0.mk (Kd.R_below (rU HO_372002.out) hb)
      replace HO377 := Aside0.mk (Kd.R_below (rU HO377.out) hb)
      replace BK330 := Aside0.mk (blk_below (bU BK330.out) hb)
      replace BK331 := Aside0.mk (blk_below (bU BK331.out) hb)
      replace BK351 := Aside0.mk (blk_below (bU BK351.out) hb)
      replace BK357 := Aside0.mk (blk_below (bU BK357.out) hb)
      replace BK371 := Aside0.mk (blk_below (bU BK371.out) hb)
      replace HB := Aside0.mk (below_step (lU5 GE330.out GE331.out GE351.out GE357.out GE371.out) hb)
      (try clear hb)
      (try clear hb2)
      (try clear hk)
      (try clear hi)
      refine hK.out _ _ ⟨(blk_cell BK357.out 0).trans rfl, (blk_cell BK357.out 1).trans rfl, (blk_cell BK357.out 2).trans rfl, (blk_cell BK331.out 0).trans rfl, (blk_cell BK331.out 1).trans rfl, (blk_cell BK331.out 2).trans rfl⟩ (fun hHeld => ?_)
      clear hK K
      refine norm_ (a' := ?_) ?_ ?_
      rotate_left
      ·show Act.put _ (some 50) _ = _
       simp only [Act.put, List.setIfInBounds_toArray, List.set_cons_zero, List.set_cons_succ, i64_w, i32_w]
       rfl
      refine pure_ (i := 4) (N := some 51) (v := ?_) (a' := ?_) (bz 5 31) rfl rfl (by kernel_rfl) (fun _ _ _ h => h) (Or.inl ⟨by rfl, ?_⟩) ?_ ?_
      rotate_left
      ·intro w'
       go_simp
       with_reducible rfl
      rotate_left
      ·simp only [Act.put, List.setIfInBounds_toArray, List.set_cons_zero, List.set_cons_succ, i64_w, i32_w]
       rfl
      refine done_ (by kernel_rfl) ?_
      have hnb84 := NB357_330.out
      have hnc84 := NB330_357.out
      have hnb85 := NB357_331.out
      have hnc85 := NB331_357.out
      have hnb86 := NB357_351.out
      have hnc86 := NB351_357.out
      have hnb87 := NB357_371.out
      have hnc87 := NB371_357.out
      have hcz88_0 : w83.cell? ⟨gb357, 0, none⟩ = some (.int .i64 t352) := (blk_cell BK357.out 0).trans rfl
      have hcz88_1 : w83.cell? ⟨gb357, 1, none⟩ = some (.int .i64 t353) := (blk_cell BK357.out 1).trans rfl
      have hcz88_2 : w83.cell? ⟨gb357, 2, none⟩ = some (.slice Ao41 t354.length co41) := (blk_cell BK357.out 2).trans rfl
      have hfz88_0 := blk_frozen BK357.out 0
      have hfz88_1 := blk_frozen BK357.out 1
      have hfz88_2 := blk_frozen BK357.out 2
      go_upto_region 14 with (first | ((with_reducible refine gate_callee (f := 14) rfl ?_); refine goesL_ (some 54) rfl rfl Try.func14 (by kernel_rfl) rfl #[.agg #[.int .i64 t352, .int .i64 t353, .slice Ao41 t354.length co41], .int .i64 1] rfl aE ?_; (with_reducible refine (laws_markCloud.calls kj15 t352 t353 (fun k_ => some k_ = (.slice Ao41 t354.length co41 : Value).ownBlock) (.slice Ao41 t354.length co41) t354 1 t379 t380 w _ ?side1 ?side2 A78.out).mono ?_); (case side1 => repeat (first | (with_reducible first | exact HB.out | apply below_alloc | apply pw_below_drewN | apply below_drew1 | refine below_set ?_ GE330.out | refine below_set ?_ GE331.out | refine below_set ?_ GE351.out | refine below_set ?_ GE357.out | refine below_set ?_ GE371.out) | exact HB.out)); (case side2 => exact Kd.R_tight rfl HO_358002.out); rintro e w89 ⟨rfl, hy0, hb, hkp⟩; refine ⟨_, rfl, ?_⟩; replace HO_352002 := Aside0.mk (Kd.R_mono (ok' := fun k_ => some k_ ≠ (.slice Ao41 t354.length co41 : Value).ownBlock ∧ some k_ ≠ (.slice Ao50 t367.length co50 : Value).ownBlock ∧ some k_ ≠ (.slice Ao82 t375.length co82 : Value).ownBlock) (Kd.R_keptB (HO_352002.out) hkp (fun k_ hk_ hs_ => (hk_.1.1) hs_)) (fun k_ hk_ => ⟨hk_.1.1.1, hk_.1.1.2, hk_.1.2⟩)); replace HO_372002 := Aside0.mk (Kd.R_mono (ok' := fun k_ => some k_ ≠ (.slice Ao31 t347.length co31 : Value).ownBlock ∧ some k_ ≠ (.slice Ao41 t354.length co41 : Value).ownBlock ∧ some k_ ≠ (.slice Ao82 t375.length co82 : Value).ownBlock) (Kd.R_keptB (HO_372002.out) hkp (fun k_ hk_ hs_ => (hk_.1.2) hs_)) (fun k_ hk_ => ⟨hk_.1.1.1, hk_.1.1.2, hk_.1.2⟩)); replace BK330 := Aside0.mk (blk_kept (bU BK330.out) hkp (fun hs_ => (fun e_ => (Kd.R_ne HO_358002.out BK330.out (by decide)) e_) hs_)); replace BK331 := Aside0.mk (blk_kept (bU BK331.out) hkp (fun hs_ => (fun e_ => (Kd.R_ne HO_358002.out BK331.out (by decide)) e_) hs_)); replace BK351 := Aside0.mk (blk_kept (bU BK351.out) hkp (fun hs_ => (fun e_ => (Kd.R_ne HO_358002.out BK351.out (by decide)) e_) hs_)); replace BK357 := Aside0.mk (blk_kept (bU BK357.out) hkp (fun hs_ => (fun e_ => (Kd.R_ne HO_358002.out BK357.out (by decide)) e_) hs_)); replace BK371 := Aside0.mk (blk_kept (bU BK371.out) hkp (fun hs_ => (fun e_ => (Kd.R_ne HO_358002.out BK371.out (by decide)) e_) hs_)); replace HO_358002 := Aside0.mk (Kd.R_reok rfl hy0 (fun k_ e_ => HO_358002.out.1 k_ e_)); replace HO377 := Aside0.mk (Kd.R_mono (ok' := fun k_ => some k_ ≠ (.slice Ao31 t347.length co31 : Value).ownBlock ∧ some k_ ≠ (.slice Ao41 t354.length co41 : Value).ownBlock ∧ some k_ ≠ (.slice Ao50 t367.length co50 : Value).ownBlock) (Kd.R_keptB (HO377.out) hkp (fun k_ hk_ hs_ => (hk_.1.2) hs_)) (fun k_ hk_ => ⟨hk_.1.1.1.2, hk_.1.1.2, hk_.1.2⟩)); replace HB := Aside0.mk hb; (try clear hb); (try clear hkp); (try clear hy0)))
      (try simp only [Act.put, List.setIfInBounds_toArray, List.set_cons_zero, List.set_cons_succ])
      go_cut [67] (fun v67 wc => ∃ (kq : Nat) (x67_78 : Bool), v67 = .bool x67_78 ∧ Aside0 (laws_FnExactStepCloud.j1 kq t350 x67_78 a0_0 a0_1 a0_2 a0_3 a0_4 a0_5 a0_6 a1_0 a1_1 l1_2 t345 t346 t347 t365 t366 t367 = some r) ∧ Aside0 (kq ≤ kj15) ∧ Aside0 (Kd.R k48 48 wc w.heap.size (fun k_ => some k_ ≠ ((.slice Ao41 t354.length co41) : Value).ownBlock ∧ some k_ ≠ ((.slice Ao50 t367.length co50) : Value).ownBlock) (.slice Ao31 t347.length co31) t347) ∧ Aside0 (Kd.R k48 48 wc w.heap.size (fun k_ => some k_ ≠ ((.slice Ao31 t347.length co31) : Value).ownBlock ∧ some k_ ≠ ((.slice Ao50 t367.length co50) : Value).ownBlock) (.slice Ao41 t354.length co41) t380) ∧ Aside0 (Kd.R k48 48 wc w.heap.size (fun k_ => some k_ ≠ ((.slice Ao31 t347.length co31) : Value).ownBlock ∧ some k_ ≠ ((.slice Ao41 t354.length co41) : Value).ownBlock) (.slice Ao50 t367.length co50) t367) ∧ Aside0 (wc.heap[gb330]? = some (.cells #[.int .i64 a0_0, .int .i64 a0_1, .int .i64 a0_2, .int .i64 a0_3, .int .i64 a0_4, .int .i64 a0_5, .int .i64 a0_6] 23 (0, 0))) ∧ Aside0 (wc.heap[gb331]? = some (.cells #[.int .i64 a1_0, .int .i64 a1_1, (.slice A1_2 l1_2.length c1_2)] 31 (0, 0))) ∧ Aside0 (wc.heap[gb351]? = some (.cells #[.int .i64 t345, .int .i64 t346, (.slice Ao31 t347.length co31)] 35 (0, 0))) ∧ Aside0 (wc.heap[gb357]? = some (.cells #[.int .i64 t352, .int .i64 t353, (.slice Ao41 t354.length co41)] 35 (0, 0))) ∧ Aside0 (wc.heap[gb371]? = some (.cells #[.int .i64 t365, .int .i64 t366, (.slice Ao50 t367.length co50)] 35 (0, 0))) ∧ Aside0 (Below w.heap.size w wc))
      case first =>
       have H := HC79.out
       clear HC79
       by_cases c90 : t379 < 0
       ·rw [if_pos c90] at H
        have c90b0 : decide (t379 < 0) = true := decide_eq_true c90
        clear c90
        (first | rw [c90b0] | (simp only [i64_w, i32_w]; rw [c90b0]) | (rw [c90b2]; simp only [Bool.not_false, Bool.not_true]) | skip)
        have H' := Aside0.mk H
        clear H
        go_wp2
        go_meet
        case rel => exact ⟨_, (true), tE, H', ⟨by have := HJ15.out; first | omega | exact Nat.le_refl _⟩, ⟨by (with_reducible repeat (first | apply Kd.R_alloc | apply Kd.R_drewN | apply Kd.R_drew)); exact Kd.R_mono HO_352002.out (fun _ hk => ⟨hk.1, hk.2.1⟩)⟩, ⟨by (with_reducible repeat (first | apply Kd.R_alloc | apply Kd.R_drewN | apply Kd.R_drew)); exact Kd.R_mono HO_358002.out (fun _ hk => ⟨hk.1.1, hk.1.2⟩)⟩, ⟨by (with_reducible repeat (first | apply Kd.R_alloc | apply Kd.R_drewN | apply Kd.R_drew)); exact Kd.R_mono HO_372002.out (fun _ hk => ⟨hk.1, hk.2.1⟩)⟩, ⟨by refine bU ?_; exact BK330.out⟩, ⟨by refine bU ?_; exact BK331.out⟩, ⟨by refine bU ?_; exact BK351.out⟩, ⟨by refine bU ?_; exact BK357.out⟩, ⟨by refine bU ?_; exact BK371.out⟩, ⟨by repeat (first | (with_reducible first | exact HB.out | apply below_alloc | apply pw_below_drewN | apply below_drew1 | refine below_set ?_ GE330.out | refine below_set ?_ GE331.out | refine below_set ?_ GE351.out | refine below_set ?_ GE357.out | refine below_set ?_ GE371.out) | exact HB.out)⟩⟩
       ·rw [if_neg c90] at H
        have c90b0 : decide (t379 < 0) = false := decide_eq_false c90
        clear c90
        (first | rw [c90b0] | (simp only [i64_w, i32_w]; rw [c90b0]) | (rw [c90b2]; simp only [Bool.not_false, Bool.not_true]) | skip)
        replace H := Option.bind_eq_some_iff.mp H
        obtain ⟨t381, A910, H⟩ := H
        replace H : (if t381 = true then (laws_FnExactStepCloud.j1 kj15 t350 (t370 != t350) a0_0 a0_1 a0_2 a0_3 a0_4 a0_5 a0_6 a1_0 a1_1 l1_2 t345 t346 t347 t365 t366 t367) else (laws_FnExactStepCloud.j1 kj15 t350 true a0_0 a0_1 a0_2 a0_3 a0_4 a0_5 a0_6 a1_0 a1_1 l1_2 t345 t346 t347 t365 t366 t367)) = some r := H
        have A91 := Aside0.mk A910
        clear A910
        by_cases c92 : t381 = true
        ·subst c92
         have H1 : (laws_FnExactStepCloud.j1 kj15 t350 (t370 != t350) a0_0 a0_1 a0_2 a0_3 a0_4 a0_5 a0_6 a1_0 a1_1 l1_2 t345 t346 t347 t365 t366 t367) = some r := by rw [if_pos rfl] at H; exact H
         clear H
         have H := H1
         clear H1
         have H' := Aside0.mk H
         clear H
         have hnb93 := NB371_330.out
         have hnc93 := NB330_371.out
         have hnb94 := NB371_331.out
         have hnc94 := NB331_371.out
         have hnb95 := NB371_351.out
         have hnc95 := NB351_371.out
         have hnb96 := NB371_357.out
         have hnc96 := NB357_371.out
         have hcz97_0 : w89.cell? ⟨gb371, 0, none⟩ = some (.int .i64 t365) := (blk_cell BK371.out 0).trans rfl
         have hcz97_1 : w89.cell? ⟨gb371, 1, none⟩ = some (.int .i64 t366) := (blk_cell BK371.out 1).trans rfl
         have hcz97_2 : w89.cell? ⟨gb371, 2, none⟩ = some (.slice Ao50 t367.length co50) := (blk_cell BK371.out 2).trans rfl
         have hfz97_0 := blk_frozen BK371.out 0
         have hfz97_1 := blk_frozen BK371.out 1
         have hfz97_2 := blk_frozen BK371.out 2
         have hnb98 := NB351_330.out
         have hnc98 := NB330_351.out
         have hnb99 := NB351_331.out
         have hnc99 := NB331_351.out
         have hnb100 := NB351_357.out
         have hnc100 := NB357_351.out
         have hcz101_0 : w89.cell? ⟨gb351, 0, none⟩ = some (.int .i64 t345) := (blk_cell BK351.out 0).trans rfl
         have hcz101_1 : w89.cell? ⟨gb351, 1, none⟩ = some (.int .i64 t346) := (blk_cell BK351.out 1).trans rfl
         have hcz101_2 : w89.cell? ⟨gb351, 2, none⟩ = some (.slice Ao31 t347.length co31) := (blk_cell BK351.out 2).trans rfl
         have hfz101_0 := blk_frozen BK351.out 0
         have hfz101_1 := blk_frozen BK351.out 1
         have hfz101_2 := blk_frozen BK351.out 2
         go_wp2_with (first | (go_at_call 13; (with_reducible refine (laws_eqCloud.calls kj15 t365 t366 _ _ t367 t345 t346 _ _ t347 true _ ?side1 ?side2 ?side3 ?side4 A91.out).mono ?_); (case side1 => exact cU (Kd.R_reads' HO_372002.out).2.2); (case side2 => exact (Kd.R_reads' HO_372002.out).2.1); (case side3 => exact cU (Kd.R_reads' HO_352002.out).2.2); (case side4 => exact (Kd.R_reads' HO_352002.out).2.1); rintro e w102 ⟨rfl, hb⟩; replace HO_352002 := Aside0.mk (Kd.R_below (rU HO_352002.out) hb); replace HO_358002 := Aside0.mk (Kd.R_below (rU HO_358002.out) hb); replace HO_372002 := Aside0.mk (Kd.R_below (rU HO_372002.out) hb); replace HO377 := Aside0.mk (Kd.R_below (rU HO377.out) hb); replace BK330 := Aside0.mk (blk_below (bU BK330.out) hb); replace BK331 := Aside0.mk (blk_below (bU BK331.out) hb); replace BK351 := Aside0.mk (blk_below (bU BK351.out) hb); replace BK357 := Aside0.mk (blk_below (bU BK357.out) hb); replace BK371 := Aside0.mk (blk_below (bU BK371.out) hb); replace HB := Aside0.mk (below_step (lU5 GE330.out GE331.out GE351.out GE357.out GE371.out) hb); (try clear hb); (try clear hb2); (try clear hk); (try clear hi)))
         go_meet
         case rel => exact ⟨_, ((t370 != t350)), tE, H', ⟨by have := HJ15.out; first | omega | exact Nat.le_refl _⟩, ⟨by (with_reducible repeat (first | apply Kd.R_alloc | apply Kd.R_drewN | apply Kd.R_drew)); exact Kd.R_mono HO_352002.out (fun _ hk => ⟨hk.1, hk.2.1⟩)⟩, ⟨by (with_reducible repeat (first | apply Kd.R_alloc | apply Kd.R_drewN | apply Kd.R_drew)); exact Kd.R_mono HO_358002.out (fun _ hk => ⟨hk.1.1, hk.1.2⟩)⟩, ⟨by (with_reducible repeat (first | apply Kd.R_alloc | apply Kd.R_drewN | apply Kd.R_drew)); exact Kd.R_mono HO_372002.out (fun _ hk => ⟨hk.1, hk.2.1⟩)⟩, ⟨by refine bU ?_; exact BK330.out⟩, ⟨by refine bU ?_; exact BK331.out⟩, ⟨by refine bU ?_; exact BK351.out⟩, ⟨by refine bU ?_; exact BK357.out⟩, ⟨by refine bU ?_; exact BK371.out⟩, ⟨by repeat (first | (with_reducible first | exact HB.out | apply below_alloc | apply pw_below_drewN | apply below_drew1 | refine below_set ?_ GE330.out | refine below_set ?_ GE331.out | refine below_set ?_ GE351.out | refine below_set ?_ GE357.out | refine below_set ?_ GE371.out) | exact HB.out)⟩⟩
        ·replace c92 := Bool.eq_false_iff.mpr c92
         subst c92
         have H1 : (laws_FnExactStepCloud.j1 kj15 t350 true a0_0 a0_1 a0_2 a0_3 a0_4 a0_5 a0_6 a1_0 a1_1 l1_2 t345 t346 t347 t365 t366 t367) = some r := by rw [if_neg (show ¬ (false = true) by decide)] at H; exact H
         clear H
         have H := H1
         clear H1
         have H' := Aside0.mk H
         clear H
         have hnb103 := NB371_330.out
         have hnc103 := NB330_371.out
         have hnb104 := NB371_331.out
         have hnc104 := NB331_371.out
         have hnb105 := NB371_351.out
         have hnc105 := NB351_371.out
         have hnb106 := NB371_357.out
         have hnc106 := NB357_371.out
         have hcz107_0 : w89.cell? ⟨gb371, 0, none⟩ = some (.int .i64 t365) := (blk_cell BK371.out 0).trans rfl
         have hcz107_1 : w89.cell? ⟨gb371, 1, none⟩ = some (.int .i64 t366) := (blk_cell BK371.out 1).trans rfl
         have hcz107_2 : w89.cell? ⟨gb371, 2, none⟩ = some (.slice Ao50 t367.length co50) := (blk_cell BK371.out 2).trans rfl
         have hfz107_0 := blk_frozen BK371.out 0
         have hfz107_1 := blk_frozen BK371.out 1
         have hfz107_2 := blk_frozen BK371.out 2
         have hnb108 := NB351_330.out
         have hnc108 := NB330_351.out
         have hnb109 := NB351_331.out
         have hnc109 := NB331_351.out
         have hnb110 := NB351_357.out
         have hnc110 := NB357_351.out
         have hcz111_0 : w89.cell? ⟨gb351, 0, none⟩ = some (.int .i64 t345) := (blk_cell BK351.out 0).trans rfl
         have hcz111_1 : w89.cell? ⟨gb351, 1, none⟩ = some (.int .i64 t346) := (blk_cell BK351.out 1).trans rfl
         have hcz111_2 : w89.cell? ⟨gb351, 2, none⟩ = some (.slice Ao31 t347.length co31) := (blk_cell BK351.out 2).trans rfl
         have hfz111_0 := blk_frozen BK351.out 0
         have hfz111_1 := blk_frozen BK351.out 1
         have hfz111_2 := blk_frozen BK351.out 2
         go_wp2_with (first | (go_at_call 13; (with_reducible refine (laws_eqCloud.calls kj15 t365 t366 _ _ t367 t345 t346 _ _ t347 false _ ?side1 ?side2 ?side3 ?side4 A91.out).mono ?_); (case side1 => exact cU (Kd.R_reads' HO_372002.out).2.2); (case side2 => exact (Kd.R_reads' HO_372002.out).2.1); (case side3 => exact cU (Kd.R_reads' HO_352002.out).2.2); (case side4 => exact (Kd.R_reads' HO_352002.out).2.1); rintro e w112 ⟨rfl, hb⟩; replace HO_352002 := Aside0.mk (Kd.R_below (rU HO_352002.out) hb); replace HO_358002 := Aside0.mk (Kd.R_below (rU HO_358002.out) hb); replace HO_372002 := Aside0.mk (Kd.R_below (rU HO_372002.out) hb); replace HO377 := Aside0.mk (Kd.R_below (rU HO377.out) hb); replace BK330 := Aside0.mk (blk_below (bU BK330.out) hb); replace BK331 := Aside0.mk (blk_below (bU BK331.out) hb); replace BK351 := Aside0.mk (blk_below (bU BK351.out) hb); replace BK357 := Aside0.mk (blk_below (bU BK357.out) hb); replace BK371 := Aside0.mk (blk_below (bU BK371.out) hb); replace HB := Aside0.mk (below_step (lU5 GE330.out GE331.out GE351.out GE357.out GE371.out) hb); (try clear hb); (try clear hb2); (try clear hk); (try clear hi)))
         go_meet
         case rel => exact ⟨_, (true), tE, H', ⟨by have := HJ15.out; first | omega | exact Nat.le_refl _⟩, ⟨by (with_reducible repeat (first | apply Kd.R_alloc | apply Kd.R_drewN | apply Kd.R_drew)); exact Kd.R_mono HO_352002.out (fun _ hk => ⟨hk.1, hk.2.1⟩)⟩, ⟨by (with_reducible repeat (first | apply Kd.R_alloc | apply Kd.R_drewN | apply Kd.R_drew)); exact Kd.R_mono HO_358002.out (fun _ hk => ⟨hk.1.1, hk.1.2⟩)⟩, ⟨by (with_reducible repeat (first | apply Kd.R_alloc | apply Kd.R_drewN | apply Kd.R_drew)); exact Kd.R_mono HO_372002.out (fun _ hk => ⟨hk.1, hk.2.1⟩)⟩, ⟨by refine bU ?_; exact BK330.out⟩, ⟨by refine bU ?_; exact BK331.out⟩, ⟨by refine bU ?_; exact BK351.out⟩, ⟨by refine bU ?_; exact BK357.out⟩, ⟨by refine bU ?_; exact BK371.out⟩, ⟨by repeat (first | (with_reducible first | exact HB.out | apply below_alloc | apply pw_below_drewN | apply below_drew1 | refine below_set ?_ GE330.out | refine below_set ?_ GE331.out | refine below_set ?_ GE351.out | refine below_set ?_ GE357.out | refine below_set ?_ GE371.out) | exact HB.out)⟩⟩
      case rest =>
       clear HC79
       try clear c1
       try clear p2
       try clear c5
       try clear c6
       try clear c7
       try clear c8
       try clear c9
       try clear c10
       try clear c11
       try clear c12
       try clear c13
       try clear c14
       try clear c53
       try clear c54
       try clear c55
       try clear c56
       try clear c57
       try clear c59
       try clear c60
       try clear c61
       try clear c64
       try clear c65
       try clear c66
       try clear c67
       try clear c69
       try clear c70
       try clear c71
       try clear c74
       try clear c77
       try clear c84
       try clear c85
       try clear c86
       try clear c87
       try clear c90
       try clear c90b0
       try clear c90b2
       try clear c92
       try clear c93
       try clear c94
       try clear c95
       try clear c96
       try clear c98
       try clear c99
       try clear c100
       try clear c103
       try clear c104
       try clear c105
       try clear c106
       try clear c108
       try clear c109
       try clear c110
       try clear hcz101_0
       try clear hcz101_1
       try clear hcz101_2
       try clear hcz107_0
       try clear hcz107_1
       try clear hcz107_2
       try clear hcz111_0
       try clear hcz111_1
       try clear hcz111_2
       try clear hcz58_0
       try clear hcz58_1
       try clear hcz58_2
       try clear hcz62_0
       try clear hcz62_1
       try clear hcz62_2
       try clear hcz68_0
       try clear hcz68_1
       try clear hcz68_2
       try clear hcz72_0
       try clear hcz72_1
       try clear hcz72_2
       try clear hcz88_0
       try clear hcz88_1
       try clear hcz88_2
       try clear hcz97_0
       try clear hcz97_1
       try clear hcz97_2
       try clear hfz101_0
       try clear hfz101_1
       try clear hfz101_2
       try clear hfz107_0
       try clear hfz107_1
       try clear hfz107_2
       try clear hfz111_0
       try clear hfz111_1
       try clear hfz111_2
       try clear hfz58_0
       try clear hfz58_1
       try clear hfz58_2
       try clear hfz62_0
       try clear hfz62_1
       try clear hfz62_2
       try clear hfz68_0
       try clear hfz68_1
       try clear hfz68_2
       try clear hfz72_0
       try clear hfz72_1
       try clear hfz72_2
       try clear hfz88_0
       try clear hfz88_1
       try clear hfz88_2
       try clear hfz97_0
       try clear hfz97_1
       try clear hfz97_2
       try clear p2
       obtain ⟨kq, x67_78, rfl, HA, HJ78, HO_352002, HO_358002, HO_372002, BK330, BK331, BK351, BK357, BK371, HB⟩ := hcut
       have hl358002_78 := (Kd.R_reads' HO_358002.out).1
       rw [hl358002_78] at HO_358002
       (try simp only [hl358002_78])
       (try simp only [hl358002_78] at BK330)
       (try simp only [hl358002_78] at BK331)
       (try simp only [hl358002_78] at BK351)
       (try simp only [hl358002_78] at BK357)
       (try simp only [hl358002_78] at BK371)
       (try simp only [hl358002_78] at HO_352002)
       (try simp only [hl358002_78] at HO_372002)
       cases kq with
       | zero => exact absurd HA.out (by simp [laws_FnExactStepCloud.j1])
       | succ kj78 =>
        have H := HA.out
        clear HA
        simp only [laws_FnExactStepCloud.j1] at H
        by_cases c113 : x67_78 = true
        ·subst c113
         have H1 : (some false) = some r := by rw [if_pos rfl] at H; exact H
         clear H
         have H := H1
         clear H1
         obtain rfl := Option.some.inj H
         go_wp2
         go_ret
         exact ⟨eE, lU5 GE330.out GE331.out GE351.out GE357.out GE371.out⟩
        ·replace c113 := Bool.eq_false_iff.mpr c113
         subst c113
         have H1 : ((laws_markCloud.f kj78 t365 t366 t367 1).bind fun bt382 => ((laws_heldCloud.f kj78 t365 t366 bt382.2 1).bind fun t384 => (if t384 < 0 then (some false) else (if t384 = bt382.1 then ((laws_toEmitter.f a0_0 a0_1 a0_2 a0_3 a0_4 a0_5 a0_6).bind fun bt385 => ((laws_toCloud.f kj78 a1_0 a1_1 l1_2).bind fun bt392 => ((impl_StepCloud.f kj78 bt385.1 bt385.2.1 bt385.2.2.1 bt385.2.2.2.1 bt385.2.2.2.2.1 bt385.2.2.2.2.2.1 bt385.2.2.2.2.2.2 bt392.1 bt392.2.1 bt392.2.2).bind fun bt397 => ((laws_eqCloud.f kj78 bt397.1 bt397.2.1 bt397.2.2.1 t345 t346 t347).bind fun t404 => (if t404 = true then (laws_FnExactStepCloud.j2 kj78 bt382.1 (bt397.2.2.2 != t350) t365 t366 bt382.2) else (laws_FnExactStepCloud.j2 kj78 bt382.1 true t365 t366 bt382.2)))))) else (some false))))) = some r := by rw [if_neg (show ¬ (false = true) by decide)] at H; exact H
         clear H
         have H := H1
         clear H1
         replace H := Option.bind_eq_some_iff.mp H
         obtain ⟨⟨t382, t383⟩, A1140, H⟩ := H
         replace H : ((laws_heldCloud.f kj78 t365 t366 t383 1).bind fun t384 => (if t384 < 0 then (some false) else (if t384 = t382 then ((laws_toEmitter.f a0_0 a0_1 a0_2 a0_3 a0_4 a0_5 a0_6).bind fun bt385 => ((laws_toCloud.f kj78 a1_0 a1_1 l1_2).bind fun bt392 => ((impl_StepCloud.f kj78 bt385.1 bt385.2.1 bt385.2.2.1 bt385.2.2.2.1 bt385.2.2.2.2.1 bt385.2.2.2.2.2.1 bt385.2.2.2.2.2.2 bt392.1 bt392.2.1 bt392.2.2).bind fun bt397 => ((laws_eqCloud.f kj78 bt397.1 bt397.2.1 bt397.2.2.1 t345 t346 t347).bind fun t404 => (if t404 = true then (laws_FnExactStepCloud.j2 kj78 t382 (bt397.2.2.2 != t350) t365 t366 t383) else (laws_FnExactStepCloud.j2 kj78 t382 true t365 t366 t383)))))) else (some false)))) = some r := H
         have A114 := Aside0.mk A1140
         clear A1140
         replace H := Option.bind_eq_some_iff.mp H
         obtain ⟨t384, A1150, H⟩ := H
         replace H : (if t384 < 0 then (some false) else (if t384 = t382 then ((laws_toEmitter.f a0_0 a0_1 a0_2 a0_3 a0_4 a0_5 a0_6).bind fun bt385 => ((laws_toCloud.f kj78 a1_0 a1_1 l1_2).bind fun bt392 => ((impl_StepCloud.f kj78 bt385.1 bt385.2.1 bt385.2.2.1 bt385.2.2.2.1 bt385.2.2.2.2.1 bt385.2.2.2.2.2.1 bt385.2.2.2.2.2.2 bt392.1 bt392.2.1 bt392.2.2).bind fun bt397 => ((laws_eqCloud.f kj78 bt397.1 bt397.2.1 bt397.2.2.1 t345 t346 t347).bind fun t404 => (if t404 = true then (laws_FnExactStepCloud.j2 kj78 t382 (bt397.2.2.2 != t350) t365 t366 t383) else (laws_FnExactStepCloud.j2 kj78 t382 true t365 t366 t383)))))) else (some false))) = some r := H
         have A115 := Aside0.mk A1150
         clear A1150
         by_cases c116 : t384 < 0
         ·rw [if_pos c116] at H
          have c116b0 : decide (t384 < 0) = true := decide_eq_true c116
          clear c116
          obtain rfl := Option.some.inj H
          have hnb117 := NB371_330.out
          have hnc117 := NB330_371.out
          have hnb118 := NB371_331.out
          have hnc118 := NB331_371.out
          have hnb119 := NB371_351.out
          have hnc119 := NB351_371.out
          have hnb120 := NB371_357.out
          have hnc120 := NB357_371.out
          have hcz121_0 : wc.cell? ⟨gb371, 0, none⟩ = some (.int .i64 t365) := (blk_cell BK371.out 0).trans rfl
          have hcz121_1 : wc.cell? ⟨gb371, 1, none⟩ = some (.int .i64 t366) := (blk_cell BK371.out 1).trans rfl
          have hcz121_2 : wc.cell? ⟨gb371, 2, none⟩ = some (.slice Ao50 t367.length co50) := (blk_cell BK371.out 2).trans rfl
          have hfz121_0 := blk_frozen BK371.out 0
          have hfz121_1 := blk_frozen BK371.out 1
          have hfz121_2 := blk_frozen BK371.out 2
          go_wp2_with (first | ((with_reducible refine gate_callee (f := 14) rfl ?_); refine goesL_ (some 70) rfl rfl Try.func14 (by kernel_rfl) rfl #[.agg #[.int .i64 t365, .int .i64 t366, .slice Ao50 t367.length co50], .int .i64 1] rfl aE ?_; (with_reducible refine (laws_markCloud.calls kj78 t365 t366 (fun k_ => some k_ = (.slice Ao50 t367.length co50 : Value).ownBlock) (.slice Ao50 t367.length co50) t367 1 t382 t383 w _ ?side1 ?side2 A114.out).mono ?_); (case side1 => repeat (first | (with_reducible first | exact HB.out | apply below_alloc | apply pw_below_drewN | apply below_drew1 | refine below_set ?_ GE330.out | refine below_set ?_ GE331.out | refine below_set ?_ GE351.out | refine below_set ?_ GE357.out | refine below_set ?_ GE371.out) | exact HB.out)); (case side2 => exact Kd.R_tight rfl HO_372002.out); rintro e w122 ⟨rfl, hy0, hb, hkp⟩; refine ⟨_, rfl, ?_⟩; replace HO_352002 := Aside0.mk (Kd.R_mono (ok' := fun k_ => some k_ ≠ (.slice Ao41 t380.length co41 : Value).ownBlock ∧ some k_ ≠ (.slice Ao50 t367.length co50 : Value).ownBlock) (Kd.R_keptB (HO_352002.out) hkp (fun k_ hk_ hs_ => (hk_.2) hs_)) (fun k_ hk_ => ⟨hk_.1.1, hk_.1.2⟩)); replace HO_358002 := Aside0.mk (Kd.R_mono (ok' := fun k_ => some k_ ≠ (.slice Ao31 t347.length co31 : Value).ownBlock ∧ some k_ ≠ (.slice Ao50 t367.length co50 : Value).ownBlock) (Kd.R_keptB (HO_358002.out) hkp (fun k_ hk_ hs_ => (hk_.2) hs_)) (fun k_ hk_ => ⟨hk_.1.1, hk_.1.2⟩)); replace BK330 := Aside0.mk (blk_kept (bU BK330.out) hkp (fun hs_ => (fun e_ => (Kd.R_ne HO_372002.out BK330.out (by decide)) e_) hs_)); replace BK331 := Aside0.mk (blk_kept (bU BK331.out) hkp (fun hs_ => (fun e_ => (Kd.R_ne HO_372002.out BK331.out (by decide)) e_) hs_)); replace BK351 := Aside0.mk (blk_kept (bU BK351.out) hkp (fun hs_ => (fun e_ => (Kd.R_ne HO_372002.out BK351.out (by decide)) e_) hs_)); replace BK357 := Aside0.mk (blk_kept (bU BK357.out) hkp (fun hs_ => (fun e_ => (Kd.R_ne HO_372002.out BK357.out (by decide)) e_) hs_)); replace BK371 := Aside0.mk (blk_kept (bU BK371.out) hkp (fun hs_ => (fun e_ => (Kd.R_ne HO_372002.out BK371.out (by decide)) e_) hs_)); replace HO_372002 := Aside0.mk (Kd.R_reok rfl hy0 (fun k_ e_ => HO_372002.out.1 k_ e_)); replace HB := Aside0.mk hb; (try clear hb); (try clear hkp); (try clear hy0); have hcz123_0 : w122.cell? ⟨gb371, 0, none⟩ = some (.int .i64 t365) := (blk_cell BK371.out 0).trans rfl; have hcz123_1 : w122.cell? ⟨gb371, 1, none⟩ = some (.int .i64 t366) := (blk_cell BK371.out 1).trans rfl; have hcz123_2 : w122.cell? ⟨gb371, 2, none⟩ = some (.slice Ao50 t367.length co50) := (blk_cell BK371.out 2).trans rfl; have hfz123_0 := blk_frozen BK371.out 0; have hfz123_1 := blk_frozen BK371.out 1; have hfz123_2 := blk_frozen BK371.out 2) | ((with_reducible refine gate_callee (f := 15) rfl ?_); refine goesL_ (some 73) rfl rfl Try.func15 (by kernel_rfl) rfl #[.agg #[.int .i64 t365, .int .i64 t366, .slice Ao50 t383.length co50], .int .i64 1] rfl (by (try simp only [List.map_toArray, List.map_cons, List.map_nil]); first | done | (rw [show t383.length = t367.length from (Kd.R_reads' HO_372002.out).1.symm] <;> rfl) | rfl | (simp only [List.length_drop, List.length_take]; rfl)) ?_; (with_reducible refine (laws_heldCloud.calls kj78 t365 t366 _ _ t383 1 t384 _ ?side1 ?side2 A115.out).mono ?_); (case side1 => exact cU (Kd.R_reads' HO_372002.out).2.2); (case side2 => rw [show t383.length = t367.length from (Kd.R_reads' HO_372002.out).1.symm]; exact (Kd.R_reads' HO_372002.out).2.1); rintro e w124 ⟨rfl, hb⟩; refine ⟨_, rfl, ?_⟩; replace HO_352002 := Aside0.mk (Kd.R_below (rU HO_352002.out) hb); replace HO_358002 := Aside0.mk (Kd.R_below (rU HO_358002.out) hb); replace HO_372002 := Aside0.mk (Kd.R_below (rU HO_372002.out) hb); replace BK330 := Aside0.mk (blk_below (bU BK330.out) hb); replace BK331 := Aside0.mk (blk_below (bU BK331.out) hb); replace BK351 := Aside0.mk (blk_below (bU BK351.out) hb); replace BK357 := Aside0.mk (blk_below (bU BK357.out) hb); replace BK371 := Aside0.mk (blk_below (bU BK371.out) hb); replace HB := Aside0.mk (below_step (lU5 GE330.out GE331.out GE351.out GE357.out GE371.out) hb); (try clear hb); (try clear hb2); (try clear hk); (try clear hi)))
          go_ret
          exact ⟨eE, lU5 GE330.out GE331.out GE351.out GE357.out GE371.out⟩
         ·rw [if_neg c116] at H
          have c116b0 : decide (t384 < 0) = false := decide_eq_false c116
          clear c116
          by_cases c125 : t384 = t382
          ·rw [if_pos c125] at H
           have c125b0 : (t384 == t382) = true := beq_iff_eq.mpr c125
           have c125b1 : (t384 != t382) = false := bne_eq_false_iff_eq.mpr c125
           clear c125
           replace H := Option.bind_eq_some_iff.mp H
           obtain ⟨⟨t385, t386, t387, t388, t389, t390, t391⟩, A1260, H⟩ := H
           replace H : ((laws_toCloud.f kj78 a1_0 a1_1 l1_2).bind fun bt392 => ((impl_StepCloud.f kj78 t385 t386 t387 t388 t389 t390 t391 bt392.1 bt392.2.1 bt392.2.2).bind fun bt397 => ((laws_eqCloud.f kj78 bt397.1 bt397.2.1 bt397.2.2.1 t345 t346 t347).bind fun t404 => (if t404 = true then (laws_FnExactStepCloud.j2 kj78 t382 (bt397.2.2.2 != t350) t365 t366 t383) else (laws_FnExactStepCloud.j2 kj78 t382 true t365 t366 t383))))) = some r := H
           have A126 := Aside0.mk A1260
           clear A1260
           replace H := Option.bind_eq_some_iff.mp H
           obtain ⟨⟨t392, t393, t394⟩, A1270, H⟩ := H
           replace H : ((impl_StepCloud.f kj78 t385 t386 t387 t388 t389 t390 t391 t392 t393 t394).bind fun bt397 => ((laws_eqCloud.f kj78 bt397.1 bt397.2.1 bt397.2.2.1 t345 t346 t347).bind fun t404 => (if t404 = true then (laws_FnExactStepCloud.j2 kj78 t382 (bt397.2.2.2 != t350) t365 t366 t383) else (laws_FnExactStepCloud.j2 kj78 t382 true t365 t366 t383)))) = some r := H
           have A127 := Aside0.mk A1270
           clear A1270
           replace H := Option.bind_eq_some_iff.mp H
           obtain ⟨⟨t397, t398, t399, t402⟩, A1280, H⟩ := H
           replace H : ((laws_eqCloud.f kj78 t397 t398 t399 t345 t346 t347).bind fun t404 => (if t404 = true then (laws_FnExactStepCloud.j2 kj78 t382 (t402 != t350) t365 t366 t383) else (laws_FnExactStepCloud.j2 kj78 t382 true t365 t366 t383))) = some r := H
           have A128 := Aside0.mk A1280
           clear A1280
           have HC129 := Aside0.mk H
           clear H
           have hnb130 := NB371_330.out
           have hnc130 := NB330_371.out
           have hnb131 := NB371_331.out
           have hnc131 := NB331_371.out
           have hnb132 := NB371_351.out
           have hnc132 := NB351_371.out
           have hnb133 := NB371_357.out
           have hnc133 := NB357_371.out
           have hcz134_0 : wc.cell? ⟨gb371, 0, none⟩ = some (.int .i64 t365) := (blk_cell BK371.out 0).trans rfl
           have hcz134_1 : wc.cell? ⟨gb371, 1, none⟩ = some (.int .i64 t366) := (blk_cell BK371.out 1).trans rfl
           have hcz134_2 : wc.cell? ⟨gb371, 2, none⟩ = some (.slice Ao50 t367.length co50) := (blk_cell BK371.out 2).trans rfl
           have hfz134_0 := blk_frozen BK371.out 0
           have hfz134_1 := blk_frozen BK371.out 1
           have hfz134_2 := blk_frozen BK371.out 2
           try go_wp2_with (first | ((with_reducible refine gate_callee (f := 14) rfl ?_); refine goesL_ (some 70) rfl rfl Try.func14 (by kernel_rfl) rfl #[.agg #[.int .i64 t365, .int .i64 t366, .slice Ao50 t367.length co50], .int .i64 1] rfl aE ?_; (with_reducible refine (laws_markCloud.calls kj78 t365 t366 (fun k_ => some k_ = (.slice Ao50 t367.length co50 : Value).ownBlock) (.slice Ao50 t367.length co50) t367 1 t382 t383 w _ ?side1 ?side2 A114.out).mono ?_); (case side1 => repeat (first | (with_reducible first | exact HB.out | apply below_alloc | apply pw_below_drewN | apply below_drew1 | refine below_set ?_ GE330.out | refine below_set ?_ GE331.out | refine below_set ?_ GE351.out | refine below_set ?_ GE357.out | refine below_set ?_ GE371.out) | exact HB.out)); (case side2 => exact Kd.R_tight rfl HO_372002.out); rintro e w135 ⟨rfl, hy0, hb, hkp⟩; refine ⟨_, rfl, ?_⟩; replace HO_352002 := Aside0.mk (Kd.R_mono (ok' := fun k_ => some k_ ≠ (.slice Ao41 t380.length co41 : Value).ownBlock ∧ some k_ ≠ (.slice Ao50 t367.length co50 : Value).ownBlock) (Kd.R_keptB (HO_352002.out) hkp (fun k_ hk_ hs_ => (hk_.2) hs_)) (fun k_ hk_ => ⟨hk_.1.1, hk_.1.2⟩)); replace HO_358002 := Aside0.mk (Kd.R_mono (ok' := fun k_ => some k_ ≠ (.slice Ao31 t347.length co31 : Value).ownBlock ∧ some k_ ≠ (.slice Ao50 t367.length co50 : Value).ownBlock) (Kd.R_keptB (HO_358002.out) hkp (fun k_ hk_ hs_ => (hk_.2) hs_)) (fun k_ hk_ => ⟨hk_.1.1, hk_.1.2⟩)); replace BK330 := Aside0.mk (blk_kept (bU BK330.out) hkp (fun hs_ => (fun e_ => (Kd.R_ne HO_372002.out BK330.out (by decide)) e_) hs_)); replace BK331 := Aside0.mk (blk_kept (bU BK331.out) hkp (fun hs_ => (fun e_ => (Kd.R_ne HO_372002.out BK331.out (by decide)) e_) hs_)); replace BK351 := Aside0.mk (blk_kept (bU BK351.out) hkp (fun hs_ => (fun e_ => (Kd.R_ne HO_372002.out BK351.out (by decide)) e_) hs_)); replace BK357 := Aside0.mk (blk_kept (bU BK357.out) hkp (fun hs_ => (fun e_ => (Kd.R_ne HO_372002.out BK357.out (by decide)) e_) hs_)); replace BK371 := Aside0.mk (blk_kept (bU BK371.out) hkp (fun hs_ => (fun e_ => (Kd.R_ne HO_372002.out BK371.out (by decide)) e_) hs_)); replace HO_372002 := Aside0.mk (Kd.R_reok rfl hy0 (fun k_ e_ => HO_372002.out.1 k_ e_)); replace HB := Aside0.mk hb; (try clear hb); (try clear hkp); (try clear hy0); have hcz136_0 : w135.cell? ⟨gb371, 0, none⟩ = some (.int .i64 t365) := (blk_cell BK371.out 0).trans rfl; have hcz136_1 : w135.cell? ⟨gb371, 1, none⟩ = some (.int .i64 t366) := (blk_cell BK371.out 1).trans rfl; have hcz136_2 : w135.cell? ⟨gb371, 2, none⟩ = some (.slice Ao50 t367.length co50) := (blk_cell BK371.out 2).trans rfl; have hfz136_0 := blk_frozen BK371.out 0; have hfz136_1 := blk_frozen BK371.out 1; have hfz136_2 := blk_frozen BK371.out 2) | ((with_reducible refine gate_callee (f := 15) rfl ?_); refine goesL_ (some 73) rfl rfl Try.func15 (by kernel_rfl) rfl #[.agg #[.int .i64 t365, .int .i64 t366, .slice Ao50 t383.length co50], .int .i64 1] rfl (by (try simp only [List.map_toArray, List.map_cons, List.map_nil]); first | done | (rw [show t383.length = t367.length from (Kd.R_reads' HO_372002.out).1.symm] <;> rfl) | rfl | (simp only [List.length_drop, List.length_take]; rfl)) ?_; (with_reducible refine (laws_heldCloud.calls kj78 t365 t366 _ _ t383 1 t384 _ ?side1 ?side2 A115.out).mono ?_); (case side1 => exact cU (Kd.R_reads' HO_372002.out).2.2); (case side2 => rw [show t383.length = t367.length from (Kd.R_reads' HO_372002.out).1.symm]; exact (Kd.R_reads' HO_372002.out).2.1); rintro e w137 ⟨rfl, hb⟩; refine ⟨_, rfl, ?_⟩; replace HO_352002 := Aside0.mk (Kd.R_below (rU HO_352002.out) hb); replace HO_358002 := Aside0.mk (Kd.R_below (rU HO_358002.out) hb); replace HO_372002 := Aside0.mk (Kd.R_below (rU HO_372002.out) hb); replace BK330 := Aside0.mk (blk_below (bU BK330.out) hb); replace BK331 := Aside0.mk (blk_below (bU BK331.out) hb); replace BK351 := Aside0.mk (blk_below (bU BK351.out) hb); replace BK357 := Aside0.mk (blk_below (bU BK357.out) hb); replace BK371 := Aside0.mk (blk_below (bU BK371.out) hb); replace HB := Aside0.mk (below_step (lU5 GE330.out GE331.out GE351.out GE357.out GE371.out) hb); (try clear hb); (try clear hb2); (try clear hk); (try clear hi)))
           replace HO_352002 := Aside0.mk (Kd.R_drew HO_352002.out)
           replace HO_358002 := Aside0.mk (Kd.R_drew HO_358002.out)
           replace HO_372002 := Aside0.mk (Kd.R_drew HO_372002.out)
           replace BK330 := Aside0.mk (blk_drew BK330.out)
           replace BK331 := Aside0.mk (blk_drew BK331.out)
           replace BK351 := Aside0.mk (blk_drew BK351.out)
           replace BK357 := Aside0.mk (blk_drew BK357.out)
           replace BK371 := Aside0.mk (blk_drew BK371.out)
           replace HB := Aside0.mk (below_drew1 HB.out)
           refine start_ (n := 11) (S := fun w' => w'.cell? ⟨gb330, 0, none⟩ = some (.int .i64 a0_0) ∧ w'.cell? ⟨gb330, 1, none⟩ = some (.int .i64 a0_1) ∧ w'.cell? ⟨gb330, 2, none⟩ = some (.int .i64 a0_2) ∧ w'.cell? ⟨gb330, 3, none⟩ = some (.int .i64 a0_3) ∧ w'.cell? ⟨gb330, 4, none⟩ = some (.int .i64 a0_4) ∧ w'.cell? ⟨gb330, 5, none⟩ = some (.int .i64 a0_5) ∧ w'.cell? ⟨gb330, 6, none⟩ = some (.int .i64 a0_6) ∧ w'.cell? ⟨gb331, 0, none⟩ = some (.int .i64 a1_0) ∧ w'.cell? ⟨gb331, 1, none⟩ = some (.int .i64 a1_1) ∧ w'.cell? ⟨gb331, 2, none⟩ = some (.slice A1_2 l1_2.length c1_2)) (ds := []) #[false, false, false, false, false, false, false, false, false, false, false] (by kernel_rfl) rfl rfl ⟨(blk_cell BK330.out 0).trans rfl, (blk_cell BK330.out 1).trans rfl, (blk_cell BK330.out 2).trans rfl, (blk_cell BK330.out 3).trans rfl, (blk_cell BK330.out 4).trans rfl, (blk_cell BK330.out 5).trans rfl, (blk_cell BK330.out 6).trans rfl, (blk_cell BK331.out 0).trans rfl, (blk_cell BK331.out 1).trans rfl, (blk_cell BK331.out 2).trans rfl⟩ (fun hHeld => ?_); refine with_tabW laws_FnExactStepCloud.tab24 laws_FnExactStepCloud.bits24 (fun HT_ HW_ => ?_)
           generalize w137.drew = w138 at HO_352002 HO_358002 HO_372002 BK330 BK331 BK351 BK357 BK371 HB hHeld ⊢
           refine takeA 0 80 (bz 11 1) rfl rfl (take_ofW HT_.out HW_.out (by kernel_rfl)) hHeld (by rintro w' ⟨s0, s1, s2, s3, s4, s5, s6, s7, s8, s9⟩; go_simp; with_reducible rfl) ?_
           refine takeA 2 82 (bz 11 5) rfl rfl (take_ofW HT_.out HW_.out (by kernel_rfl)) hHeld (by rintro w' ⟨s0, s1, s2, s3, s4, s5, s6, s7, s8, s9⟩; go_simp; with_reducible rfl) ?_
           refine join_ (σ := Value × Value × Nat) 2 #[true, true, true, true, true, true, true, true, true, false, false] (fun s_ => [(81, .agg #[.int .i64 t385, .int .i64 t386, .int .i64 t387, .int .i64 t388, .int .i64 t389, .int .i64 t390, .int .i64 t391]), (83, .agg #[.int .i64 t392, .int .i64 t393, s_.1]), (84, .tuple #[.agg #[.int .i64 t397, .int .i64 t398, s_.2.1], .bool t402]), (14, .pointer (some ⟨s_.2.2, 0, none⟩)), (79, .tuple #[.agg #[.int .i64 t397, .int .i64 t398, s_.2.1], .bool t402]), (85, .agg #[.int .i64 t397, .int .i64 t398, s_.2.1]), (86, .bool t402)]) (fun s_ w' => (w'.cell? ⟨gb330, 0, none⟩ = some (.int .i64 a0_0) ∧ w'.cell? ⟨gb330, 1, none⟩ = some (.int .i64 a0_1) ∧ w'.cell? ⟨gb330, 2, none⟩ = some (.int .i64 a0_2) ∧ w'.cell? ⟨gb330, 3, none⟩ = some (.int .i64 a0_3) ∧ w'.cell? ⟨gb330, 4, none⟩ = some (.int .i64 a0_4) ∧ w'.cell? ⟨gb330, 5, none⟩ = some (.int .i64 a0_5) ∧ w'.cell? ⟨gb330, 6, none⟩ = some (.int .i64 a0_6) ∧ w'.cell? ⟨gb331, 0, none⟩ = some (.int .i64 a1_0) ∧ w'.cell? ⟨gb331, 1, none⟩ = some (.int .i64 a1_1) ∧ w'.cell? ⟨gb331, 2, none⟩ = some (.slice A1_2 l1_2.length c1_2)) ∧ (Kd.R k48 48 w' w.heap.size (fun k_ => some k_ ≠ (s_.2.1 : Value).ownBlock ∧ some k_ ≠ (.slice Ao31 t347.length co31 : Value).ownBlock ∧ some k_ ≠ (.slice Ao41 t380.length co41 : Value).ownBlock ∧ some k_ ≠ (.slice Ao50 t367.length co50 : Value).ownBlock) s_.1 t394) ∧ (Kd.R k48 48 w' w.heap.size (fun k_ => some k_ ≠ (s_.1 : Value).ownBlock ∧ some k_ ≠ (.slice Ao31 t347.length co31 : Value).ownBlock ∧ some k_ ≠ (.slice Ao41 t380.length co41 : Value).ownBlock ∧ some k_ ≠ (.slice Ao50 t367.length co50 : Value).ownBlock) s_.2.1 t399) ∧ (Kd.R k48 48 w' w.heap.size (fun k_ => some k_ ≠ (s_.1 : Value).ownBlock ∧ some k_ ≠ (s_.2.1 : Value).ownBlock ∧ some k_ ≠ (.slice Ao41 t380.length co41 : Value).ownBlock ∧ some k_ ≠ (.slice Ao50 t367.length co50 : Value).ownBlock) (.slice Ao31 t347.length co31) t347) ∧ (Kd.R k48 48 w' w.heap.size (fun k_ => some k_ ≠ (s_.1 : Value).ownBlock ∧ some k_ ≠ (s_.2.1 : Value).ownBlock ∧ some k_ ≠ (.slice Ao31 t347.length co31 : Value).ownBlock ∧ some k_ ≠ (.slice Ao50 t367.length co50 : Value).ownBlock) (.slice Ao41 t380.length co41) t380) ∧ (Kd.R k48 48 w' w.heap.size (fun k_ => some k_ ≠ (s_.1 : Value).ownBlock ∧ some k_ ≠ (s_.2.1 : Value).ownBlock ∧ some k_ ≠ (.slice Ao31 t347.length co31 : Value).ownBlock ∧ some k_ ≠ (.slice Ao41 t380.length co41 : Value).ownBlock) (.slice Ao50 t367.length co50) t383) ∧ (w'.heap[gb330]? = some (.cells #[.int .i64 a0_0, .int .i64 a0_1, .int .i64 a0_2, .int .i64 a0_3, .int .i64 a0_4, .int .i64 a0_5, .int .i64 a0_6] 23 (0, 0))) ∧ (w'.heap[gb331]? = some (.cells #[.int .i64 a1_0, .int .i64 a1_1, .slice A1_2 l1_2.length c1_2] 31 (0, 0))) ∧ (w'.heap[gb351]? = some (.cells #[.int .i64 t345, .int .i64 t346, .slice Ao31 t347.length co31] 35 (0, 0))) ∧ (w'.heap[gb357]? = some (.cells #[.int .i64 t352, .int .i64 t353, .slice Ao41 t380.length co41] 35 (0, 0))) ∧ (w'.heap[gb371]? = some (.cells #[.int .i64 t365, .int .i64 t366, .slice Ao50 t367.length co50] 35 (0, 0))) ∧ (w'.heap[s_.2.2]? = some (.cells #[.int .i64 0, .int .i64 0, .slice none 0 0] 35 (0, 0))) ∧ (w.heap.size ≤ s_.2.2) ∧ (w.heap.size ≤ s_.2.2) ∧ (gb330 ≠ s_.2.2) ∧ (s_.2.2 ≠ gb330) ∧ (gb331 ≠ s_.2.2) ∧ (s_.2.2 ≠ gb331) ∧ (gb351 ≠ s_.2.2) ∧ (s_.2.2 ≠ gb351) ∧ (gb357 ≠ s_.2.2) ∧ (s_.2.2 ≠ gb357) ∧ (gb371 ≠ s_.2.2) ∧ (s_.2.2 ≠ gb371) ∧ (Below w.heap.size w w')) ?_ ?_
           rotate_left
           ·intro hCont
            refine two_ (i := 1) (j := 8) (Ni := some 81) (Nj := some 14) #[true, true, true, false, false, false, false, false, false, false, false] #[true, false, true, false, false, false, false, false, true, false, false] rfl rfl rfl rfl (two_of HT_.out (by kernel_rfl)) (by decide) (by decide) (fun K hK => ?_) (fun K hK => ?_)
            ·skip
             refine goes_ Try.func7 (by kernel_rfl) rfl #[.agg #[.int .i64 a0_0, .int .i64 a0_1, .int .i64 a0_2, .int .i64 a0_3, .int .i64 a0_4, .int .i64 a0_5, .int .i64 a0_6]] (by rfl) rfl rfl aE ?_
             with_reducible refine (laws_toEmitter.calls a0_0 a0_1 a0_2 a0_3 a0_4 a0_5 a0_6 t385 t386 t387 t388 t389 t390 t391 _ A126.out).mono ?_
             rintro e w139 ⟨rfl, hb⟩
             refine ⟨_, rfl, ?_⟩
             replace HO_352002 := Aside0.mk (Kd.R_below (rU HO_352002.out) hb)
             replace HO_358002 := Aside0.mk (Kd.R_below (rU HO_358002.out) hb)
             replace HO_372002 := Aside0.mk (Kd.R_below (rU HO_372002.out) hb)
             replace BK330 := Aside0.mk (blk_below (bU BK330.out) hb)
             replace BK331 := Aside0.mk (blk_below (bU BK331.out) hb)
             replace BK351 := Aside0.mk (blk_below (bU BK351.out) hb)
             replace BK357 := Aside0.mk (blk_below (bU BK357.out) hb)
             replace BK371 := Aside0.mk (blk_below (bU BK371.out) hb)
             replace HB := Aside0.mk (below_step (lU5 GE330.out GE331.out GE351.out GE357.out GE371.out) hb)
             (try clear hb)
             (try clear hb2)
             (try clear hk)
             (try clear hi)
             refine hK.out _ _ ⟨(blk_cell BK330.out 0).trans rfl, (blk_cell BK330.out 1).trans rfl, (blk_cell BK330.out 2).trans rfl, (blk_cell BK330.out 3).trans rfl, (blk_cell BK330.out 4).trans rfl, (blk_cell BK330.out 5).trans rfl, (blk_cell BK330.out 6).trans rfl, (blk_cell BK331.out 0).trans rfl, (blk_cell BK331.out 1).trans rfl, (blk_cell BK331.out 2).trans rfl⟩ (fun hHeld => ?_)
             clear hK K
             refine norm_ (a' := ?_) ?_ ?_
             rotate_left
             ·show Act.put _ (some 81) _ = _
              simp only [Act.put, List.setIfInBounds_toArray, List.set_cons_zero, List.set_cons_succ, i64_w, i32_w]
              rfl
             refine two_ (i := 3) (j := 8) (Ni := some 83) (Nj := some 14) #[true, true, true, true, false, false, false, false, false, false, false] #[true, true, true, false, false, false, false, false, true, false, false] rfl rfl rfl rfl (two_of HT_.out (by kernel_rfl)) (by decide) (by decide) (fun K hK => ?_) (fun K hK => ?_)
             ·skip
              refine goes_ Try.func11 (by kernel_rfl) rfl #[.agg #[.int .i64 a1_0, .int .i64 a1_1, .slice A1_2 l1_2.length c1_2]] (by rfl) rfl rfl aE ?_
              with_reducible refine (laws_toCloud.calls kj78 a1_0 a1_1 _ _ l1_2 t392 t393 t394 _ ?side1 ?side2 A127.out).mono ?_
              (case side1 => exact cU (Kd.C_below HR1_2.out HB.out))
              (case side2 => exact HC1_2.out)
              rintro e w140 ⟨v395, rfl, ho0, hb⟩
              refine ⟨_, rfl, ?_⟩
              have HO396 := Aside0.mk (Kd.R_lower (Kd.R_new' (Kd.R_new' (Kd.R_new' ho0 (Kd.R_lt (rU HO_352002.out))) (Kd.R_lt (rU HO_358002.out))) (Kd.R_lt (rU HO_372002.out))) (below_size (lU5 GE330.out GE331.out GE351.out GE357.out GE371.out)))
              replace HO_352002 := Aside0.mk (Kd.R_elder' (rU HO_352002.out) (Kd.R_base ho0) hb)
              replace HO_358002 := Aside0.mk (Kd.R_elder' (rU HO_358002.out) (Kd.R_base ho0) hb)
              replace HO_372002 := Aside0.mk (Kd.R_elder' (rU HO_372002.out) (Kd.R_base ho0) hb)
              replace BK330 := Aside0.mk (blk_below (bU BK330.out) hb)
              replace BK331 := Aside0.mk (blk_below (bU BK331.out) hb)
              replace BK351 := Aside0.mk (blk_below (bU BK351.out) hb)
              replace BK357 := Aside0.mk (blk_below (bU BK357.out) hb)
              replace BK371 := Aside0.mk (blk_below (bU BK371.out) hb)
              replace HB := Aside0.mk (below_step (lU5 GE330.out GE331.out GE351.out GE357.out GE371.out) hb)
              (try clear hb)
              (try clear hb2)
              (try clear hk)
              (try clear hi)
              (try clear ho0)
              obtain ⟨Ao141, co141, eo141⟩ := Kd.R_slice HO396.out
              (first | subst eo141 | (injection eo141 with f1_ f2_ f3_; have f4_ := f1_.symm; have f5_ := f3_.symm; clear f1_ f2_ f3_; subst f4_; subst f5_))
              refine hK.out _ _ ⟨(blk_cell BK330.out 0).trans rfl, (blk_cell BK330.out 1).trans rfl, (blk_cell BK330.out 2).trans rfl, (blk_cell BK330.out 3).trans rfl, (blk_cell BK330.out 4).trans rfl, (blk_cell BK330.out 5).trans rfl, (blk_cell BK330.out 6).trans rfl, (blk_cell BK331.out 0).trans rfl, (blk_cell BK331.out 1).trans rfl, (blk_cell BK331.out 2).trans rfl⟩ (fun hHeld => ?_)
              clear hK K
              refine norm_ (a' := ?_) ?_ ?_
              rotate_left
              ·show Act.put _ (some 83) _ = _
               simp only [Act.put, List.setIfInBounds_toArray, List.set_cons_zero, List.set_cons_succ, i64_w, i32_w]
               rfl
              refine two_ (i := 4) (j := 8) (Ni := some 84) (Nj := some 14) #[true, true, true, true, true, false, false, false, false, false, false] #[true, true, true, true, false, false, false, false, true, false, false] rfl rfl rfl rfl (two_of HT_.out (by kernel_rfl)) (by decide) (by decide) (fun K hK => ?_) (fun K hK => ?_)
              ·skip
               refine goes_ Try.func12 (by kernel_rfl) rfl #[.agg #[.int .i64 t385, .int .i64 t386, .int .i64 t387, .int .i64 t388, .int .i64 t389, .int .i64 t390, .int .i64 t391], .agg #[.int .i64 t392, .int .i64 t393, .slice Ao141 t394.length co141]] (by rfl) rfl rfl aE ?_
               with_reducible refine (impl_StepCloud.calls kj78 t385 t386 t387 t388 t389 t390 t391 t392 t393 _ _ t394 t397 t398 t399 t402 _ ?side1 ?side2 A128.out).mono ?_
               (case side1 => exact cU (Kd.R_reads' HO396.out).2.2)
               (case side2 => exact (Kd.R_reads' HO396.out).2.1)
               rintro e w142 ⟨v400, rfl, ho0, hb⟩
               refine ⟨_, rfl, ?_⟩
               have HO401 := Aside0.mk (Kd.R_lower (Kd.R_new' (Kd.R_new' (Kd.R_new' (Kd.R_new' ho0 (Kd.R_lt (rU HO_352002.out))) (Kd.R_lt (rU HO_358002.out))) (Kd.R_lt (rU HO_372002.out))) (Kd.R_lt (rU HO396.out))) (below_size (lU5 GE330.out GE331.out GE351.out GE357.out GE371.out)))
               replace HO_352002 := Aside0.mk (Kd.R_elder' (rU HO_352002.out) (Kd.R_base ho0) hb)
               replace HO_358002 := Aside0.mk (Kd.R_elder' (rU HO_358002.out) (Kd.R_base ho0) hb)
               replace HO_372002 := Aside0.mk (Kd.R_elder' (rU HO_372002.out) (Kd.R_base ho0) hb)
               replace HO396 := Aside0.mk (Kd.R_elder' (rU HO396.out) (Kd.R_base ho0) hb)
               replace BK330 := Aside0.mk (blk_below (bU BK330.out) hb)
               replace BK331 := Aside0.mk (blk_below (bU BK331.out) hb)
               replace BK351 := Aside0.mk (blk_below (bU BK351.out) hb)
               replace BK357 := Aside0.mk (blk_below (bU BK357.out) hb)
               replace BK371 := Aside0.mk (blk_below (bU BK371.out) hb)
               replace HB := Aside0.mk (below_step (lU5 GE330.out GE331.out GE351.out GE357.out GE371.out) hb)
               (try clear hb)
               (try clear hb2)
               (try clear hk)
               (try clear hi)
               (try clear ho0)
               refine hK.out _ _ ⟨(blk_cell BK330.out 0).trans rfl, (blk_cell BK330.out 1).trans rfl, (blk_cell BK330.out 2).trans rfl, (blk_cell BK330.out 3).trans rfl, (blk_cell BK330.out 4).trans rfl, (blk_cell BK330.out 5).trans rfl, (blk_cell BK330.out 6).trans rfl, (blk_cell BK331.out 0).trans rfl, (blk_cell BK331.out 1).trans rfl, (blk_cell BK331.out 2).trans rfl⟩ (fun hHeld => ?_)
               clear hK K
               refine norm_ (a' := ?_) ?_ ?_
               rotate_left
               ·show Act.put _ (some 84) _ = _
                simp only [Act.put, List.setIfInBounds_toArray, List.set_cons_zero, List.set_cons_succ, i64_w, i32_w]
                rfl
               refine pureA 5 79 (bz 11 63) rfl rfl (any_of HT_.out (by kernel_rfl)) ?_
               refine pureA 6 85 (bz 11 127) rfl rfl (any_of HT_.out (by kernel_rfl)) ?_
               refine pureA 7 86 (bz 11 255) rfl rfl (any_of HT_.out (by kernel_rfl)) ?_
               refine one_ (i := 8) (N := some 14) (bz 11 511) rfl rfl (one_of HT_.out (by kernel_rfl)) (by decide) (fun K hK => ?_)
               refine box_step ?hg (N := 14) ?hd (cs := #[.int .i64 0, .int .i64 0, .slice none 0 0]) (t := 35) ?hr ?_; (case hd => rfl); (case hg => rfl); (case hr => exact sE)
               intro gb403 hg w143 hbox hb
               replace HO_352002 := Aside0.mk (Kd.R_below (rU HO_352002.out) hb)
               replace HO_358002 := Aside0.mk (Kd.R_below (rU HO_358002.out) hb)
               replace HO_372002 := Aside0.mk (Kd.R_below (rU HO_372002.out) hb)
               replace HO396 := Aside0.mk (Kd.R_below (rU HO396.out) hb)
               replace HO401 := Aside0.mk (Kd.R_below (rU HO401.out) hb)
               have BK403 := Aside0.mk hbox
               have GW403 := gS w hg (lU5 GE330.out GE331.out GE351.out GE357.out GE371.out)
               have GE403 := gS w hg (lU5 GE330.out GE331.out GE351.out GE357.out GE371.out)
               replace HB := Aside0.mk (below_step (lU5 GE330.out GE331.out GE351.out GE357.out GE371.out) hb)
               have NB330_403 := nL hg (bU BK330.out)
               have NB403_330 := nG hg (bU BK330.out)
               replace BK330 := Aside0.mk (blk_below (bU BK330.out) hb)
               have NB331_403 := nL hg (bU BK331.out)
               have NB403_331 := nG hg (bU BK331.out)
               replace BK331 := Aside0.mk (blk_below (bU BK331.out) hb)
               have NB351_403 := nL hg (bU BK351.out)
               have NB403_351 := nG hg (bU BK351.out)
               replace BK351 := Aside0.mk (blk_below (bU BK351.out) hb)
               have NB357_403 := nL hg (bU BK357.out)
               have NB403_357 := nG hg (bU BK357.out)
               replace BK357 := Aside0.mk (blk_below (bU BK357.out) hb)
               have NB371_403 := nL hg (bU BK371.out)
               have NB403_371 := nG hg (bU BK371.out)
               replace BK371 := Aside0.mk (blk_below (bU BK371.out) hb)
               clear hb hbox hg
               refine hK.out _ _ ⟨(blk_cell BK330.out 0).trans rfl, (blk_cell BK330.out 1).trans rfl, (blk_cell BK330.out 2).trans rfl, (blk_cell BK330.out 3).trans rfl, (blk_cell BK330.out 4).trans rfl, (blk_cell BK330.out 5).trans rfl, (blk_cell BK330.out 6).trans rfl, (blk_cell BK331.out 0).trans rfl, (blk_cell BK331.out 1).trans rfl, (blk_cell BK331.out 2).trans rfl⟩ (fun hHeld => ?_)
               clear hK K
               refine norm_ (a' := ?_) ?_ ?_
               rotate_left
               ·show Act.put _ (some 14) _ = _
                simp only [Act.put, List.setIfInBounds_toArray, List.set_cons_zero, List.set_cons_succ, i64_w, i32_w]
                rfl
               exact norm_ (by simp only [putAll, Act.put, List.setIfInBounds_toArray, List.set_cons_zero, List.set_cons_succ]) (hCont (.slice Ao141 t394.length co141, v400, gb403) _ ⟨hHeld, (by (with_reducible repeat (first | apply Kd.R_alloc | apply Kd.R_drewN | apply Kd.R_drew)); exact Kd.R_mono HO396.out (fun _ hk => ⟨hk.2, ⟨hk.1.1.1.2, ⟨hk.1.1.2, hk.1.2⟩⟩⟩)), (by (with_reducible repeat (first | apply Kd.R_alloc | apply Kd.R_drewN | apply Kd.R_drew)); exact Kd.R_mono HO401.out (fun _ hk => ⟨hk.2, ⟨hk.1.1.1.2, ⟨hk.1.1.2, hk.1.2⟩⟩⟩)), (by (with_reducible repeat (first | apply Kd.R_alloc | apply Kd.R_drewN | apply Kd.R_drew)); exact Kd.R_mono HO_352002.out (fun _ hk => ⟨hk.1.2, ⟨hk.2, ⟨hk.1.1.1, hk.1.1.2⟩⟩⟩)), (by (with_reducible repeat (first | apply Kd.R_alloc | apply Kd.R_drewN | apply Kd.R_drew)); exact Kd.R_mono HO_358002.out (fun _ hk => ⟨hk.1.2, ⟨hk.2, ⟨hk.1.1.1, hk.1.1.2⟩⟩⟩)), (by (with_reducible repeat (first | apply Kd.R_alloc | apply Kd.R_drewN | apply Kd.R_drew)); exact Kd.R_mono HO_372002.out (fun _ hk => ⟨hk.1.2, ⟨hk.2, ⟨hk.1.1.1, hk.1.1.2⟩⟩⟩)), (bU BK330.out), (bU BK331.out), (bU BK351.out), (bU BK357.out), (bU BK371.out), (bU BK403.out), GW403.out, GE403.out, NB330_403.out, NB403_330.out, NB331_403.out, NB403_331.out, NB351_403.out, NB403_351.out, NB357_403.out, NB403_357.out, NB371_403.out, NB403_371.out, (lU6 GE330.out GE331.out GE351.out GE357.out GE371.out GE403.out)⟩)
              ·skip
               refine box_step ?hg (N := 14) ?hd (cs := #[.int .i64 0, .int .i64 0, .slice none 0 0]) (t := 35) ?hr ?_; (case hd => rfl); (case hg => rfl); (case hr => exact sE)
               intro gb403 hg w141 hbox hb
               replace HO_352002 := Aside0.mk (Kd.R_below (rU HO_352002.out) hb)
               replace HO_358002 := Aside0.mk (Kd.R_below (rU HO_358002.out) hb)
               replace HO_372002 := Aside0.mk (Kd.R_below (rU HO_372002.out) hb)
               replace HO396 := Aside0.mk (Kd.R_below (rU HO396.out) hb)
               have BK403 := Aside0.mk hbox
               have GW403 := gS w hg (lU5 GE330.out GE331.out GE351.out GE357.out GE371.out)
               have GE403 := gS w hg (lU5 GE330.out GE331.out GE351.out GE357.out GE371.out)
               replace HB := Aside0.mk (below_step (lU5 GE330.out GE331.out GE351.out GE357.out GE371.out) hb)
               have NB330_403 := nL hg (bU BK330.out)
               have NB403_330 := nG hg (bU BK330.out)
               replace BK330 := Aside0.mk (blk_below (bU BK330.out) hb)
               have NB331_403 := nL hg (bU BK331.out)
               have NB403_331 := nG hg (bU BK331.out)
               replace BK331 := Aside0.mk (blk_below (bU BK331.out) hb)
               have NB351_403 := nL hg (bU BK351.out)
               have NB403_351 := nG hg (bU BK351.out)
               replace BK351 := Aside0.mk (blk_below (bU BK351.out) hb)
               have NB357_403 := nL hg (bU BK357.out)
               have NB403_357 := nG hg (bU BK357.out)
               replace BK357 := Aside0.mk (blk_below (bU BK357.out) hb)
               have NB371_403 := nL hg (bU BK371.out)
               have NB403_371 := nG hg (bU BK371.out)
               replace BK371 := Aside0.mk (blk_below (bU BK371.out) hb)
               clear hb hbox hg
               obtain ⟨Ao142, co142, eo142⟩ := Kd.R_slice HO396.out
               (first | subst eo142 | (injection eo142 with f1_ f2_ f3_; have f4_ := f1_.symm; have f5_ := f3_.symm; clear f1_ f2_ f3_; subst f4_; subst f5_))
               refine hK.out _ _ ⟨(blk_cell BK330.out 0).trans rfl, (blk_cell BK330.out 1).trans rfl, (blk_cell BK330.out 2).trans rfl, (blk_cell BK330.out 3).trans rfl, (blk_cell BK330.out 4).trans rfl, (blk_cell BK330.out 5).trans rfl, (blk_cell BK330.out 6).trans rfl, (blk_cell BK331.out 0).trans rfl, (blk_cell BK331.out 1).trans rfl, (blk_cell BK331.out 2).trans rfl⟩ (fun hHeld => ?_)
               clear hK K
               refine norm_ (a' := ?_) ?_ ?_
               rotate_left
               ·show Act.put _ (some 14) _ = _
                simp only [Act.put, List.setIfInBounds_toArray, List.set_cons_zero, List.set_cons_succ, i64_w, i32_w]
                rfl
               refine one_ (i := 4) (N := some 84) (bz 11 287) rfl rfl (one_of HT_.out (by kernel_rfl)) (by decide) (fun K hK => ?_)
               refine goes_ Try.func12 (by kernel_rfl) rfl #[.agg #[.int .i64 t385, .int .i64 t386, .int .i64 t387, .int .i64 t388, .int .i64 t389, .int .i64 t390, .int .i64 t391], .agg #[.int .i64 t392, .int .i64 t393, .slice Ao142 t394.length co142]] (by rfl) rfl rfl aE ?_
               with_reducible refine (impl_StepCloud.calls kj78 t385 t386 t387 t388 t389 t390 t391 t392 t393 _ _ t394 t397 t398 t399 t402 _ ?side1 ?side2 A128.out).mono ?_
               (case side1 => exact cU (Kd.R_reads' HO396.out).2.2)
               (case side2 => exact (Kd.R_reads' HO396.out).2.1)
               rintro e w143 ⟨v400, rfl, ho0, hb⟩
               refine ⟨_, rfl, ?_⟩
               have HO401 := Aside0.mk (Kd.R_lower (Kd.R_new' (Kd.R_new' (Kd.R_new' (Kd.R_new' ho0 (Kd.R_lt (rU HO_352002.out))) (Kd.R_lt (rU HO_358002.out))) (Kd.R_lt (rU HO_372002.out))) (Kd.R_lt (rU HO396.out))) (below_size (lU6 GE330.out GE331.out GE351.out GE357.out GE371.out GE403.out)))
               replace HO_352002 := Aside0.mk (Kd.R_elder' (rU HO_352002.out) (Kd.R_base ho0) hb)
               replace HO_358002 := Aside0.mk (Kd.R_elder' (rU HO_358002.out) (Kd.R_base ho0) hb)
               replace HO_372002 := Aside0.mk (Kd.R_elder' (rU HO_372002.out) (Kd.R_base ho0) hb)
               replace HO396 := Aside0.mk (Kd.R_elder' (rU HO396.out) (Kd.R_base ho0) hb)
               replace BK330 := Aside0.mk (blk_below (bU BK330.out) hb)
               replace BK331 := Aside0.mk (blk_below (bU BK331.out) hb)
               replace BK351 := Aside0.mk (blk_below (bU BK351.out) hb)
               replace BK357 := Aside0.mk (blk_below (bU BK357.out) hb)
               replace BK371 := Aside0.mk (blk_below (bU BK371.out) hb)
               replace BK403 := Aside0.mk (blk_below (bU BK403.out) hb)
               replace HB := Aside0.mk (below_step (lU6 GE330.out GE331.out GE351.out GE357.out GE371.out GE403.out) hb)
               (try clear hb)
               (try clear hb2)
               (try clear hk)
               (try clear hi)
               (try clear ho0)
               refine hK.out _ _ ⟨(blk_cell BK330.out 0).trans rfl, (blk_cell BK330.out 1).trans rfl, (blk_cell BK330.out 2).trans rfl, (blk_cell BK330.out 3).trans rfl, (blk_cell BK330.out 4).trans rfl, (blk_cell BK330.out 5).trans rfl, (blk_cell BK330.out 6).trans rfl, (blk_cell BK331.out 0).trans rfl, (blk_cell BK331.out 1).trans rfl, (blk_cell BK331.out 2).trans rfl⟩ (fun hHeld => ?_)
               clear hK K
               refine norm_ (a' := ?_) ?_ ?_
               rotate_left
               ·show Act.put _ (some 84) _ = _
                simp only [Act.put, List.setIfInBounds_toArray, List.set_cons_zero, List.set_cons_succ, i64_w, i32_w]
                rfl
               refine pureA 5 79 (bz 11 319) rfl rfl (any_of HT_.out (by kernel_rfl)) ?_
               refine pureA 6 85 (bz 11 383) rfl rfl (any_of HT_.out (by kernel_rfl)) ?_
               refine pureA 7 86 (bz 11 511) rfl rfl (any_of HT_.out (by kernel_rfl)) ?_
               exact norm_ (by simp only [putAll, Act.put, List.setIfInBounds_toArray, List.set_cons_zero, List.set_cons_succ]) (hCont (.slice Ao142 t394.length co142, v400, gb403) _ ⟨hHeld, (by (with_reducible repeat (first | apply Kd.R_alloc | apply Kd.R_drewN | apply Kd.R_drew)); exact Kd.R_mono HO396.out (fun _ hk => ⟨hk.2, ⟨hk.1.1.1.2, ⟨hk.1.1.2, hk.1.2⟩⟩⟩)), (by (with_reducible repeat (first | apply Kd.R_alloc | apply Kd.R_drewN | apply Kd.R_drew)); exact Kd.R_mono HO401.out (fun _ hk => ⟨hk.2, ⟨hk.1.1.1.2, ⟨hk.1.1.2, hk.1.2⟩⟩⟩)), (by (with_reducible repeat (first | apply Kd.R_alloc | apply Kd.R_drewN | apply Kd.R_drew)); exact Kd.R_mono HO_352002.out (fun _ hk => ⟨hk.1.2, ⟨hk.2, ⟨hk.1.1.1, hk.1.1.2⟩⟩⟩)), (by (with_reducible repeat (first | apply Kd.R_alloc | apply Kd.R_drewN | apply Kd.R_drew)); exact Kd.R_mono HO_358002.out (fun _ hk => ⟨hk.1.2, ⟨hk.2, ⟨hk.1.1.1, hk.1.1.2⟩⟩⟩)), (by (with_reducible repeat (first | apply Kd.R_alloc | apply Kd.R_drewN | apply Kd.R_drew)); exact Kd.R_mono HO_372002.out (fun _ hk => ⟨hk.1.2, ⟨hk.2, ⟨hk.1.1.1, hk.1.1.2⟩⟩⟩)), (bU BK330.out), (bU BK331.out), (bU BK351.out), (bU BK357.out), (bU BK371.out), (bU BK403.out), GW403.out, GE403.out, NB330_403.out, NB403_330.out, NB331_403.out, NB403_331.out, NB351_403.out, NB403_351.out, NB357_403.out, NB403_357.out, NB371_403.out, NB403_371.out, (lU6 GE330.out GE331.out GE351.out GE357.out GE371.out GE403.out)⟩)
             ·skip
              refine box_step ?hg (N := 14) ?hd (cs := #[.int .i64 0, .int .i64 0, .slice none 0 0]) (t := 35) ?hr ?_; (case hd => rfl); (case hg => rfl); (case hr => exact sE)
              intro gb403 hg w140 hbox hb
              replace HO_352002 := Aside0.mk (Kd.R_below (rU HO_352002.out) hb)
              replace HO_358002 := Aside0.mk (Kd.R_below (rU HO_358002.out) hb)
              replace HO_372002 := Aside0.mk (Kd.R_below (rU HO_372002.out) hb)
              have BK403 := Aside0.mk hbox
              have GW403 := gS w hg (lU5 GE330.out GE331.out GE351.out GE357.out GE371.out)
              have GE403 := gS w hg (lU5 GE330.out GE331.out GE351.out GE357.out GE371.out)
              replace HB := Aside0.mk (below_step (lU5 GE330.out GE331.out GE351.out GE357.out GE371.out) hb)
              have NB330_403 := nL hg (bU BK330.out)
              have NB403_330 := nG hg (bU BK330.out)
              replace BK330 := Aside0.mk (blk_below (bU BK330.out) hb)
              have NB331_403 := nL hg (bU BK331.out)
              have NB403_331 := nG hg (bU BK331.out)
              replace BK331 := Aside0.mk (blk_below (bU BK331.out) hb)
              have NB351_403 := nL hg (bU BK351.out)
              have NB403_351 := nG hg (bU BK351.out)
              replace BK351 := Aside0.mk (blk_below (bU BK351.out) hb)
              have NB357_403 := nL hg (bU BK357.out)
              have NB403_357 := nG hg (bU BK357.out)
              replace BK357 := Aside0.mk (blk_below (bU BK357.out) hb)
              have NB371_403 := nL hg (bU BK371.out)
              have NB403_371 := nG hg (bU BK371.out)
              replace BK371 := Aside0.mk (blk_below (bU BK371.out) hb)
              clear hb hbox hg
              refine hK.out _ _ ⟨(blk_cell BK330.out 0).trans rfl, (blk_cell BK330.out 1).trans rfl, (blk_cell BK330.out 2).trans rfl, (blk_cell BK330.out 3).trans rfl, (blk_cell BK330.out 4).trans rfl, (blk_cell BK330.out 5).trans rfl, (blk_cell BK330.out 6).trans rfl, (blk_cell BK331.out 0).trans rfl, (blk_cell BK331.out 1).trans rfl, (blk_cell BK331.out 2).trans rfl⟩ (fun hHeld => ?_)
              clear hK K
              refine norm_ (a' := ?_) ?_ ?_
              rotate_left
              ·show Act.put _ (some 14) _ = _
               simp only [Act.put, List.setIfInBounds_toArray, List.set_cons_zero, List.set_cons_succ, i64_w, i32_w]
               rfl
              refine one_ (i := 3) (N := some 83) (bz 11 271) rfl rfl (one_of HT_.out (by kernel_rfl)) (by decide) (fun K hK => ?_)
              refine goes_ Try.func11 (by kernel_rfl) rfl #[.agg #[.int .i64 a1_0, .int .i64 a1_1, .slice A1_2 l1_2.length c1_2]] (by rfl) rfl rfl aE ?_
              with_reducible refine (laws_toCloud.calls kj78 a1_0 a1_1 _ _ l1_2 t392 t393 t394 _ ?side1 ?side2 A127.out).mono ?_
              (case side1 => exact cU (Kd.C_below HR1_2.out HB.out))
              (case side2 => exact HC1_2.out)
              rintro e w141 ⟨v395, rfl, ho0, hb⟩
              refine ⟨_, rfl, ?_⟩
              have HO396 := Aside0.mk (Kd.R_lower (Kd.R_new' (Kd.R_new' (Kd.R_new' ho0 (Kd.R_lt (rU HO_352002.out))) (Kd.R_lt (rU HO_358002.out))) (Kd.R_lt (rU HO_372002.out))) (below_size (lU6 GE330.out GE331.out GE351.out GE357.out GE371.out GE403.out)))
              replace HO_352002 := Aside0.mk (Kd.R_elder' (rU HO_352002.out) (Kd.R_base ho0) hb)
              replace HO_358002 := Aside0.mk (Kd.R_elder' (rU HO_358002.out) (Kd.R_base ho0) hb)
              replace HO_372002 := Aside0.mk (Kd.R_elder' (rU HO_372002.out) (Kd.R_base ho0) hb)
              replace BK330 := Aside0.mk (blk_below (bU BK330.out) hb)
              replace BK331 := Aside0.mk (blk_below (bU BK331.out) hb)
              replace BK351 := Aside0.mk (blk_below (bU BK351.out) hb)
              replace BK357 := Aside0.mk (blk_below (bU BK357.out) hb)
              replace BK371 := Aside0.mk (blk_below (bU BK371.out) hb)
              replace BK403 := Aside0.mk (blk_below (bU BK403.out) hb)
              replace HB := Aside0.mk (below_step (lU6 GE330.out GE331.out GE351.out GE357.out GE371.out GE403.out) hb)
              (try clear hb)
              (try clear hb2)
              (try clear hk)
              (try clear hi)
              (try clear ho0)
              obtain ⟨Ao142, co142, eo142⟩ := Kd.R_slice HO396.out
              (first | subst eo142 | (injection eo142 with f1_ f2_ f3_; have f4_ := f1_.symm; have f5_ := f3_.symm; clear f1_ f2_ f3_; subst f4_; subst f5_))
              refine hK.out _ _ ⟨(blk_cell BK330.out 0).trans rfl, (blk_cell BK330.out 1).trans rfl, (blk_cell BK330.out 2).trans rfl, (blk_cell BK330.out 3).trans rfl, (blk_cell BK330.out 4).trans rfl, (blk_cell BK330.out 5).trans rfl, (blk_cell BK330.out 6).trans rfl, (blk_cell BK331.out 0).trans rfl, (blk_cell BK331.out 1).trans rfl, (blk_cell BK331.out 2).trans rfl⟩ (fun hHeld => ?_)
              clear hK K
              refine norm_ (a' := ?_) ?_ ?_
              rotate_left
              ·show Act.put _ (some 83) _ = _
               simp only [Act.put, List.setIfInBounds_toArray, List.set_cons_zero, List.set_cons_succ, i64_w, i32_w]
               rfl
              refine one_ (i := 4) (N := some 84) (bz 11 287) rfl rfl (one_of HT_.out (by kernel_rfl)) (by decide) (fun K hK => ?_)
              refine goes_ Try.func12 (by kernel_rfl) rfl #[.agg #[.int .i64 t385, .int .i64 t386, .int .i64 t387, .int .i64 t388, .int .i64 t389, .int .i64 t390, .int .i64 t391], .agg #[.int .i64 t392, .int .i64 t393, .slice Ao142 t394.length co142]] (by rfl) rfl rfl aE ?_
              with_reducible refine (impl_StepCloud.calls kj78 t385 t386 t387 t388 t389 t390 t391 t392 t393 _ _ t394 t397 t398 t399 t402 _ ?side1 ?side2 A128.out).mono ?_
              (case side1 => exact cU (Kd.R_reads' HO396.out).2.2)
              (case side2 => exact (Kd.R_reads' HO396.out).2.1)
              rintro e w143 ⟨v400, rfl, ho0, hb⟩
              refine ⟨_, rfl, ?_⟩
              have HO401 := Aside0.mk (Kd.R_lower (Kd.R_new' (Kd.R_new' (Kd.R_new' (Kd.R_new' ho0 (Kd.R_lt (rU HO_352002.out))) (Kd.R_lt (rU HO_358002.out))) (Kd.R_lt (rU HO_372002.out))) (Kd.R_lt (rU HO396.out))) (below_size (lU6 GE330.out GE331.out GE351.out GE357.out GE371.out GE403.out)))
              replace HO_352002 := Aside0.mk (Kd.R_elder' (rU HO_352002.out) (Kd.R_base ho0) hb)
              replace HO_358002 := Aside0.mk (Kd.R_elder' (rU HO_358002.out) (Kd.R_base ho0) hb)
              replace HO_372002 := Aside0.mk (Kd.R_elder' (rU HO_372002.out) (Kd.R_base ho0) hb)
              replace HO396 := Aside0.mk (Kd.R_elder' (rU HO396.out) (Kd.R_base ho0) hb)
              replace BK330 := Aside0.mk (blk_below (bU BK330.out) hb)
              replace BK331 := Aside0.mk (blk_below (bU BK331.out) hb)
              replace BK351 := Aside0.mk (blk_below (bU BK351.out) hb)
              replace BK357 := Aside0.mk (blk_below (bU BK357.out) hb)
              replace BK371 := Aside0.mk (blk_below (bU BK371.out) hb)
              replace BK403 := Aside0.mk (blk_below (bU BK403.out) hb)
              replace HB := Aside0.mk (below_step (lU6 GE330.out GE331.out GE351.out GE357.out GE371.out GE403.out) hb)
              (try clear hb)
              (try clear hb2)
              (try clear hk)
              (try clear hi)
              (try clear ho0)
              refine hK.out _ _ ⟨(blk_cell BK330.out 0).trans rfl, (blk_cell BK330.out 1).trans rfl, (blk_cell BK330.out 2).trans rfl, (blk_cell BK330.out 3).trans rfl, (blk_cell BK330.out 4).trans rfl, (blk_cell BK330.out 5).trans rfl, (blk_cell BK330.out 6).trans rfl, (blk_cell BK331.out 0).trans rfl, (blk_cell BK331.out 1).trans rfl, (blk_cell BK331.out 2).trans rfl⟩ (fun hHeld => ?_)
              clear hK K
              refine norm_ (a' := ?_) ?_ ?_
              rotate_left
              ·show Act.put _ (some 84) _ = _
               simp only [Act.put, List.setIfInBounds_toArray, List.set_cons_zero, List.set_cons_succ, i64_w, i32_w]
               rfl
              refine pureA 5 79 (bz 11 319) rfl rfl (any_of HT_.out (by kernel_rfl)) ?_
              refine pureA 6 85 (bz 11 383) rfl rfl (any_of HT_.out (by kernel_rfl)) ?_
              refine pureA 7 86 (bz 11 511) rfl rfl (any_of HT_.out (by kernel_rfl)) ?_
              exact norm_ (by simp only [putAll, Act.put, List.setIfInBounds_toArray, List.set_cons_zero, List.set_cons_succ]) (hCont (.slice Ao142 t394.length co142, v400, gb403) _ ⟨hHeld, (by (with_reducible repeat (first | apply Kd.R_alloc | apply Kd.R_drewN | apply Kd.R_drew)); exact Kd.R_mono HO396.out (fun _ hk => ⟨hk.2, ⟨hk.1.1.1.2, ⟨hk.1.1.2, hk.1.2⟩⟩⟩)), (by (with_reducible repeat (first | apply Kd.R_alloc | apply Kd.R_drewN | apply Kd.R_drew)); exact Kd.R_mono HO401.out (fun _ hk => ⟨hk.2, ⟨hk.1.1.1.2, ⟨hk.1.1.2, hk.1.2⟩⟩⟩)), (by (with_reducible repeat (first | apply Kd.R_alloc | apply Kd.R_drewN | apply Kd.R_drew)); exact Kd.R_mono HO_352002.out (fun _ hk => ⟨hk.1.2, ⟨hk.2, ⟨hk.1.1.1, hk.1.1.2⟩⟩⟩)), (by (with_reducible repeat (first | apply Kd.R_alloc | apply Kd.R_drewN | apply Kd.R_drew)); exact Kd.R_mono HO_358002.out (fun _ hk => ⟨hk.1.2, ⟨hk.2, ⟨hk.1.1.1, hk.1.1.2⟩⟩⟩)), (by (with_reducible repeat (first | apply Kd.R_alloc | apply Kd.R_drewN | apply Kd.R_drew)); exact Kd.R_mono HO_372002.out (fun _ hk => ⟨hk.1.2, ⟨hk.2, ⟨hk.1.1.1, hk.1.1.2⟩⟩⟩)), (bU BK330.out), (bU BK331.out), (bU BK351.out), (bU BK357.out), (bU BK371.out), (bU BK403.out), GW403.out, GE403.out, NB330_403.out, NB403_330.out, NB331_403.out, NB403_331.out, NB351_403.out, NB403_351.out, NB357_403.out, NB403_357.out, NB371_403.out, NB403_371.out, (lU6 GE330.out GE331.out GE351.out GE357.out GE371.out GE403.out)⟩)
            ·skip
             refine box_step ?hg (N := 14) ?hd (cs := #[.int .i64 0, .int .i64 0, .slice none 0 0]) (t := 35) ?hr ?_; (case hd => rfl); (case hg => rfl); (case hr => exact sE)
             intro gb403 hg w139 hbox hb
             replace HO_352002 := Aside0.mk (Kd.R_below (rU HO_352002.out) hb)
             replace HO_358002 := Aside0.mk (Kd.R_below (rU HO_358002.out) hb)
             replace HO_372002 := Aside0.mk (Kd.R_below (rU HO_372002.out) hb)
             have BK403 := Aside0.mk hbox
             have GW403 := gS w hg (lU5 GE330.out GE331.out GE351.out GE357.out GE371.out)
             have GE403 := gS w hg (lU5 GE330.out GE331.out GE351.out GE357.out GE371.out)
             replace HB := Aside0.mk (below_step (lU5 GE330.out GE331.out GE351.out GE357.out GE371.out) hb)
             have NB330_403 := nL hg (bU BK330.out)
             have NB403_330 := nG hg (bU BK330.out)
             replace BK330 := Aside0.mk (blk_below (bU BK330.out) hb)
             have NB331_403 := nL hg (bU BK331.out)
             have NB403_331 := nG hg (bU BK331.out)
             replace BK331 := Aside0.mk (blk_below (bU BK331.out) hb)
             have NB351_403 := nL hg (bU BK351.out)
             have NB403_351 := nG hg (bU BK351.out)
             replace BK351 := Aside0.mk (blk_below (bU BK351.out) hb)
             have NB357_403 := nL hg (bU BK357.out)
             have NB403_357 := nG hg (bU BK357.out)
             replace BK357 := Aside0.mk (blk_below (bU BK357.out) hb)
             have NB371_403 := nL hg (bU BK371.out)
             have NB403_371 := nG hg (bU BK371.out)
             replace BK371 := Aside0.mk (blk_below (bU BK371.out) hb)
             clear hb hbox hg
             refine hK.out _ _ ⟨(blk_cell BK330.out 0).trans rfl, (blk_cell BK330.out 1).trans rfl, (blk_cell BK330.out 2).trans rfl, (blk_cell BK330.out 3).trans rfl, (blk_cell BK330.out 4).trans rfl, (blk_cell BK330.out 5).trans rfl, (blk_cell BK330.out 6).trans rfl, (blk_cell BK331.out 0).trans rfl, (blk_cell BK331.out 1).trans rfl, (blk_cell BK331.out 2).trans rfl⟩ (fun hHeld => ?_)
             clear hK K
             refine norm_ (a' := ?_) ?_ ?_
             rotate_left
             ·show Act.put _ (some 14) _ = _
              simp only [Act.put, List.setIfInBounds_toArray, List.set_cons_zero, List.set_cons_succ, i64_w, i32_w]
              rfl
             refine one_ (i := 1) (N := some 81) (bz 11 263) rfl rfl (one_of HT_.out (by kernel_rfl)) (by decide) (fun K hK => ?_)
             refine goes_ Try.func7 (by kernel_rfl) rfl #[.agg #[.int .i64 a0_0, .int .i64 a0_1, .int .i64 a0_2, .int .i64 a0_3, .int .i64 a0_4, .int .i64 a0_5, .int .i64 a0_6]] (by rfl) rfl rfl aE ?_
             with_reducible refine (laws_toEmitter.calls a0_0 a0_1 a0_2 a0_3 a0_4 a0_5 a0_6 t385 t386 t387 t388 t389 t390 t391 _ A126.out).mono ?_
             rintro e w140 ⟨rfl, hb⟩
             refine ⟨_, rfl, ?_⟩
             replace HO_352002 := Aside0.mk (Kd.R_below (rU HO_352002.out) hb)
             replace HO_358002 := Aside0.mk (Kd.R_below (rU HO_358002.out) hb)
             replace HO_372002 := Aside0.mk (Kd.R_below (rU HO_372002.out) hb)
             replace BK330 := Aside0.mk (blk_below (bU BK330.out) hb)
             replace BK331 := Aside0.mk (blk_below (bU BK331.out) hb)
             replace BK351 := Aside0.mk (blk_below (bU BK351.out) hb)
             replace BK357 := Aside0.mk (blk_below (bU BK357.out) hb)
             replace BK371 := Aside0.mk (blk_below (bU BK371.out) hb)
             replace BK403 := Aside0.mk (blk_below (bU BK403.out) hb)
             replace HB := Aside0.mk (below_step (lU6 GE330.out GE331.out GE351.out GE357.out GE371.out GE403.out) hb)
             (try clear hb)
             (try clear hb2)
             (try clear hk)
             (try clear hi)
             refine hK.out _ _ ⟨(blk_cell BK330.out 0).trans rfl, (blk_cell BK330.out 1).trans rfl, (blk_cell BK330.out 2).trans rfl, (blk_cell BK330.out 3).trans rfl, (blk_cell BK330.out 4).trans rfl, (blk_cell BK330.out 5).trans rfl, (blk_cell BK330.out 6).trans rfl, (blk_cell BK331.out 0).trans rfl, (blk_cell BK331.out 1).trans rfl, (blk_cell BK331.out 2).trans rfl⟩ (fun hHeld => ?_)
             clear hK K
             refine norm_ (a' := ?_) ?_ ?_
             rotate_left
             ·show Act.put _ (some 81) _ = _
              simp only [Act.put, List.setIfInBounds_toArray, List.set_cons_zero, List.set_cons_succ, i64_w, i32_w]
              rfl
             refine one_ (i := 3) (N := some 83) (bz 11 271) rfl rfl (one_of HT_.out (by kernel_rfl)) (by decide) (fun K hK => ?_)
             refine goes_ Try.func11 (by kernel_rfl) rfl #[.agg #[.int .i64 a1_0, .int .i64 a1_1, .slice A1_2 l1_2.length c1_2]] (by rfl) rfl rfl aE ?_
             with_reducible refine (laws_toCloud.calls kj78 a1_0 a1_1 _ _ l1_2 t392 t393 t394 _ ?side1 ?side2 A127.out).mono ?_
             (case side1 => exact cU (Kd.C_below HR1_2.out HB.out))
             (case side2 => exact HC1_2.out)
             rintro e w141 ⟨v395, rfl, ho0, hb⟩
             refine ⟨_, rfl, ?_⟩
             have HO396 := Aside0.mk (Kd.R_lower (Kd.R_new' (Kd.R_new' (Kd.R_new' ho0 (Kd.R_lt (rU HO_352002.out))) (Kd.R_lt (rU HO_358002.out))) (Kd.R_lt (rU HO_372002.out))) (below_size (lU6 GE330.out GE331.out GE351.out GE357.out GE371.out GE403.out)))
             replace HO_352002 := Aside0.mk (Kd.R_elder' (rU HO_352002.out) (Kd.R_base ho0) hb)
             replace HO_358002 := Aside0.mk (Kd.R_elder' (rU HO_358002.out) (Kd.R_base ho0) hb)
             replace HO_372002 := Aside0.mk (Kd.R_elder' (rU HO_372002.out) (Kd.R_base ho0) hb)
             replace BK330 := Aside0.mk (blk_below (bU BK330.out) hb)
             replace BK331 := Aside0.mk (blk_below (bU BK331.out) hb)
             replace BK351 := Aside0.mk (blk_below (bU BK351.out) hb)
             replace BK357 := Aside0.mk (blk_below (bU BK357.out) hb)
             replace BK371 := Aside0.mk (blk_below (bU BK371.out) hb)
             replace BK403 := Aside0.mk (blk_below (bU BK403.out) hb)
             replace HB := Aside0.mk (below_step (lU6 GE330.out GE331.out GE351.out GE357.out GE371.out GE403.out) hb)
             (try clear hb)
             (try clear hb2)
             (try clear hk)
             (try clear hi)
             (try clear ho0)
             obtain ⟨Ao142, co142, eo142⟩ := Kd.R_slice HO396.out
             (first | subst eo142 | (injection eo142 with f1_ f2_ f3_; have f4_ := f1_.symm; have f5_ := f3_.symm; clear f1_ f2_ f3_; subst f4_; subst f5_))
             refine hK.out _ _ ⟨(blk_cell BK330.out 0).trans rfl, (blk_cell BK330.out 1).trans rfl, (blk_cell BK330.out 2).trans rfl, (blk_cell BK330.out 3).trans rfl, (blk_cell BK330.out 4).trans rfl, (blk_cell BK330.out 5).trans rfl, (blk_cell BK330.out 6).trans rfl, (blk_cell BK331.out 0).trans rfl, (blk_cell BK331.out 1).trans rfl, (blk_cell BK331.out 2).trans rfl⟩ (fun hHeld => ?_)
             clear hK K
             refine norm_ (a' := ?_) ?_ ?_
             rotate_left
             ·show Act.put _ (some 83) _ = _
              simp only [Act.put, List.setIfInBounds_toArray, List.set_cons_zero, List.set_cons_succ, i64_w, i32_w]
              rfl
             refine one_ (i := 4) (N := some 84) (bz 11 287) rfl rfl (one_of HT_.out (by kernel_rfl)) (by decide) (fun K hK => ?_)
             refine goes_ Try.func12 (by kernel_rfl) rfl #[.agg #[.int .i64 t385, .int .i64 t386, .int .i64 t387, .int .i64 t388, .int .i64 t389, .int .i64 t390, .int .i64 t391], .agg #[.int .i64 t392, .int .i64 t393, .slice Ao142 t394.length co142]] (by rfl) rfl rfl aE ?_
             with_reducible refine (impl_StepCloud.calls kj78 t385 t386 t387 t388 t389 t390 t391 t392 t393 _ _ t394 t397 t398 t399 t402 _ ?side1 ?side2 A128.out).mono ?_
             (case side1 => exact cU (Kd.R_reads' HO396.out).2.2)
             (case side2 => exact (Kd.R_reads' HO396.out).2.1)
             rintro e w143 ⟨v400, rfl, ho0, hb⟩
             refine ⟨_, rfl, ?_⟩
             have HO401 := Aside0.mk (Kd.R_lower (Kd.R_new' (Kd.R_new' (Kd.R_new' (Kd.R_new' ho0 (Kd.R_lt (rU HO_352002.out))) (Kd.R_lt (rU HO_358002.out))) (Kd.R_lt (rU HO_372002.out))) (Kd.R_lt (rU HO396.out))) (below_size (lU6 GE330.out GE331.out GE351.out GE357.out GE371.out GE403.out)))
             replace HO_352002 := Aside0.mk (Kd.R_elder' (rU HO_352002.out) (Kd.R_base ho0) hb)
             replace HO_358002 := Aside0.mk (Kd.R_elder' (rU HO_358002.out) (Kd.R_base ho0) hb)
             replace HO_372002 := Aside0.mk (Kd.R_elder' (rU HO_372002.out) (Kd.R_base ho0) hb)
             replace HO396 := Aside0.mk (Kd.R_elder' (rU HO396.out) (Kd.R_base ho0) hb)
             replace BK330 := Aside0.mk (blk_below (bU BK330.out) hb)
             replace BK331 := Aside0.mk (blk_below (bU BK331.out) hb)
             replace BK351 := Aside0.mk (blk_below (bU BK351.out) hb)
             replace BK357 := Aside0.mk (blk_below (bU BK357.out) hb)
             replace BK371 := Aside0.mk (blk_below (bU BK371.out) hb)
             replace BK403 := Aside0.mk (blk_below (bU BK403.out) hb)
             replace HB := Aside0.mk (below_step (lU6 GE330.out GE331.out GE351.out GE357.out GE371.out GE403.out) hb)
             (try clear hb)
             (try clear hb2)
             (try clear hk)
             (try clear hi)
             (try clear ho0)
             refine hK.out _ _ ⟨(blk_cell BK330.out 0).trans rfl, (blk_cell BK330.out 1).trans rfl, (blk_cell BK330.out 2).trans rfl, (blk_cell BK330.out 3).trans rfl, (blk_cell BK330.out 4).trans rfl, (blk_cell BK330.out 5).trans rfl, (blk_cell BK330.out 6).trans rfl, (blk_cell BK331.out 0).trans rfl, (blk_cell BK331.out 1).trans rfl, (blk_cell BK331.out 2).trans rfl⟩ (fun hHeld => ?_)
             clear hK K
             refine norm_ (a' := ?_) ?_ ?_
             rotate_left
             ·show Act.put _ (some 84) _ = _
              simp only [Act.put, List.setIfInBounds_toArray, List.set_cons_zero, List.set_cons_succ, i64_w, i32_w]
              rfl
             refine pureA 5 79 (bz 11 319) rfl rfl (any_of HT_.out (by kernel_rfl)) ?_
             refine pureA 6 85 (bz 11 383) rfl rfl (any_of HT_.out (by kernel_rfl)) ?_
             refine pureA 7 86 (bz 11 511) rfl rfl (any_of HT_.out (by kernel_rfl)) ?_
             exact norm_ (by simp only [putAll, Act.put, List.setIfInBounds_toArray, List.set_cons_zero, List.set_cons_succ]) (hCont (.slice Ao142 t394.length co142, v400, gb403) _ ⟨hHeld, (by (with_reducible repeat (first | apply Kd.R_alloc | apply Kd.R_drewN | apply Kd.R_drew)); exact Kd.R_mono HO396.out (fun _ hk => ⟨hk.2, ⟨hk.1.1.1.2, ⟨hk.1.1.2, hk.1.2⟩⟩⟩)), (by (with_reducible repeat (first | apply Kd.R_alloc | apply Kd.R_drewN | apply Kd.R_drew)); exact Kd.R_mono HO401.out (fun _ hk => ⟨hk.2, ⟨hk.1.1.1.2, ⟨hk.1.1.2, hk.1.2⟩⟩⟩)), (by (with_reducible repeat (first | apply Kd.R_alloc | apply Kd.R_drewN | apply Kd.R_drew)); exact Kd.R_mono HO_352002.out (fun _ hk => ⟨hk.1.2, ⟨hk.2, ⟨hk.1.1.1, hk.1.1.2⟩⟩⟩)), (by (with_reducible repeat (first | apply Kd.R_alloc | apply Kd.R_drewN | apply Kd.R_drew)); exact Kd.R_mono HO_358002.out (fun _ hk => ⟨hk.1.2, ⟨hk.2, ⟨hk.1.1.1, hk.1.1.2⟩⟩⟩)), (by (with_reducible repeat (first | apply Kd.R_alloc | apply Kd.R_drewN | apply Kd.R_drew)); exact Kd.R_mono HO_372002.out (fun _ hk => ⟨hk.1.2, ⟨hk.2, ⟨hk.1.1.1, hk.1.1.2⟩⟩⟩)), (bU BK330.out), (bU BK331.out), (bU BK351.out), (bU BK357.out), (bU BK371.out), (bU BK403.out), GW403.out, GE403.out, NB330_403.out, NB403_330.out, NB331_403.out, NB403_331.out, NB351_403.out, NB403_351.out, NB357_403.out, NB403_357.out, NB371_403.out, NB403_371.out, (lU6 GE330.out GE331.out GE351.out GE357.out GE371.out GE403.out)⟩)
           rintro ⟨v395, v400, gb403⟩ w144 ⟨hS_, h0_, h1_, h2_, h3_, h4_, h5_, h6_, h7_, h8_, h9_, h10_, h11_, h12_, h13_, h14_, h15_, h16_, h17_, h18_, h19_, h20_, h21_, h22_, h23_⟩
           have HO396 : Aside0 (Kd.R k48 48 w144 w.heap.size (fun k_ => some k_ ≠ (v400 : Value).ownBlock ∧ some k_ ≠ (.slice Ao31 t347.length co31 : Value).ownBlock ∧ some k_ ≠ (.slice Ao41 t380.length co41 : Value).ownBlock ∧ some k_ ≠ (.slice Ao50 t367.length co50 : Value).ownBlock) v395 t394) := ⟨h0_⟩
           have HO401 : Aside0 (Kd.R k48 48 w144 w.heap.size (fun k_ => some k_ ≠ (v395 : Value).ownBlock ∧ some k_ ≠ (.slice Ao31 t347.length co31 : Value).ownBlock ∧ some k_ ≠ (.slice Ao41 t380.length co41 : Value).ownBlock ∧ some k_ ≠ (.slice Ao50 t367.length co50 : Value).ownBlock) v400 t399) := ⟨h1_⟩
           replace HO_352002 : Aside0 (Kd.R k48 48 w144 w.heap.size (fun k_ => some k_ ≠ (v395 : Value).ownBlock ∧ some k_ ≠ (v400 : Value).ownBlock ∧ some k_ ≠ (.slice Ao41 t380.length co41 : Value).ownBlock ∧ some k_ ≠ (.slice Ao50 t367.length co50 : Value).ownBlock) (.slice Ao31 t347.length co31) t347) := ⟨h2_⟩
           replace HO_358002 : Aside0 (Kd.R k48 48 w144 w.heap.size (fun k_ => some k_ ≠ (v395 : Value).ownBlock ∧ some k_ ≠ (v400 : Value).ownBlock ∧ some k_ ≠ (.slice Ao31 t347.length co31 : Value).ownBlock ∧ some k_ ≠ (.slice Ao50 t367.length co50 : Value).ownBlock) (.slice Ao41 t380.length co41) t380) := ⟨h3_⟩
           replace HO_372002 : Aside0 (Kd.R k48 48 w144 w.heap.size (fun k_ => some k_ ≠ (v395 : Value).ownBlock ∧ some k_ ≠ (v400 : Value).ownBlock ∧ some k_ ≠ (.slice Ao31 t347.length co31 : Value).ownBlock ∧ some k_ ≠ (.slice Ao41 t380.length co41 : Value).ownBlock) (.slice Ao50 t367.length co50) t383) := ⟨h4_⟩
           replace BK330 : Aside0 (w144.heap[gb330]? = some (.cells #[.int .i64 a0_0, .int .i64 a0_1, .int .i64 a0_2, .int .i64 a0_3, .int .i64 a0_4, .int .i64 a0_5, .int .i64 a0_6] 23 (0, 0))) := ⟨h5_⟩
           replace BK331 : Aside0 (w144.heap[gb331]? = some (.cells #[.int .i64 a1_0, .int .i64 a1_1, .slice A1_2 l1_2.length c1_2] 31 (0, 0))) := ⟨h6_⟩
           replace BK351 : Aside0 (w144.heap[gb351]? = some (.cells #[.int .i64 t345, .int .i64 t346, .slice Ao31 t347.length co31] 35 (0, 0))) := ⟨h7_⟩
           replace BK357 : Aside0 (w144.heap[gb357]? = some (.cells #[.int .i64 t352, .int .i64 t353, .slice Ao41 t380.length co41] 35 (0, 0))) := ⟨h8_⟩
           replace BK371 : Aside0 (w144.heap[gb371]? = some (.cells #[.int .i64 t365, .int .i64 t366, .slice Ao50 t367.length co50] 35 (0, 0))) := ⟨h9_⟩
           have BK403 : Aside0 (w144.heap[gb403]? = some (.cells #[.int .i64 0, .int .i64 0, .slice none 0 0] 35 (0, 0))) := ⟨h10_⟩
           have GW403 : Aside0 (w.heap.size ≤ gb403) := ⟨h11_⟩
           have GE403 : Aside0 (w.heap.size ≤ gb403) := ⟨h12_⟩
           have NB330_403 : Aside0 (gb330 ≠ gb403) := ⟨h13_⟩
           have NB403_330 : Aside0 (gb403 ≠ gb330) := ⟨h14_⟩
           have NB331_403 : Aside0 (gb331 ≠ gb403) := ⟨h15_⟩
           have NB403_331 : Aside0 (gb403 ≠ gb331) := ⟨h16_⟩
           have NB351_403 : Aside0 (gb351 ≠ gb403) := ⟨h17_⟩
           have NB403_351 : Aside0 (gb403 ≠ gb351) := ⟨h18_⟩
           have NB357_403 : Aside0 (gb357 ≠ gb403) := ⟨h19_⟩
           have NB403_357 : Aside0 (gb403 ≠ gb357) := ⟨h20_⟩
           have NB371_403 : Aside0 (gb371 ≠ gb403) := ⟨h21_⟩
           have NB403_371 : Aside0 (gb403 ≠ gb371) := ⟨h22_⟩
           replace HB : Aside0 (Below w.heap.size w w144) := ⟨h23_⟩
           clear h0_ h1_ h2_ h3_ h4_ h5_ h6_ h7_ h8_ h9_ h10_ h11_ h12_ h13_ h14_ h15_ h16_ h17_ h18_ h19_ h20_ h21_ h22_ h23_
           have hHeld : w144.cell? ⟨gb330, 0, none⟩ = some (.int .i64 a0_0) ∧ w144.cell? ⟨gb330, 1, none⟩ = some (.int .i64 a0_1) ∧ w144.cell? ⟨gb330, 2, none⟩ = some (.int .i64 a0_2) ∧ w144.cell? ⟨gb330, 3, none⟩ = some (.int .i64 a0_3) ∧ w144.cell? ⟨gb330, 4, none⟩ = some (.int .i64 a0_4) ∧ w144.cell? ⟨gb330, 5, none⟩ = some (.int .i64 a0_5) ∧ w144.cell? ⟨gb330, 6, none⟩ = some (.int .i64 a0_6) ∧ w144.cell? ⟨gb331, 0, none⟩ = some (.int .i64 a1_0) ∧ w144.cell? ⟨gb331, 1, none⟩ = some (.int .i64 a1_1) ∧ w144.cell? ⟨gb331, 2, none⟩ = some (.slice A1_2 l1_2.length c1_2) := hS_
           obtain ⟨Ao147, co147, eo147⟩ := Kd.R_slice HO401.out
           (first | subst eo147 | (injection eo147 with f1_ f2_ f3_; have f4_ := f1_.symm; have f5_ := f3_.symm; clear f1_ f2_ f3_; subst f4_; subst f5_))
           refine norm_ (a' := ?_) ?_ ?_
           rotate_left
           ·simp only [putAll, Act.put, List.setIfInBounds_toArray, List.set_cons_zero, List.set_cons_succ]
            rfl
           refine one_ (i := 9) (N := none) (bz 11 1023) rfl rfl (one_of HT_.out (by kernel_rfl)) (by decide) (fun K hK => ?_)
           have hs145 : w144.cell? ⟨gb403, 0, none⟩ = some (.int .i64 0) := (blk_cell BK403.out 0).trans rfl
           have hfs145 := blk_frozen BK403.out 0
           have hns145_0 := NB330_403.out
           have hns145_1 := NB331_403.out
           have hns145_2 := NB351_403.out
           have hns145_3 := NB357_403.out
           have hns145_4 := NB371_403.out
           have hms145_0 := NB403_330.out
           have hms145_1 := NB403_331.out
           have hms145_2 := NB403_351.out
           have hms145_3 := NB403_357.out
           have hms145_4 := NB403_371.out
           have hs146 : w144.cell? ⟨gb403, 1, none⟩ = some (.int .i64 0) := (blk_cell BK403.out 1).trans rfl
           have hfs146 := blk_frozen BK403.out 1
           have hns146_0 := NB330_403.out
           have hns146_1 := NB331_403.out
           have hns146_2 := NB351_403.out
           have hns146_3 := NB357_403.out
           have hns146_4 := NB371_403.out
           have hms146_0 := NB403_330.out
           have hms146_1 := NB403_331.out
           have hms146_2 := NB403_351.out
           have hms146_3 := NB403_357.out
           have hms146_4 := NB403_371.out
           have hs148 : w144.cell? ⟨gb403, 2, none⟩ = some (.slice none 0 0) := (blk_cell BK403.out 2).trans rfl
           have hfs148 := blk_frozen BK403.out 2
           have hns148_0 := NB330_403.out
           have hns148_1 := NB331_403.out
           have hns148_2 := NB351_403.out
           have hns148_3 := NB357_403.out
           have hns148_4 := NB371_403.out
           have hms148_0 := NB403_330.out
           have hms148_1 := NB403_331.out
           have hms148_2 := NB403_351.out
           have hms148_3 := NB403_357.out
           have hms148_4 := NB403_371.out
           refine skip_ (w1 := ?_) (by rfl) rfl ?_ ?_
           rotate_left
           ·go_simp
            rfl
           refine hK.out _ _ ⟨((cell_far (p := ⟨gb403, _, none⟩) NB330_403.out _).trans (((cell_far (p := ⟨gb403, _, none⟩) NB330_403.out _).trans (((cell_far (p := ⟨gb403, _, none⟩) NB330_403.out _).trans (hHeld.1)))))), ((cell_far (p := ⟨gb403, _, none⟩) NB330_403.out _).trans (((cell_far (p := ⟨gb403, _, none⟩) NB330_403.out _).trans (((cell_far (p := ⟨gb403, _, none⟩) NB330_403.out _).trans (hHeld.2.1)))))), ((cell_far (p := ⟨gb403, _, none⟩) NB330_403.out _).trans (((cell_far (p := ⟨gb403, _, none⟩) NB330_403.out _).trans (((cell_far (p := ⟨gb403, _, none⟩) NB330_403.out _).trans (hHeld.2.2.1)))))), ((cell_far (p := ⟨gb403, _, none⟩) NB330_403.out _).trans (((cell_far (p := ⟨gb403, _, none⟩) NB330_403.out _).trans (((cell_far (p := ⟨gb403, _, none⟩) NB330_403.out _).trans (hHeld.2.2.2.1)))))), ((cell_far (p := ⟨gb403, _, none⟩) NB330_403.out _).trans (((cell_far (p := ⟨gb403, _, none⟩) NB330_403.out _).trans (((cell_far (p := ⟨gb403, _, none⟩) NB330_403.out _).trans (hHeld.2.2.2.2.1)))))), ((cell_far (p := ⟨gb403, _, none⟩) NB330_403.out _).trans (((cell_far (p := ⟨gb403, _, none⟩) NB330_403.out _).trans (((cell_far (p := ⟨gb403, _, none⟩) NB330_403.out _).trans (hHeld.2.2.2.2.2.1)))))), ((cell_far (p := ⟨gb403, _, none⟩) NB330_403.out _).trans (((cell_far (p := ⟨gb403, _, none⟩) NB330_403.out _).trans (((cell_far (p := ⟨gb403, _, none⟩) NB330_403.out _).trans (hHeld.2.2.2.2.2.2.1)))))), ((cell_far (p := ⟨gb403, _, none⟩) NB331_403.out _).trans (((cell_far (p := ⟨gb403, _, none⟩) NB331_403.out _).trans (((cell_far (p := ⟨gb403, _, none⟩) NB331_403.out _).trans (hHeld.2.2.2.2.2.2.2.1)))))), ((cell_far (p := ⟨gb403, _, none⟩) NB331_403.out _).trans (((cell_far (p := ⟨gb403, _, none⟩) NB331_403.out _).trans (((cell_far (p := ⟨gb403, _, none⟩) NB331_403.out _).trans (hHeld.2.2.2.2.2.2.2.2.1)))))), ((cell_far (p := ⟨gb403, _, none⟩) NB331_403.out _).trans (((cell_far (p := ⟨gb403, _, none⟩) NB331_403.out _).trans (((cell_far (p := ⟨gb403, _, none⟩) NB331_403.out _).trans (hHeld.2.2.2.2.2.2.2.2.2))))))⟩ (fun hHeld => ?_)
           clear hK K
           refine pureA 10 15 (bz 11 2047) rfl rfl (any_of HT_.out (by kernel_rfl)) ?_
           refine done_ (done_of HT_.out (by kernel_rfl)) ?_
           go_upto_region 25 with (fail)
           go_cut [95] (fun v95 wc => ∃ (kq : Nat) (x95_128 : Bool), v95 = .bool x95_128 ∧ Aside0 (laws_FnExactStepCloud.j2 kq t382 x95_128 t365 t366 t383 = some r) ∧ Aside0 (kq ≤ kj78) ∧ Aside0 (Kd.R k48 48 wc w.heap.size (fun k_ => some k_ ≠ ((.slice Ao41 t380.length co41) : Value).ownBlock ∧ some k_ ≠ ((.slice Ao50 t367.length co50) : Value).ownBlock ∧ some k_ ≠ ((.slice Ao147 t399.length co147) : Value).ownBlock) (.slice Ao31 t347.length co31) t347) ∧ Aside0 (Kd.R k48 48 wc w.heap.size (fun k_ => some k_ ≠ ((.slice Ao31 t347.length co31) : Value).ownBlock ∧ some k_ ≠ ((.slice Ao50 t367.length co50) : Value).ownBlock ∧ some k_ ≠ ((.slice Ao147 t399.length co147) : Value).ownBlock) (.slice Ao41 t380.length co41) t380) ∧ Aside0 (Kd.R k48 48 wc w.heap.size (fun k_ => some k_ ≠ ((.slice Ao31 t347.length co31) : Value).ownBlock ∧ some k_ ≠ ((.slice Ao41 t380.length co41) : Value).ownBlock ∧ some k_ ≠ ((.slice Ao147 t399.length co147) : Value).ownBlock) (.slice Ao50 t367.length co50) t383) ∧ Aside0 (Kd.R k48 48 wc w.heap.size (fun k_ => some k_ ≠ ((.slice Ao31 t347.length co31) : Value).ownBlock ∧ some k_ ≠ ((.slice Ao41 t380.length co41) : Value).ownBlock ∧ some k_ ≠ ((.slice Ao50 t367.length co50) : Value).ownBlock) (.slice Ao147 t399.length co147) t399) ∧ Aside0 (wc.heap[gb330]? = some (.cells #[.int .i64 a0_0, .int .i64 a0_1, .int .i64 a0_2, .int .i64 a0_3, .int .i64 a0_4, .int .i64 a0_5, .int .i64 a0_6] 23 (0, 0))) ∧ Aside0 (wc.heap[gb331]? = some (.cells #[.int .i64 a1_0, .int .i64 a1_1, (.slice A1_2 l1_2.length c1_2)] 31 (0, 0))) ∧ Aside0 (wc.heap[gb351]? = some (.cells #[.int .i64 t345, .int .i64 t346, (.slice Ao31 t347.length co31)] 35 (0, 0))) ∧ Aside0 (wc.heap[gb357]? = some (.cells #[.int .i64 t352, .int .i64 t353, (.slice Ao41 t380.length co41)] 35 (0, 0))) ∧ Aside0 (wc.heap[gb371]? = some (.cells #[.int .i64 t365, .int .i64 t366, (.slice Ao50 t367.length co50)] 35 (0, 0))) ∧ Aside0 (wc.heap[gb403]? = some (.cells #[.int .i64 t397, .int .i64 t398, (.slice Ao147 t399.length co147)] 35 (0, 0))) ∧ Aside0 (Below w.heap.size w wc))
           case first =>
            have H := HC129.out
            clear HC129
            replace H := Option.bind_eq_some_iff.mp H
            obtain ⟨t404, A1490, H⟩ := H
            replace H : (if t404 = true then (laws_FnExactStepCloud.j2 kj78 t382 (t402 != t350) t365 t366 t383) else (laws_FnExactStepCloud.j2 kj78 t382 true t365 t366 t383)) = some r := H
            have A149 := Aside0.mk A1490
            clear A1490
            by_cases c150 : t404 = true
            ·subst c150
             have H1 : (laws_FnExactStepCloud.j2 kj78 t382 (t402 != t350) t365 t366 t383) = some r := by rw [if_pos rfl] at H; exact H
             clear H
             have H := H1
             clear H1
             have H' := Aside0.mk H
             clear H
             have hnb151 := NB403_330.out
             have hnc151 := NB330_403.out
             have hnb152 := NB403_331.out
             have hnc152 := NB331_403.out
             have hnb153 := NB403_351.out
             have hnc153 := NB351_403.out
             have hnb154 := NB403_357.out
             have hnc154 := NB357_403.out
             have hnb155 := NB403_371.out
             have hnc155 := NB371_403.out
             have hcz156_0 : w144.cell? ⟨gb403, 0, none⟩ = some (.int .i64 0) := (blk_cell BK403.out 0).trans rfl
             have hcz156_1 : w144.cell? ⟨gb403, 1, none⟩ = some (.int .i64 0) := (blk_cell BK403.out 1).trans rfl
             have hcz156_2 : w144.cell? ⟨gb403, 2, none⟩ = some (.slice none 0 0) := (blk_cell BK403.out 2).trans rfl
             have hfz156_0 := blk_frozen BK403.out 0
             have hfz156_1 := blk_frozen BK403.out 1
             have hfz156_2 := blk_frozen BK403.out 2
             have hnb157 := NB351_330.out
             have hnc157 := NB330_351.out
             have hnb158 := NB351_331.out
             have hnc158 := NB331_351.out
             have hnb159 := NB351_357.out
             have hnc159 := NB357_351.out
             have hnb160 := NB351_371.out
             have hnc160 := NB371_351.out
             have hcz161_0 : w144.cell? ⟨gb351, 0, none⟩ = some (.int .i64 t345) := (blk_cell BK351.out 0).trans rfl
             have hcz161_1 : w144.cell? ⟨gb351, 1, none⟩ = some (.int .i64 t346) := (blk_cell BK351.out 1).trans rfl
             have hcz161_2 : w144.cell? ⟨gb351, 2, none⟩ = some (.slice Ao31 t347.length co31) := (blk_cell BK351.out 2).trans rfl
             have hfz161_0 := blk_frozen BK351.out 0
             have hfz161_1 := blk_frozen BK351.out 1
             have hfz161_2 := blk_frozen BK351.out 2
             go_wp2_with (first | ((with_reducible refine gate_callee (f := 13) rfl ?_); refine goesL_ (some 89) rfl rfl Try.func13 (by kernel_rfl) rfl #[.agg #[.int .i64 t397, .int .i64 t398, .slice Ao147 t399.length co147], .agg #[.int .i64 t345, .int .i64 t346, .slice Ao31 t347.length co31]] rfl aE ?_; (with_reducible refine (laws_eqCloud.calls kj78 t397 t398 _ _ t399 t345 t346 _ _ t347 true _ ?side1 ?side2 ?side3 ?side4 A149.out).mono ?_); (case side1 => refine (Kd.R_reads' (e := 48) (base := w.heap.size) (ok := fun k_ => (some k_ ≠ (v395 : Value).ownBlock ∧ (some k_ ≠ (.slice Ao31 t347.length co31 : Value).ownBlock ∧ (some k_ ≠ (.slice Ao41 t380.length co41 : Value).ownBlock ∧ some k_ ≠ (.slice Ao50 t367.length co50 : Value).ownBlock)))) (n := t399.length) (c := co147) ?_).2.2; exact (rU (Kd.R_mono (Kd.R_far (p := ⟨gb403, 2, none⟩) (Kd.R_far (p := ⟨gb403, 1, none⟩) (Kd.R_far (p := ⟨gb403, 0, none⟩) (Kd.R_types HO401.out BK403.out (by decide)) (fun _ hk => hk.2) (.int .i64 t397)) (fun _ hk => hk.2) (.int .i64 t398)) (fun _ hk => hk.2) (.slice Ao147 t399.length co147)) (fun _ h_ => h_.1)))); (case side2 => exact (Kd.R_reads' HO401.out).2.1); (case side3 => refine (Kd.R_reads' (e := 48) (base := w.heap.size) (ok := fun k_ => (some k_ ≠ (v395 : Value).ownBlock ∧ (some k_ ≠ (.slice Ao147 t399.length co147 : Value).ownBlock ∧ (some k_ ≠ (.slice Ao41 t380.length co41 : Value).ownBlock ∧ some k_ ≠ (.slice Ao50 t367.length co50 : Value).ownBlock)))) (n := t347.length) (c := co31) ?_).2.2; exact (rU (Kd.R_mono (Kd.R_far (p := ⟨gb403, 2, none⟩) (Kd.R_far (p := ⟨gb403, 1, none⟩) (Kd.R_far (p := ⟨gb403, 0, none⟩) (Kd.R_types HO_352002.out BK403.out (by decide)) (fun _ hk => hk.2) (.int .i64 t397)) (fun _ hk => hk.2) (.int .i64 t398)) (fun _ hk => hk.2) (.slice Ao147 t399.length co147)) (fun _ h_ => h_.1)))); (case side4 => exact (Kd.R_reads' HO_352002.out).2.1); rintro e w162 ⟨rfl, hb⟩; refine ⟨_, rfl, ?_⟩; replace HO_352002 := Aside0.mk (Kd.R_below (rU (Kd.R_mono (Kd.R_far (p := ⟨gb403, 2, none⟩) (Kd.R_far (p := ⟨gb403, 1, none⟩) (Kd.R_far (p := ⟨gb403, 0, none⟩) (Kd.R_types HO_352002.out BK403.out (by decide)) (fun _ hk => hk.2) (.int .i64 t397)) (fun _ hk => hk.2) (.int .i64 t398)) (fun _ hk => hk.2) (.slice Ao147 t399.length co147)) (fun _ h_ => h_.1))) hb); replace HO_358002 := Aside0.mk (Kd.R_below (rU (Kd.R_mono (Kd.R_far (p := ⟨gb403, 2, none⟩) (Kd.R_far (p := ⟨gb403, 1, none⟩) (Kd.R_far (p := ⟨gb403, 0, none⟩) (Kd.R_types HO_358002.out BK403.out (by decide)) (fun _ hk => hk.2) (.int .i64 t397)) (fun _ hk => hk.2) (.int .i64 t398)) (fun _ hk => hk.2) (.slice Ao147 t399.length co147)) (fun _ h_ => h_.1))) hb); replace HO_372002 := Aside0.mk (Kd.R_below (rU (Kd.R_mono (Kd.R_far (p := ⟨gb403, 2, none⟩) (Kd.R_far (p := ⟨gb403, 1, none⟩) (Kd.R_far (p := ⟨gb403, 0, none⟩) (Kd.R_types HO_372002.out BK403.out (by decide)) (fun _ hk => hk.2) (.int .i64 t397)) (fun _ hk => hk.2) (.int .i64 t398)) (fun _ hk => hk.2) (.slice Ao147 t399.length co147)) (fun _ h_ => h_.1))) hb); replace HO396 := Aside0.mk (Kd.R_below (rU (Kd.R_mono (Kd.R_far (p := ⟨gb403, 2, none⟩) (Kd.R_far (p := ⟨gb403, 1, none⟩) (Kd.R_far (p := ⟨gb403, 0, none⟩) (Kd.R_types HO396.out BK403.out (by decide)) (fun _ hk => hk.2) (.int .i64 t397)) (fun _ hk => hk.2) (.int .i64 t398)) (fun _ hk => hk.2) (.slice Ao147 t399.length co147)) (fun _ h_ => h_.1))) hb); replace HO401 := Aside0.mk (Kd.R_below (rU (Kd.R_mono (Kd.R_far (p := ⟨gb403, 2, none⟩) (Kd.R_far (p := ⟨gb403, 1, none⟩) (Kd.R_far (p := ⟨gb403, 0, none⟩) (Kd.R_types HO401.out BK403.out (by decide)) (fun _ hk => hk.2) (.int .i64 t397)) (fun _ hk => hk.2) (.int .i64 t398)) (fun _ hk => hk.2) (.slice Ao147 t399.length co147)) (fun _ h_ => h_.1))) hb); replace BK330 := Aside0.mk (blk_below (bF NB330_403.out BK330.out) hb); replace BK331 := Aside0.mk (blk_below (bF NB331_403.out BK331.out) hb); replace BK351 := Aside0.mk (blk_below (bF NB351_403.out BK351.out) hb); replace BK357 := Aside0.mk (blk_below (bF NB357_403.out BK357.out) hb); replace BK371 := Aside0.mk (blk_below (bF NB371_403.out BK371.out) hb); replace BK403 := Aside0.mk (blk_below (g := gb403) (o := .cells #[.int .i64 t397, .int .i64 t398, .slice Ao147 t399.length co147] 35 (0, 0)) (by refine bU ?_; refine blk_put (cs := #[.int .i64 t397, .int .i64 t398, .slice none 0 0]) ?_ 2 _ rfl; refine bU ?_; refine blk_put (cs := #[.int .i64 t397, .int .i64 0, .slice none 0 0]) ?_ 1 _ rfl; refine bU ?_; refine blk_put (cs := #[.int .i64 0, .int .i64 0, .slice none 0 0]) ?_ 0 _ rfl; refine bU ?_; exact BK403.out) hb); replace HB := Aside0.mk (below_step (lU6 GE330.out GE331.out GE351.out GE357.out GE371.out GE403.out) hb); (try clear hb); (try clear hb2); (try clear hk); (try clear hi)))
             go_meet
             case rel => exact ⟨_, ((t402 != t350)), tE, H', ⟨by have := HJ15.out; have := HJ78.out; first | omega | exact Nat.le_refl _⟩, ⟨by (try simp only [hl358002_78]); (with_reducible repeat (first | apply Kd.R_alloc | apply Kd.R_drewN | apply Kd.R_drew)); exact Kd.R_mono HO_352002.out (fun _ hk => ⟨hk.2.2.1, ⟨hk.2.2.2, hk.2.1⟩⟩)⟩, ⟨by (try simp only [hl358002_78]); (with_reducible repeat (first | apply Kd.R_alloc | apply Kd.R_drewN | apply Kd.R_drew)); exact Kd.R_mono HO_358002.out (fun _ hk => ⟨hk.2.2.1, ⟨hk.2.2.2, hk.2.1⟩⟩)⟩, ⟨by (try simp only [hl358002_78]); (with_reducible repeat (first | apply Kd.R_alloc | apply Kd.R_drewN | apply Kd.R_drew)); exact Kd.R_mono HO_372002.out (fun _ hk => ⟨hk.2.2.1, ⟨hk.2.2.2, hk.2.1⟩⟩)⟩, ⟨by (try simp only [hl358002_78]); (with_reducible repeat (first | apply Kd.R_alloc | apply Kd.R_drewN | apply Kd.R_drew)); exact Kd.R_mono HO401.out (fun _ hk => ⟨hk.2.1, ⟨hk.2.2.1, hk.2.2.2⟩⟩)⟩, ⟨by (try simp only [hl358002_78]); refine bU ?_; exact BK330.out⟩, ⟨by (try simp only [hl358002_78]); refine bU ?_; exact BK331.out⟩, ⟨by (try simp only [hl358002_78]); refine bU ?_; exact BK351.out⟩, ⟨by (try simp only [hl358002_78]); refine bU ?_; exact BK357.out⟩, ⟨by (try simp only [hl358002_78]); refine bU ?_; exact BK371.out⟩, ⟨by (try simp only [hl358002_78]); refine bU ?_; exact BK403.out⟩, ⟨by repeat (first | (with_reducible first | exact HB.out | apply below_alloc | apply pw_below_drewN | apply below_drew1 | refine below_set ?_ GE330.out | refine below_set ?_ GE331.out | refine below_set ?_ GE351.out | refine below_set ?_ GE357.out | refine below_set ?_ GE371.out | refine below_set ?_ GE403.out) | exact HB.out)⟩⟩
            ·replace c150 := Bool.eq_false_iff.mpr c150
             subst c150
             have H1 : (laws_FnExactStepCloud.j2 kj78 t382 true t365 t366 t383) = some r := by rw [if_neg (show ¬ (false = true) by decide)] at H; exact H
             clear H
             have H := H1
             clear H1
             have H' := Aside0.mk H
             clear H
             have hnb163 := NB403_330.out
             have hnc163 := NB330_403.out
             have hnb164 := NB403_331.out
             have hnc164 := NB331_403.out
             have hnb165 := NB403_351.out
             have hnc165 := NB351_403.out
             have hnb166 := NB403_357.out
             have hnc166 := NB357_403.out
             have hnb167 := NB403_371.out
             have hnc167 := NB371_403.out
             have hcz168_0 : w144.cell? ⟨gb403, 0, none⟩ = some (.int .i64 0) := (blk_cell BK403.out 0).trans rfl
             have hcz168_1 : w144.cell? ⟨gb403, 1, none⟩ = some (.int .i64 0) := (blk_cell BK403.out 1).trans rfl
             have hcz168_2 : w144.cell? ⟨gb403, 2, none⟩ = some (.slice none 0 0) := (blk_cell BK403.out 2).trans rfl
             have hfz168_0 := blk_frozen BK403.out 0
             have hfz168_1 := blk_frozen BK403.out 1
             have hfz168_2 := blk_frozen BK403.out 2
             have hnb169 := NB351_330.out
             have hnc169 := NB330_351.out
             have hnb170 := NB351_331.out
             have hnc170 := NB331_351.out
             have hnb171 := NB351_357.out
             have hnc171 := NB357_351.out
             have hnb172 := NB351_371.out
             have hnc172 := NB371_351.out
             have hcz173_0 : w144.cell? ⟨gb351, 0, none⟩ = some (.int .i64 t345) := (blk_cell BK351.out 0).trans rfl
             have hcz173_1 : w144.cell? ⟨gb351, 1, none⟩ = some (.int .i64 t346) := (blk_cell BK351.out 1).trans rfl
             have hcz173_2 : w144.cell? ⟨gb351, 2, none⟩ = some (.slice Ao31 t347.length co31) := (blk_cell BK351.out 2).trans rfl
             have hfz173_0 := blk_frozen BK351.out 0
             have hfz173_1 := blk_frozen BK351.out 1
             have hfz173_2 := blk_frozen BK351.out 2
             go_wp2_with (first | ((with_reducible refine gate_callee (f := 13) rfl ?_); refine goesL_ (some 89) rfl rfl Try.func13 (by kernel_rfl) rfl #[.agg #[.int .i64 t397, .int .i64 t398, .slice Ao147 t399.length co147], .agg #[.int .i64 t345, .int .i64 t346, .slice Ao31 t347.length co31]] rfl aE ?_; (with_reducible refine (laws_eqCloud.calls kj78 t397 t398 _ _ t399 t345 t346 _ _ t347 false _ ?side1 ?side2 ?side3 ?side4 A149.out).mono ?_); (case side1 => refine (Kd.R_reads' (e := 48) (base := w.heap.size) (ok := fun k_ => (some k_ ≠ (v395 : Value).ownBlock ∧ (some k_ ≠ (.slice Ao31 t347.length co31 : Value).ownBlock ∧ (some k_ ≠ (.slice Ao41 t380.length co41 : Value).ownBlock ∧ some k_ ≠ (.slice Ao50 t367.length co50 : Value).ownBlock)))) (n := t399.length) (c := co147) ?_).2.2; exact (rU (Kd.R_mono (Kd.R_far (p := ⟨gb403, 2, none⟩) (Kd.R_far (p := ⟨gb403, 1, none⟩) (Kd.R_far (p := ⟨gb403, 0, none⟩) (Kd.R_types HO401.out BK403.out (by decide)) (fun _ hk => hk.2) (.int .i64 t397)) (fun _ hk => hk.2) (.int .i64 t398)) (fun _ hk => hk.2) (.slice Ao147 t399.length co147)) (fun _ h_ => h_.1)))); (case side2 => exact (Kd.R_reads' HO401.out).2.1); (case side3 => refine (Kd.R_reads' (e := 48) (base := w.heap.size) (ok := fun k_ => (some k_ ≠ (v395 : Value).ownBlock ∧ (some k_ ≠ (.slice Ao147 t399.length co147 : Value).ownBlock ∧ (some k_ ≠ (.slice Ao41 t380.length co41 : Value).ownBlock ∧ some k_ ≠ (.slice Ao50 t367.length co50 : Value).ownBlock)))) (n := t347.length) (c := co31) ?_).2.2; exact (rU (Kd.R_mono (Kd.R_far (p := ⟨gb403, 2, none⟩) (Kd.R_far (p := ⟨gb403, 1, none⟩) (Kd.R_far (p := ⟨gb403, 0, none⟩) (Kd.R_types HO_352002.out BK403.out (by decide)) (fun _ hk => hk.2) (.int .i64 t397)) (fun _ hk => hk.2) (.int .i64 t398)) (fun _ hk => hk.2) (.slice Ao147 t399.length co147)) (fun _ h_ => h_.1)))); (case side4 => exact (Kd.R_reads' HO_352002.out).2.1); rintro e w174 ⟨rfl, hb⟩; refine ⟨_, rfl, ?_⟩; replace HO_352002 := Aside0.mk (Kd.R_below (rU (Kd.R_mono (Kd.R_far (p := ⟨gb403, 2, none⟩) (Kd.R_far (p := ⟨gb403, 1, none⟩) (Kd.R_far (p := ⟨gb403, 0, none⟩) (Kd.R_types HO_352002.out BK403.out (by decide)) (fun _ hk => hk.2) (.int .i64 t397)) (fun _ hk => hk.2) (.int .i64 t398)) (fun _ hk => hk.2) (.slice Ao147 t399.length co147)) (fun _ h_ => h_.1))) hb); replace HO_358002 := Aside0.mk (Kd.R_below (rU (Kd.R_mono (Kd.R_far (p := ⟨gb403, 2, none⟩) (Kd.R_far (p := ⟨gb403, 1, none⟩) (Kd.R_far (p := ⟨gb403, 0, none⟩) (Kd.R_types HO_358002.out BK403.out (by decide)) (fun _ hk => hk.2) (.int .i64 t397)) (fun _ hk => hk.2) (.int .i64 t398)) (fun _ hk => hk.2) (.slice Ao147 t399.length co147)) (fun _ h_ => h_.1))) hb); replace HO_372002 := Aside0.mk (Kd.R_below (rU (Kd.R_mono (Kd.R_far (p := ⟨gb403, 2, none⟩) (Kd.R_far (p := ⟨gb403, 1, none⟩) (Kd.R_far (p := ⟨gb403, 0, none⟩) (Kd.R_types HO_372002.out BK403.out (by decide)) (fun _ hk => hk.2) (.int .i64 t397)) (fun _ hk => hk.2) (.int .i64 t398)) (fun _ hk => hk.2) (.slice Ao147 t399.length co147)) (fun _ h_ => h_.1))) hb); replace HO396 := Aside0.mk (Kd.R_below (rU (Kd.R_mono (Kd.R_far (p := ⟨gb403, 2, none⟩) (Kd.R_far (p := ⟨gb403, 1, none⟩) (Kd.R_far (p := ⟨gb403, 0, none⟩) (Kd.R_types HO396.out BK403.out (by decide)) (fun _ hk => hk.2) (.int .i64 t397)) (fun _ hk => hk.2) (.int .i64 t398)) (fun _ hk => hk.2) (.slice Ao147 t399.length co147)) (fun _ h_ => h_.1))) hb); replace HO401 := Aside0.mk (Kd.R_below (rU (Kd.R_mono (Kd.R_far (p := ⟨gb403, 2, none⟩) (Kd.R_far (p := ⟨gb403, 1, none⟩) (Kd.R_far (p := ⟨gb403, 0, none⟩) (Kd.R_types HO401.out BK403.out (by decide)) (fun _ hk => hk.2) (.int .i64 t397)) (fun _ hk => hk.2) (.int .i64 t398)) (fun _ hk => hk.2) (.slice Ao147 t399.length co147)) (fun _ h_ => h_.1))) hb); replace BK330 := Aside0.mk (blk_below (bF NB330_403.out BK330.out) hb); replace BK331 := Aside0.mk (blk_below (bF NB331_403.out BK331.out) hb); replace BK351 := Aside0.mk (blk_below (bF NB351_403.out BK351.out) hb); replace BK357 := Aside0.mk (blk_below (bF NB357_403.out BK357.out) hb); replace BK371 := Aside0.mk (blk_below (bF NB371_403.out BK371.out) hb); replace BK403 := Aside0.mk (blk_below (g := gb403) (o := .cells #[.int .i64 t397, .int .i64 t398, .slice Ao147 t399.length co147] 35 (0, 0)) (by refine bU ?_; refine blk_put (cs := #[.int .i64 t397, .int .i64 t398, .slice none 0 0]) ?_ 2 _ rfl; refine bU ?_; refine blk_put (cs := #[.int .i64 t397, .int .i64 0, .slice none 0 0]) ?_ 1 _ rfl; refine bU ?_; refine blk_put (cs := #[.int .i64 0, .int .i64 0, .slice none 0 0]) ?_ 0 _ rfl; refine bU ?_; exact BK403.out) hb); replace HB := Aside0.mk (below_step (lU6 GE330.out GE331.out GE351.out GE357.out GE371.out GE403.out) hb); (try clear hb); (try clear hb2); (try clear hk); (try clear hi)))
             go_meet
             case rel => exact ⟨_, (true), tE, H', ⟨by have := HJ15.out; have := HJ78.out; first | omega | exact Nat.le_refl _⟩, ⟨by (try simp only [hl358002_78]); (with_reducible repeat (first | apply Kd.R_alloc | apply Kd.R_drewN | apply Kd.R_drew)); exact Kd.R_mono HO_352002.out (fun _ hk => ⟨hk.2.2.1, ⟨hk.2.2.2, hk.2.1⟩⟩)⟩, ⟨by (try simp only [hl358002_78]); (with_reducible repeat (first | apply Kd.R_alloc | apply Kd.R_drewN | apply Kd.R_drew)); exact Kd.R_mono HO_358002.out (fun _ hk => ⟨hk.2.2.1, ⟨hk.2.2.2, hk.2.1⟩⟩)⟩, ⟨by (try simp only [hl358002_78]); (with_reducible repeat (first | apply Kd.R_alloc | apply Kd.R_drewN | apply Kd.R_drew)); exact Kd.R_mono HO_372002.out (fun _ hk => ⟨hk.2.2.1, ⟨hk.2.2.2, hk.2.1⟩⟩)⟩, ⟨by (try simp only [hl358002_78]); (with_reducible repeat (first | apply Kd.R_alloc | apply Kd.R_drewN | apply Kd.R_drew)); exact Kd.R_mono HO401.out (fun _ hk => ⟨hk.2.1, ⟨hk.2.2.1, hk.2.2.2⟩⟩)⟩, ⟨by (try simp only [hl358002_78]); refine bU ?_; exact BK330.out⟩, ⟨by (try simp only [hl358002_78]); refine bU ?_; exact BK331.out⟩, ⟨by (try simp only [hl358002_78]); refine bU ?_; exact BK351.out⟩, ⟨by (try simp only [hl358002_78]); refine bU ?_; exact BK357.out⟩, ⟨by (try simp only [hl358002_78]); refine bU ?_; exact BK371.out⟩, ⟨by (try simp only [hl358002_78]); refine bU ?_; exact BK403.out⟩, ⟨by repeat (first | (with_reducible first | exact HB.out | apply below_alloc | apply pw_below_drewN | apply below_drew1 | refine below_set ?_ GE330.out | refine below_set ?_ GE331.out | refine below_set ?_ GE351.out | refine below_set ?_ GE357.out | refine below_set ?_ GE371.out | refine below_set ?_ GE403.out) | exact HB.out)⟩⟩
           case rest =>
            clear HC129
            try clear c1
            try clear p2
            try clear c7
            try clear c11
            try clear c12
            try clear c13
            try clear c15
            try clear c16
            try clear c17
            try clear c150
            try clear c151
            try clear c152
            try clear c153
            try clear c154
            try clear c155
            try clear c157
            try clear c158
            try clear c159
            try clear c160
            try clear c163
            try clear c164
            try clear c165
            try clear c166
            try clear c167
            try clear c169
            try clear c170
            try clear c171
            try clear c172
            try clear hcz156_0
            try clear hcz156_1
            try clear hcz156_2
            try clear hcz161_0
            try clear hcz161_1
            try clear hcz161_2
            try clear hcz168_0
            try clear hcz168_1
            try clear hcz168_2
            try clear hcz173_0
            try clear hcz173_1
            try clear hcz173_2
            try clear hfz156_0
            try clear hfz156_1
            try clear hfz156_2
            try clear hfz161_0
            try clear hfz161_1
            try clear hfz161_2
            try clear hfz168_0
            try clear hfz168_1
            try clear hfz168_2
            try clear hfz173_0
            try clear hfz173_1
            try clear hfz173_2
            obtain ⟨kq, x95_128, rfl, HA, HJ128, HO_352002, HO_358002, HO_372002, HO_404002, BK330, BK331, BK351, BK357, BK371, BK403, HB⟩ := hcut
            have hl372002_128 := (Kd.R_reads' HO_372002.out).1
            rw [hl372002_128] at HO_372002
            (try simp only [hl372002_128])
            (try simp only [hl372002_128] at BK330)
            (try simp only [hl372002_128] at BK331)
            (try simp only [hl372002_128] at BK351)
            (try simp only [hl372002_128] at BK357)
            (try simp only [hl372002_128] at BK371)
            (try simp only [hl372002_128] at BK403)
            (try simp only [hl372002_128] at HO_352002)
            (try simp only [hl372002_128] at HO_358002)
            (try simp only [hl372002_128] at HO_404002)
            cases kq with
            | zero => exact absurd HA.out (by simp [laws_FnExactStepCloud.j2])
            | succ kj128 =>
             have H := HA.out
             clear HA
             simp only [laws_FnExactStepCloud.j2] at H
             by_cases c175 : x95_128 = true
             ·subst c175
              have H1 : (some false) = some r := by rw [if_pos rfl] at H; exact H
              clear H
              have H := H1
              clear H1
              obtain rfl := Option.some.inj H
              go_wp2
              go_ret
              exact ⟨eE, lU6 GE330.out GE331.out GE351.out GE357.out GE371.out GE403.out⟩
             ·replace c175 := Bool.eq_false_iff.mpr c175
              subst c175
              have H1 : ((laws_heldCloud.f kj128 t365 t366 t383 1).bind fun t405 => (if t405 < 0 then (some false) else (if t405 = t382 then (some true) else (some false)))) = some r := by rw [if_neg (show ¬ (false = true) by decide)] at H; exact H
              clear H
              have H := H1
              clear H1
              replace H := Option.bind_eq_some_iff.mp H
              obtain ⟨t405, A1760, H⟩ := H
              replace H : (if t405 < 0 then (some false) else (if t405 = t382 then (some true) else (some false))) = some r := H
              have A176 := Aside0.mk A1760
              clear A1760
              by_cases c177 : t405 < 0
              ·rw [if_pos c177] at H
               have c177b0 : decide (t405 < 0) = true := decide_eq_true c177
               clear c177
               obtain rfl := Option.some.inj H
               have hnb178 := NB371_330.out
               have hnc178 := NB330_371.out
               have hnb179 := NB371_331.out
               have hnc179 := NB331_371.out
               have hnb180 := NB371_351.out
               have hnc180 := NB351_371.out
               have hnb181 := NB371_357.out
               have hnc181 := NB357_371.out
               have hnb182 := NB371_403.out
               have hnc182 := NB403_371.out
               have hcz183_0 : wc.cell? ⟨gb371, 0, none⟩ = some (.int .i64 t365) := (blk_cell BK371.out 0).trans rfl
               have hcz183_1 : wc.cell? ⟨gb371, 1, none⟩ = some (.int .i64 t366) := (blk_cell BK371.out 1).trans rfl
               have hcz183_2 : wc.cell? ⟨gb371, 2, none⟩ = some (.slice Ao50 t383.length co50) := (blk_cell BK371.out 2).trans rfl
               have hfz183_0 := blk_frozen BK371.out 0
               have hfz183_1 := blk_frozen BK371.out 1
               have hfz183_2 := blk_frozen BK371.out 2
               go_wp2_with (first | ((with_reducible refine gate_callee (f := 15) rfl ?_); refine goesL_ (some 98) rfl rfl Try.func15 (by kernel_rfl) rfl #[.agg #[.int .i64 t365, .int .i64 t366, .slice Ao50 t383.length co50], .int .i64 1] rfl aE ?_; (with_reducible refine (laws_heldCloud.calls kj128 t365 t366 _ _ t383 1 t405 _ ?side1 ?side2 A176.out).mono ?_); (case side1 => exact cU (Kd.R_reads' HO_372002.out).2.2); (case side2 => exact (Kd.R_reads' HO_372002.out).2.1); rintro e w184 ⟨rfl, hb⟩; refine ⟨_, rfl, ?_⟩; replace HO_352002 := Aside0.mk (Kd.R_below (rU HO_352002.out) hb); replace HO_358002 := Aside0.mk (Kd.R_below (rU HO_358002.out) hb); replace HO_372002 := Aside0.mk (Kd.R_below (rU HO_372002.out) hb); replace HO_404002 := Aside0.mk (Kd.R_below (rU HO_404002.out) hb); replace BK330 := Aside0.mk (blk_below (bU BK330.out) hb); replace BK331 := Aside0.mk (blk_below (bU BK331.out) hb); replace BK351 := Aside0.mk (blk_below (bU BK351.out) hb); replace BK357 := Aside0.mk (blk_below (bU BK357.out) hb); replace BK371 := Aside0.mk (blk_below (bU BK371.out) hb); replace BK403 := Aside0.mk (blk_below (bU BK403.out) hb); replace HB := Aside0.mk (below_step (lU6 GE330.out GE331.out GE351.out GE357.out GE371.out GE403.out) hb); (try clear hb); (try clear hb2); (try clear hk); (try clear hi)))
               go_ret
               exact ⟨eE, lU6 GE330.out GE331.out GE351.out GE357.out GE371.out GE403.out⟩
              ·rw [if_neg c177] at H
               have c177b0 : decide (t405 < 0) = false := decide_eq_false c177
               clear c177
               by_cases c185 : t405 = t382
               ·rw [if_pos c185] at H
                have c185b0 : (t405 == t382) = true := beq_iff_eq.mpr c185
                have c185b1 : (t405 != t382) = false := bne_eq_false_iff_eq.mpr c185
                clear c185
                obtain rfl := Option.some.inj H
                have hnb186 := NB371_330.out
                have hnc186 := NB330_371.out
                have hnb187 := NB371_331.out
                have hnc187 := NB331_371.out
                have hnb188 := NB371_351.out
                have hnc188 := NB351_371.out
                have hnb189 := NB371_357.out
                have hnc189 := NB357_371.out
                have hnb190 := NB371_403.out
                have hnc190 := NB403_371.out
                have hcz191_0 : wc.cell? ⟨gb371, 0, none⟩ = some (.int .i64 t365) := (blk_cell BK371.out 0).trans rfl
                have hcz191_1 : wc.cell? ⟨gb371, 1, none⟩ = some (.int .i64 t366) := (blk_cell BK371.out 1).trans rfl
                have hcz191_2 : wc.cell? ⟨gb371, 2, none⟩ = some (.slice Ao50 t383.length co50) := (blk_cell BK371.out 2).trans rfl
                have hfz191_0 := blk_frozen BK371.out 0
                have hfz191_1 := blk_frozen BK371.out 1
                have hfz191_2 := blk_frozen BK371.out 2
                go_wp2_with (first | ((with_reducible refine gate_callee (f := 15) rfl ?_); refine goesL_ (some 98) rfl rfl Try.func15 (by kernel_rfl) rfl #[.agg #[.int .i64 t365, .int .i64 t366, .slice Ao50 t383.length co50], .int .i64 1] rfl aE ?_; (with_reducible refine (laws_heldCloud.calls kj128 t365 t366 _ _ t383 1 t405 _ ?side1 ?side2 A176.out).mono ?_); (case side1 => exact cU (Kd.R_reads' HO_372002.out).2.2); (case side2 => exact (Kd.R_reads' HO_372002.out).2.1); rintro e w192 ⟨rfl, hb⟩; refine ⟨_, rfl, ?_⟩; replace HO_352002 := Aside0.mk (Kd.R_below (rU HO_352002.out) hb); replace HO_358002 := Aside0.mk (Kd.R_below (rU HO_358002.out) hb); replace HO_372002 := Aside0.mk (Kd.R_below (rU HO_372002.out) hb); replace HO_404002 := Aside0.mk (Kd.R_below (rU HO_404002.out) hb); replace BK330 := Aside0.mk (blk_below (bU BK330.out) hb); replace BK331 := Aside0.mk (blk_below (bU BK331.out) hb); replace BK351 := Aside0.mk (blk_below (bU BK351.out) hb); replace BK357 := Aside0.mk (blk_below (bU BK357.out) hb); replace BK371 := Aside0.mk (blk_below (bU BK371.out) hb); replace BK403 := Aside0.mk (blk_below (bU BK403.out) hb); replace HB := Aside0.mk (below_step (lU6 GE330.out GE331.out GE351.out GE357.out GE371.out GE403.out) hb); (try clear hb); (try clear hb2); (try clear hk); (try clear hi)))
                go_ret
                exact ⟨eE, lU6 GE330.out GE331.out GE351.out GE357.out GE371.out GE403.out⟩
               ·rw [if_neg c185] at H
                have c185b0 : (t405 == t382) = false := beq_eq_false_iff_ne.mpr c185
                have c185b1 : (t405 != t382) = true := bne_iff_ne.mpr c185
                obtain rfl := Option.some.inj H
                have hnb193 := NB371_330.out
                have hnc193 := NB330_371.out
                have hnb194 := NB371_331.out
                have hnc194 := NB331_371.out
                have hnb195 := NB371_351.out
                have hnc195 := NB351_371.out
                have hnb196 := NB371_357.out
                have hnc196 := NB357_371.out
                have hnb197 := NB371_403.out
                have hnc197 := NB403_371.out
                have hcz198_0 : wc.cell? ⟨gb371, 0, none⟩ = some (.int .i64 t365) := (blk_cell BK371.out 0).trans rfl
                have hcz198_1 : wc.cell? ⟨gb371, 1, none⟩ = some (.int .i64 t366) := (blk_cell BK371.out 1).trans rfl
                have hcz198_2 : wc.cell? ⟨gb371, 2, none⟩ = some (.slice Ao50 t383.length co50) := (blk_cell BK371.out 2).trans rfl
                have hfz198_0 := blk_frozen BK371.out 0
                have hfz198_1 := blk_frozen BK371.out 1
                have hfz198_2 := blk_frozen BK371.out 2
                go_wp2_with (first | ((with_reducible refine gate_callee (f := 15) rfl ?_); refine goesL_ (some 98) rfl rfl Try.func15 (by kernel_rfl) rfl #[.agg #[.int .i64 t365, .int .i64 t366, .slice Ao50 t383.length co50], .int .i64 1] rfl aE ?_; (with_reducible refine (laws_heldCloud.calls kj128 t365 t366 _ _ t383 1 t405 _ ?side1 ?side2 A176.out).mono ?_); (case side1 => exact cU (Kd.R_reads' HO_372002.out).2.2); (case side2 => exact (Kd.R_reads' HO_372002.out).2.1); rintro e w199 ⟨rfl, hb⟩; refine ⟨_, rfl, ?_⟩; replace HO_352002 := Aside0.mk (Kd.R_below (rU HO_352002.out) hb); replace HO_358002 := Aside0.mk (Kd.R_below (rU HO_358002.out) hb); replace HO_372002 := Aside0.mk (Kd.R_below (rU HO_372002.out) hb); replace HO_404002 := Aside0.mk (Kd.R_below (rU HO_404002.out) hb); replace BK330 := Aside0.mk (blk_below (bU BK330.out) hb); replace BK331 := Aside0.mk (blk_below (bU BK331.out) hb); replace BK351 := Aside0.mk (blk_below (bU BK351.out) hb); replace BK357 := Aside0.mk (blk_below (bU BK357.out) hb); replace BK371 := Aside0.mk (blk_below (bU BK371.out) hb); replace BK403 := Aside0.mk (blk_below (bU BK403.out) hb); replace HB := Aside0.mk (below_step (lU6 GE330.out GE331.out GE351.out GE357.out GE371.out GE403.out) hb); (try clear hb); (try clear hb2); (try clear hk); (try clear hi)))
                go_ret
                exact ⟨eE, lU6 GE330.out GE331.out GE351.out GE357.out GE371.out GE403.out⟩
          ·rw [if_neg c125] at H
           have c125b0 : (t384 == t382) = false := beq_eq_false_iff_ne.mpr c125
           have c125b1 : (t384 != t382) = true := bne_iff_ne.mpr c125
           obtain rfl := Option.some.inj H
           have hnb200 := NB371_330.out
           have hnc200 := NB330_371.out
           have hnb201 := NB371_331.out
           have hnc201 := NB331_371.out
           have hnb202 := NB371_351.out
           have hnc202 := NB351_371.out
           have hnb203 := NB371_357.out
           have hnc203 := NB357_371.out
           have hcz204_0 : wc.cell? ⟨gb371, 0, none⟩ = some (.int .i64 t365) := (blk_cell BK371.out 0).trans rfl
           have hcz204_1 : wc.cell? ⟨gb371, 1, none⟩ = some (.int .i64 t366) := (blk_cell BK371.out 1).trans rfl
           have hcz204_2 : wc.cell? ⟨gb371, 2, none⟩ = some (.slice Ao50 t367.length co50) := (blk_cell BK371.out 2).trans rfl
           have hfz204_0 := blk_frozen BK371.out 0
           have hfz204_1 := blk_frozen BK371.out 1
           have hfz204_2 := blk_frozen BK371.out 2
           go_wp2_with (first | ((with_reducible refine gate_callee (f := 14) rfl ?_); refine goesL_ (some 70) rfl rfl Try.func14 (by kernel_rfl) rfl #[.agg #[.int .i64 t365, .int .i64 t366, .slice Ao50 t367.length co50], .int .i64 1] rfl aE ?_; (with_reducible refine (laws_markCloud.calls kj78 t365 t366 (fun k_ => some k_ = (.slice Ao50 t367.length co50 : Value).ownBlock) (.slice Ao50 t367.length co50) t367 1 t382 t383 w _ ?side1 ?side2 A114.out).mono ?_); (case side1 => repeat (first | (with_reducible first | exact HB.out | apply below_alloc | apply pw_below_drewN | apply below_drew1 | refine below_set ?_ GE330.out | refine below_set ?_ GE331.out | refine below_set ?_ GE351.out | refine below_set ?_ GE357.out | refine below_set ?_ GE371.out) | exact HB.out)); (case side2 => exact Kd.R_tight rfl HO_372002.out); rintro e w205 ⟨rfl, hy0, hb, hkp⟩; refine ⟨_, rfl, ?_⟩; replace HO_352002 := Aside0.mk (Kd.R_mono (ok' := fun k_ => some k_ ≠ (.slice Ao41 t380.length co41 : Value).ownBlock ∧ some k_ ≠ (.slice Ao50 t367.length co50 : Value).ownBlock) (Kd.R_keptB (HO_352002.out) hkp (fun k_ hk_ hs_ => (hk_.2) hs_)) (fun k_ hk_ => ⟨hk_.1.1, hk_.1.2⟩)); replace HO_358002 := Aside0.mk (Kd.R_mono (ok' := fun k_ => some k_ ≠ (.slice Ao31 t347.length co31 : Value).ownBlock ∧ some k_ ≠ (.slice Ao50 t367.length co50 : Value).ownBlock) (Kd.R_keptB (HO_358002.out) hkp (fun k_ hk_ hs_ => (hk_.2) hs_)) (fun k_ hk_ => ⟨hk_.1.1, hk_.1.2⟩)); replace BK330 := Aside0.mk (blk_kept (bU BK330.out) hkp (fun hs_ => (fun e_ => (Kd.R_ne HO_372002.out BK330.out (by decide)) e_) hs_)); replace BK331 := Aside0.mk (blk_kept (bU BK331.out) hkp (fun hs_ => (fun e_ => (Kd.R_ne HO_372002.out BK331.out (by decide)) e_) hs_)); replace BK351 := Aside0.mk (blk_kept (bU BK351.out) hkp (fun hs_ => (fun e_ => (Kd.R_ne HO_372002.out BK351.out (by decide)) e_) hs_)); replace BK357 := Aside0.mk (blk_kept (bU BK357.out) hkp (fun hs_ => (fun e_ => (Kd.R_ne HO_372002.out BK357.out (by decide)) e_) hs_)); replace BK371 := Aside0.mk (blk_kept (bU BK371.out) hkp (fun hs_ => (fun e_ => (Kd.R_ne HO_372002.out BK371.out (by decide)) e_) hs_)); replace HO_372002 := Aside0.mk (Kd.R_reok rfl hy0 (fun k_ e_ => HO_372002.out.1 k_ e_)); replace HB := Aside0.mk hb; (try clear hb); (try clear hkp); (try clear hy0); have hcz206_0 : w205.cell? ⟨gb371, 0, none⟩ = some (.int .i64 t365) := (blk_cell BK371.out 0).trans rfl; have hcz206_1 : w205.cell? ⟨gb371, 1, none⟩ = some (.int .i64 t366) := (blk_cell BK371.out 1).trans rfl; have hcz206_2 : w205.cell? ⟨gb371, 2, none⟩ = some (.slice Ao50 t367.length co50) := (blk_cell BK371.out 2).trans rfl; have hfz206_0 := blk_frozen BK371.out 0; have hfz206_1 := blk_frozen BK371.out 1; have hfz206_2 := blk_frozen BK371.out 2) | ((with_reducible refine gate_callee (f := 15) rfl ?_); refine goesL_ (some 73) rfl rfl Try.func15 (by kernel_rfl) rfl #[.agg #[.int .i64 t365, .int .i64 t366, .slice Ao50 t383.length co50], .int .i64 1] rfl (by (try simp only [List.map_toArray, List.map_cons, List.map_nil]); first | done | (rw [show t383.length = t367.length from (Kd.R_reads' HO_372002.out).1.symm] <;> rfl) | rfl | (simp only [List.length_drop, List.length_take]; rfl)) ?_; (with_reducible refine (laws_heldCloud.calls kj78 t365 t366 _ _ t383 1 t384 _ ?side1 ?side2 A115.out).mono ?_); (case side1 => exact cU (Kd.R_reads' HO_372002.out).2.2); (case side2 => rw [show t383.length = t367.length from (Kd.R_reads' HO_372002.out).1.symm]; exact (Kd.R_reads' HO_372002.out).2.1); rintro e w207 ⟨rfl, hb⟩; refine ⟨_, rfl, ?_⟩; replace HO_352002 := Aside0.mk (Kd.R_below (rU HO_352002.out) hb); replace HO_358002 := Aside0.mk (Kd.R_below (rU HO_358002.out) hb); replace HO_372002 := Aside0.mk (Kd.R_below (rU HO_372002.out) hb); replace BK330 := Aside0.mk (blk_below (bU BK330.out) hb); replace BK331 := Aside0.mk (blk_below (bU BK331.out) hb); replace BK351 := Aside0.mk (blk_below (bU BK351.out) hb); replace BK357 := Aside0.mk (blk_below (bU BK357.out) hb); replace BK371 := Aside0.mk (blk_below (bU BK371.out) hb); replace HB := Aside0.mk (below_step (lU5 GE330.out GE331.out GE351.out GE357.out GE371.out) hb); (try clear hb); (try clear hb2); (try clear hk); (try clear hi)))
           go_ret
           exact ⟨eE, lU5 GE330.out GE331.out GE351.out GE357.out GE371.out⟩
     ·replace c77 := Bool.eq_false_iff.mpr c77
      subst c77
      have H1 : (some false) = some r := by rw [if_neg (show ¬ (false = true) by decide)] at H; exact H
      clear H
      have H := H1
      clear H1
      obtain rfl := Option.some.inj H
      try go_wp2
      replace HO_352002 := Aside0.mk (Kd.R_drew HO_352002.out)
      replace HO_358002 := Aside0.mk (Kd.R_drew HO_358002.out)
      replace HO_372002 := Aside0.mk (Kd.R_drew HO_372002.out)
      replace BK330 := Aside0.mk (blk_drew BK330.out)
      replace BK331 := Aside0.mk (blk_drew BK331.out)
      replace BK351 := Aside0.mk (blk_drew BK351.out)
      replace BK357 := Aside0.mk (blk_drew BK357.out)
      replace BK371 := Aside0.mk (blk_drew BK371.out)
      replace HB := Aside0.mk (below_drew1 HB.out)
      refine start_ (n := 5) (S := fun w' => w'.cell? ⟨gb357, 0, none⟩ = some (.int .i64 t352) ∧ w'.cell? ⟨gb357, 1, none⟩ = some (.int .i64 t353) ∧ w'.cell? ⟨gb357, 2, none⟩ = some (.slice Ao41 t354.length co41) ∧ w'.cell? ⟨gb331, 0, none⟩ = some (.int .i64 a1_0) ∧ w'.cell? ⟨gb331, 1, none⟩ = some (.int .i64 a1_1) ∧ w'.cell? ⟨gb331, 2, none⟩ = some (.slice A1_2 l1_2.length c1_2)) (ds := []) #[false, false, false, false, false] (by kernel_rfl) rfl rfl ⟨(blk_cell BK357.out 0).trans rfl, (blk_cell BK357.out 1).trans rfl, (blk_cell BK357.out 2).trans rfl, (blk_cell BK331.out 0).trans rfl, (blk_cell BK331.out 1).trans rfl, (blk_cell BK331.out 2).trans rfl⟩ (fun hHeld => ?_)
      generalize wc.drew = w208 at HO_352002 HO_358002 HO_372002 BK330 BK331 BK351 BK357 BK371 HB hHeld ⊢
      refine take_ (i := 0) (N := some 47) (v := ?_) (a' := ?_) (bz 5 1) rfl rfl (by kernel_rfl) (fun _ _ _ h => h) (Or.inl ⟨by rfl, ?_⟩) hHeld ?_ ?_
      rotate_left
      ·rintro w' ⟨s0, s1, s2, s3, s4, s5⟩
       go_simp
       with_reducible rfl
      rotate_left
      ·simp only [Act.put, List.setIfInBounds_toArray, List.set_cons_zero, List.set_cons_succ, i64_w, i32_w]
       rfl
      refine take_ (i := 1) (N := some 48) (v := ?_) (a' := ?_) (bz 5 3) rfl rfl (by kernel_rfl) (fun _ _ _ h => h) (Or.inl ⟨by rfl, ?_⟩) hHeld ?_ ?_
      rotate_left
      ·rintro w' ⟨s0, s1, s2, s3, s4, s5⟩
       go_simp
       with_reducible rfl
      rotate_left
      ·simp only [Act.put, List.setIfInBounds_toArray, List.set_cons_zero, List.set_cons_succ, i64_w, i32_w]
       rfl
      refine one_ (i := 2) (N := some 49) (bz 5 7) rfl rfl (by kernel_rfl) (by decide) (fun K hK => ?_)
      refine goes_ Try.func11 (by kernel_rfl) rfl #[.agg #[.int .i64 a1_0, .int .i64 a1_1, .slice A1_2 l1_2.length c1_2]] (by rfl) rfl rfl aE ?_
      with_reducible refine (laws_toCloud.calls kj15 a1_0 a1_1 _ _ l1_2 t373 t374 t375 _ ?side1 ?side2 A75.out).mono ?_
      (case side1 => exact cU (Kd.C_below HR1_2.out HB.out))
      (case side2 => exact HC1_2.out)
      rintro e w209 ⟨v376, rfl, ho0, hb⟩
      refine ⟨_, rfl, ?_⟩
      have HO377 := Aside0.mk (Kd.R_lower (Kd.R_new' (Kd.R_new' (Kd.R_new' ho0 (Kd.R_lt (rU HO_352002.out))) (Kd.R_lt (rU HO_358002.out))) (Kd.R_lt (rU HO_372002.out))) (below_size (lU5 GE330.out GE331.out GE351.out GE357.out GE371.out)))
      replace HO_352002 := Aside0.mk (Kd.R_elder' (rU HO_352002.out) (Kd.R_base ho0) hb)
      replace HO_358002 := Aside0.mk (Kd.R_elder' (rU HO_358002.out) (Kd.R_base ho0) hb)
      replace HO_372002 := Aside0.mk (Kd.R_elder' (rU HO_372002.out) (Kd.R_base ho0) hb)
      replace BK330 := Aside0.mk (blk_below (bU BK330.out) hb)
      replace BK331 := Aside0.mk (blk_below (bU BK331.out) hb)
      replace BK351 := Aside0.mk (blk_below (bU BK351.out) hb)
      replace BK357 := Aside0.mk (blk_below (bU BK357.out) hb)
      replace BK371 := Aside0.mk (blk_below (bU BK371.out) hb)
      replace HB := Aside0.mk (below_step (lU5 GE330.out GE331.out GE351.out GE357.out GE371.out) hb)
      (try clear hb)
      (try clear hb2)
      (try clear hk)
      (try clear hi)
      (try clear ho0)
      obtain ⟨Ao210, co210, eo210⟩ := Kd.R_slice HO377.out
      (first | subst eo210 | (injection eo210 with f1_ f2_ f3_; have f4_ := f1_.symm; have f5_ := f3_.symm; clear f1_ f2_ f3_; subst f4_; subst f5_))
      refine hK.out _ _ ⟨(blk_cell BK357.out 0).trans rfl, (blk_cell BK357.out 1).trans rfl, (blk_cell BK357.out 2).trans rfl, (blk_cell BK331.out 0).trans rfl, (blk_cell BK331.out 1).trans rfl, (blk_cell BK331.out 2).trans rfl⟩ (fun hHeld => ?_)
      clear hK K
      refine norm_ (a' := ?_) ?_ ?_
      rotate_left
      ·show Act.put _ (some 49) _ = _
       simp only [Act.put, List.setIfInBounds_toArray, List.set_cons_zero, List.set_cons_succ, i64_w, i32_w]
       rfl
      refine one_ (i := 3) (N := some 50) (bz 5 15) rfl rfl (by kernel_rfl) (by decide) (fun K hK => ?_)
      refine goes_ Try.func13 (by kernel_rfl) rfl #[.agg #[.int .i64 t352, .int .i64 t353, .slice Ao41 t354.length co41], .agg #[.int .i64 t373, .int .i64 t374, .slice Ao210 t375.length co210]] (by rfl) rfl rfl aE ?_
      with_reducible refine (laws_eqCloud.calls kj15 t352 t353 _ _ t354 t373 t374 _ _ t375 false _ ?side1 ?side2 ?side3 ?side4 A76.out).mono ?_
      (case side1 => exact cU (Kd.R_reads' HO_358002.out).2.2)
      (case side2 => exact (Kd.R_reads' HO_358002.out).2.1)
      (case side3 => exact cU (Kd.R_reads' HO377.out).2.2)
      (case side4 => exact (Kd.R_reads' HO377.out).2.1)
      rintro e w211 ⟨rfl, hb⟩
      refine ⟨_, rfl, ?_⟩
      replace HO_352002 := Aside0.mk (Kd.R_below (rU HO_352002.out) hb)
      replace HO_358002 := Aside0.mk (Kd.R_below (rU HO_358002.out) hb)
      replace HO_372002 := Aside0.mk (Kd.R_below (rU HO_372002.out) hb)
      replace HO377 := Aside0.mk (Kd.R_below (rU HO377.out) hb)
      replace BK330 := Aside0.mk (blk_below (bU BK330.out) hb)
      replace BK331 := Aside0.mk (blk_below (bU BK331.out) hb)
      replace BK351 := Aside0.mk (blk_below (bU BK351.out) hb)
      replace BK357 := Aside0.mk (blk_below (bU BK357.out) hb)
      replace BK371 := Aside0.mk (blk_below (bU BK371.out) hb)
      replace HB := Aside0.mk (below_step (lU5 GE330.out GE331.out GE351.out GE357.out GE371.out) hb)
      (try clear hb)
      (try clear hb2)
      (try clear hk)
      (try clear hi)
      refine hK.out _ _ ⟨(blk_cell BK357.out 0).trans rfl, (blk_cell BK357.out 1).trans rfl, (blk_cell BK357.out 2).trans rfl, (blk_cell BK331.out 0).trans rfl, (blk_cell BK331.out 1).trans rfl, (blk_cell BK331.out 2).trans rfl⟩ (fun hHeld => ?_)
      clear hK K
      refine norm_ (a' := ?_) ?_ ?_
      rotate_left
      ·show Act.put _ (some 50) _ = _
       simp only [Act.put, List.setIfInBounds_toArray, List.set_cons_zero, List.set_cons_succ, i64_w, i32_w]
       rfl
      refine pure_ (i := 4) (N := some 51) (v := ?_) (a' := ?_) (bz 5 31) rfl rfl (by kernel_rfl) (fun _ _ _ h => h) (Or.inl ⟨by rfl, ?_⟩) ?_ ?_
      rotate_left
      ·intro w'
       go_simp
       with_reducible rfl
      rotate_left
      ·simp only [Act.put, List.setIfInBounds_toArray, List.set_cons_zero, List.set_cons_succ, i64_w, i32_w]
       rfl
      refine done_ (by kernel_rfl) ?_
      try go_wp2
      go_ret
      exact ⟨eE, lU5 GE330.out GE331.out GE351.out GE357.out GE371.out⟩
end Go.Proofs.Ythgfobcckoedaaa.PFnExactStepCloud
namespace Go.Proofs.YthgfobcckoedaaaO
open Go.ChangeShapes Go.WideShapes Go.Proofs.YthgfobcckoedaaaW.PrintWords Go.RowKit
def In64 (n : Int) : Prop := -9223372036854775808 ≤ n ∧ n ≤ 9223372036854775807
def Opens {α : Type} (P : Program) (t : TypeId) (d : Kd α) (g : α → Prop) : Prop :=
  ∀ {H : Type} (enc : TypeId × Value → H) (w : World) (fuel : Nat) (cs : List Value) (y : DataW H) (ps : List MemPlace),
    DataW.trod enc P w 0 (fun _ => true) true fuel t cs = some (y, ps) → (∀ n ∈ y.weights P t, n ≤ reachBytes) → ∃ x, d.K w x cs ∧ g x
theorem Opens.imp {α : Type} {P : Program} {t : TypeId} {d : Kd α} {g g' : α → Prop} (h : Opens P t d g) (k : ∀ x, g x → g' x) : Opens P t d g' := by
  intro H enc w fuel cs y ps ht hw
  obtain ⟨x, hx, hg⟩ := h enc w fuel cs y ps ht hw
  exact ⟨x, hx, k x hg⟩
theorem opens_int {P : Program} {t : TypeId} {k : IntKind} (ht : P.underlying t = some (.int k)) : Opens P t (Kd.int k) (fun n => (Lit.int k n).wf = true) := by
  intro H enc w fuel cs y ps h _
  obtain ⟨n, rfl, _, hw⟩ := DataW.trod_int ht h
  exact ⟨n, rfl, hw⟩
theorem wf_i64 {n : Int} (h : (Lit.int .i64 n).wf = true) : In64 n := bounds_i64 h
theorem opens_i64 {P : Program} {t : TypeId} (ht : P.underlying t = some (.int .i64)) : Opens P t (Kd.int .i64) In64 := Opens.imp (opens_int ht) fun _ h => wf_i64 h
theorem exists_list {α : Type} (p : Nat → α → Prop) : ∀ n : Nat, (∀ i, i < n → ∃ x, p i x) → ∃ xs : List α, xs.length = n ∧ ∀ i x, xs[i]? = some x → p i x
  | 0, _ => ⟨[], rfl, fun i x h => by simp at h⟩
  | n + 1, h => by
    obtain ⟨xs, hl, hx⟩ := exists_list p n (fun i hi => h i (by omega))
    obtain ⟨x, hp⟩ := h n (by omega)
    refine ⟨xs ++ [x], by simp [hl], fun i y hy => ?_⟩
    rcases Nat.lt_or_ge i xs.length with hi | hi
    · rw [List.getElem?_append_left hi] at hy
      exact hx i y hy
    · have : i = n := by
        have := (List.getElem?_eq_some_iff.1 hy).1
        rw [List.length_append, List.length_singleton] at this
        omega
      subst this
      rw [List.getElem?_append_right hi] at hy
      rw [hl] at hy
      simp at hy
      subst hy
      exact hp
theorem add_add (ad : Addr) (i j : Nat) : (ad.add i).add j = ad.add (i + j) := by
  unfold Addr.add
  by_cases h1 : i = 0 <;> by_cases h2 : j = 0 <;> simp [h1, h2, Nat.add_assoc]
theorem weightsAll_mem {H : Type} {P : Program} {e : TypeId} : ∀ {l : List (DataW H)} {d : DataW H}, d ∈ l → ∀ n ∈ d.weights P e, n ∈ DataW.weightsAll P e l
  | [], d, h, _, _ => by simp at h
  | x :: r, d, h, n, hn => by
    simp only [DataW.weightsAll, List.mem_append]
    rcases List.mem_cons.1 h with rfl | h
    · exact .inl hn
    · exact .inr (weightsAll_mem h n hn)
theorem opens_slice {α : Type} {P : Program} {t e : TypeId} {d : Kd α} {g : α → Prop} {B : Nat} (ht : P.underlying t = some (.slice e)) (hs : P.cellsOf e = d.sz) (hB : P.bytesOf e = B) (h : Opens P e d g) :
    Opens P t (Kd.slice e d) (fun xs => xs.length * B ≤ 140737488351232 ∧ ∀ x ∈ xs, g x) := by
  intro H enc w fuel cs y ps hy hw
  rcases DataW.trod_slice ht hy with ⟨rfl, _⟩ | ⟨a, len, cap, elems, rest, n, rfl, rfl, hx, _, hlc, hcm, hel, hget, _, _⟩
  · exact ⟨[], ⟨none, 0, rfl, Nat.le_refl _, Kd.C_nil d w⟩, by simp⟩
  · obtain ⟨rfl, _⟩ := Prod.mk.inj hx
    simp only [DataW.weights, ht] at hw
    have hlen : len * B ≤ 140737488351232 := by
      have := hw _ List.mem_cons_self
      simp only [List.length_map, hB] at this
      have h2 : len * B ≤ (elems.length + rest.length) * B := Nat.mul_le_mul_right _ (by omega)
      exact Nat.le_trans h2 this
    have key : ∀ i, i < len → ∃ x, (∃ c, c.length = d.sz ∧ d.K w x c ∧ ∀ j u, c[j]? = some u → w.cell? (a.add (i * d.sz + j)) = some u) ∧ g x := by
      intro i hi
      have hg := hget i hi
      rw [List.getElem?_eq_getElem (by omega), Option.bind_eq_some_iff] at hg
      obtain ⟨c, hc, hd⟩ := hg
      obtain ⟨_, hcl, hcell⟩ := World.cells?_some hc
      obtain ⟨x, hK, hgx⟩ := h enc w n c _ _ hd (fun m hm => hw m (List.mem_cons_of_mem _ (List.mem_append_left _ (weightsAll_mem (List.mem_map_of_mem (List.getElem_mem _)) m hm))))
      refine ⟨x, ⟨c, hcl.trans hs, hK, fun j u hj => ?_⟩, hgx⟩
      have hjl : j < P.cellsOf e := by
        have := (List.getElem?_eq_some_iff.1 hj).1
        omega
      have := hcell j hjl
      rw [add_add, hj, hs] at this
      exact this
    obtain ⟨xs, hxl, hxs⟩ := exists_list _ len key
    refine ⟨xs, ⟨some a, cap, by rw [hxl], by omega, hxl ▸ ⟨hxl, by simp only [maxLen] at hcm; omega, fun _ => ⟨a, rfl, fun j p hp => (hxs j p hp).1⟩⟩⟩, by rw [hxl]; exact hlen, fun x hx => ?_⟩
    obtain ⟨i, hi, rfl⟩ := List.getElem_of_mem hx
    exact (hxs i _ (List.getElem?_eq_getElem hi)).2
theorem opens_iso {α β : Type} {P : Program} {t : TypeId} {d : Kd α} {g : α → Prop} (f : β → α) (inv : α → β) (hi : ∀ x, f (inv x) = x) (h : Opens P t d g) : Opens P t (Kd.iso d f) (fun x => g (f x)) := by
  intro H enc w fuel cs y ps hy hw
  obtain ⟨x, hK, hg⟩ := h enc w fuel cs y ps hy hw
  refine ⟨inv x, ?_, ?_⟩
  · show d.K w (f (inv x)) cs
    rw [hi]; exact hK
  · show g (f (inv x))
    rw [hi]; exact hg
def OpensL {α : Type} (P : Program) (fs : List Field) (off : Nat) (d : Kd α) (g : α → Prop) : Prop :=
  ∀ {H : Type} (enc : TypeId × Value → H) (w : World) (n : Nat) (cs : List Value) (ys : List (DataW H × List MemPlace)), ys.length = fs.length →
    (∀ (i : Nat) (f : Field), fs[i]? = some f → DataW.trod enc P w 0 (fun _ => true) true n f.type ((cs.drop f.offset).take (P.cellsOf f.type)) = ys[i]?) →
    (∀ m ∈ DataW.weightsEach P (fs.map (·.type)) (ys.map (·.1)), m ≤ reachBytes) → ∃ x, d.K w x ((cs.drop off).take d.sz) ∧ g x
theorem opensL_one {α : Type} {P : Program} {f : Field} {off : Nat} {d : Kd α} {g : α → Prop} (ho : f.offset = off) (hs : P.cellsOf f.type = d.sz) (h : Opens P f.type d g) : OpensL P [f] off d g := by
  intro H enc w n cs ys hl hf hw
  match ys, hl with
  | [y], _ =>
    have h0 := hf 0 f rfl
    rw [ho, hs] at h0
    exact h enc w n _ y.1 y.2 h0 (fun m hm => hw m (by simp only [List.map_cons, DataW.weightsEach, List.mem_append]; exact .inl hm))
theorem opensL_cons {α β : Type} {P : Program} {f : Field} {fs : List Field} {off : Nat} {a : Kd α} {b : Kd β} {ga : α → Prop} {gb : β → Prop} (ho : f.offset = off) (hs : P.cellsOf f.type = a.sz) (h : Opens P f.type a ga) (hr : OpensL P fs (off + a.sz) b gb) :
    OpensL P (f :: fs) off (Kd.pair a b) (fun x => ga x.1 ∧ gb x.2) := by
  intro H enc w n cs ys hl hf hw
  match ys, hl with
  | y :: ys, hl =>
    have h0 := hf 0 f rfl
    rw [ho, hs] at h0
    obtain ⟨x, hx, hgx⟩ := h enc w n _ y.1 y.2 h0 (fun m hm => hw m (by simp only [List.map_cons, DataW.weightsEach, List.mem_append]; exact .inl hm))
    obtain ⟨x', hx', hgx'⟩ := hr enc w n cs ys (by simpa using hl) (fun i f' hf' => by have := hf (i + 1) f' (by simpa using hf'); simpa using this) (fun m hm => hw m (by simp only [List.map_cons, DataW.weightsEach, List.mem_append]; exact .inr hm))
    refine ⟨(x, x'), ⟨_, _, ?_, hx, hx'⟩, hgx, hgx'⟩
    show (cs.drop off).take (a.sz + b.sz) = _
    rw [List.take_add, List.drop_drop]
theorem opens_struct {α : Type} {P : Program} {t : TypeId} {fs : Array Field} {d : Kd α} {g : α → Prop} (ht : P.underlying t = some (.struct fs)) (hs : P.cellsOf t = d.sz) (h : OpensL P fs.toList 0 d g) : Opens P t d g := by
  intro H enc w fuel cs y ps hy hw
  obtain ⟨xs, n, rfl, hx, hl, hxl, hget⟩ := DataW.trod_struct ht hy
  obtain ⟨rfl, _⟩ := Prod.mk.inj hx
  simp only [DataW.weights, ht] at hw
  obtain ⟨x, hK, hg⟩ := h enc w n cs xs (by simpa using hxl) (fun i f hf => hget i f (by simpa using hf)) (by simpa using hw)
  rw [List.drop_zero, List.take_of_length_le (by omega)] at hK
  exact ⟨x, hK, hg⟩
theorem weights_of {H : Type} {P : Program} {ts : List TypeId} {ds : List (DataW H)} {j : Nat} {t : TypeId} {d : DataW H} (hsz : (DataW.weightsEach P ts ds).all (· ≤ reachBytes) = true) (ht : ts[j]? = some t) (hd : ds[j]? = some d) : ∀ n ∈ d.weights P t, n ≤ reachBytes := by
  intro n hn
  have := List.all_eq_true.1 hsz n (DataW.weights_mem_each ht hd n hn)
  simpa using this
theorem open_agg {α H : Type} {enc : TypeId × Value → H} {P : Program} {W : World} {t : TypeId} {d : Kd α} {g : α → Prop} {cs : Array Value} {y : DataW H} {ps : List MemPlace} (h : Opens P t d g)
    (hy : DataW.Trod enc P W 0 (fun _ => true) true t (.agg cs) y ps) (hw : ∀ n ∈ y.weights P t, n ≤ reachBytes) : ∃ x : α, d.K W x cs.toList ∧ g x := by
  obtain ⟨fuel, hf⟩ := hy
  exact h enc W fuel _ y ps (by simpa [Value.cells] using hf) hw
end Go.Proofs.YthgfobcckoedaaaO
namespace Go.Proofs.Ythgfobcckoedaaa.OFnExactStepCloud
open Go.RowKit Go.Proofs.Ythgfobcckoedaaa.PFnExactStepCloud Go.Proofs.YthgfobcckoedaaaW.PrintWords Go.Proofs.YthgfobcckoedaaaO
def Ok68 (x : S68) : Prop := (In64 x.f0) ∧ (In64 x.f1) ∧ (In64 x.f2) ∧ (In64 x.f3) ∧ (In64 x.f4)
theorem opens68 : Opens Try.prog 68 k68 Ok68 :=
  Opens.imp (opens_iso _ (fun x => (⟨x.1, x.2.1, x.2.2.1, x.2.2.2.1, x.2.2.2.2⟩ : S68)) (fun _ => rfl) (opens_struct Try.underlying68 (by kernel_rfl) (opensL_cons rfl (by kernel_rfl) (opens_i64 Try.underlying3) (opensL_cons rfl (by kernel_rfl) (opens_i64 Try.underlying3) (opensL_cons rfl (by kernel_rfl) (opens_i64 Try.underlying3) (opensL_cons rfl (by kernel_rfl) (opens_i64 Try.underlying3) (opensL_one rfl (by kernel_rfl) (opens_i64 Try.underlying3)))))))) fun x h => by
    obtain ⟨h0, h1, h2, h3, h4⟩ := h
    exact ⟨h0, h1, h2, h3, h4⟩
end Go.Proofs.Ythgfobcckoedaaa.OFnExactStepCloud
