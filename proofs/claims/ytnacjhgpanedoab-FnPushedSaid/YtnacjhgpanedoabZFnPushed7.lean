/- Texts of a row. -/
import Derived.Test.YtnacjhgpanedoabZFnPushed3
import Derived.Test.YtnacjhgpanedoabZFnPushed4
import Derived.Test.YtnacjhgpanedoabZFnPushed5
import Derived.Test.YtnacjhgpanedoabZFnPushed6
import Derived.Test.YtnacjhgpanedoabZFnPushed0
import Derived.SizedLaws
import Derived.ChangeArms
import Derived.OpenShut
import Derived.WideShapes
import Derived.WalkKit
import Derived.KernelRfl
import Derived.Laws.BitsLemmas
namespace Go.Proofs.Ytnacjhgpanedoab.PFnPushed
open Go.RowKit Go.Proofs.YtnacjhgpanedoabW.PrintWords Go.Proofs.YtnacjhgpanedoabW.PrintLast Go.Proofs.YtnacjhgpanedoabW.PrintMore
attribute [local go_sem] max2_int min2_int max_two min_two max_three min_three max_four min_four   -- for this text's walks alone
set_option linter.unusedVariables false
set_option linter.unusedSimpArgs false
attribute [local go_sem high] eqA33
mutual
def laws_FnPushed.j4 : Nat → List Int → Option (Bool)
 | 0, _ => none
 | k + 1, x1 => (spec_DrawStepIslands.f k x1).bind fun bt466 => ((impl_StepIslands.f k bt466.1 bt466.2.1 bt466.2.2.1 bt466.2.2.2).bind fun bt472 => (if bt472.2 = true then (laws_FnPushed.l2 k bt466.2.1 bt466.2.2.1 bt466.2.2.2 bt472.1 bt466.1 (bt466.1.length : Int) 0) else (some ((bt472.1.length : Int) == 0))))
def laws_FnPushed.l2 : Nat → Int → Int → Int → List (List (S33)) → List (List (S33)) → Int → Int → Option (Bool)
 | 0, _, _, _, _, _, _, _ => none
 | k + 1, x26, x27, x28, x29, x210, x211, x212 => if x212 < x211 then (if 0 ≤ x212 then (if x212 < (x210.length : Int) then ((impl_StepLine.f k (rd_L3 x210 x212) x26 x27 x28).bind fun bt477 => (if bt477.2 = true then (if x212 < (x29.length : Int) then (laws_FnPushed.j6 k x26 x27 x28 x29 x212 bt477.1 x210 x211 x212 ((bt477.1.length : Int) != ((rd_L3 x29 x212).length : Int))) else (none)) else (laws_FnPushed.j6 k x26 x27 x28 x29 x212 bt477.1 x210 x211 x212 true))) else (none)) else (none)) else (some true)
def laws_FnPushed.j6 : Nat → Int → Int → Int → List (List (S33)) → Int → List (S33) → List (List (S33)) → Int → Int → Bool → Option (Bool)
 | 0, _, _, _, _, _, _, _, _, _, _ => none
 | k + 1, x26, x27, x28, x29, x31, x33, x210, x211, x212, x236 => if x236 = true then (some false) else (laws_FnPushed.l3 k x26 x27 x28 x29 x31 x33 x210 x211 x212 (x33.length : Int) 0)
def laws_FnPushed.l3 : Nat → Int → Int → Int → List (List (S33)) → Int → List (S33) → List (List (S33)) → Int → Int → Int → Int → Option (Bool)
 | 0, _, _, _, _, _, _, _, _, _, _, _ => none
 | k + 1, x26, x27, x28, x29, x31, x33, x210, x211, x212, x238, x239 => if x239 < x238 then (if 0 ≤ x239 then (if x239 < (x33.length : Int) then (if 0 ≤ x31 then (if x31 < (x29.length : Int) then (if x239 < ((rd_L3 x29 x31).length : Int) then (if (!(((rd_T33 x33 x239).f0) == ((rd_T33 (rd_L3 x29 x31) x239).f0)) || (!(((rd_T33 x33 x239).f1) == ((rd_T33 (rd_L3 x29 x31) x239).f1)) || (!(((rd_T33 x33 x239).f2) == ((rd_T33 (rd_L3 x29 x31) x239).f2)) || (!(((rd_T33 x33 x239).f3) == ((rd_T33 (rd_L3 x29 x31) x239).f3)))))) = true then (some false) else (laws_FnPushed.l3 k x26 x27 x28 x29 x31 x33 x210 x211 x212 x238 (wrap64 (x239 + 1)))) else (none)) else (none)) else (none)) else (none)) else (none)) else (laws_FnPushed.l2 k x26 x27 x28 x29 x210 x211 (wrap64 (x212 + 1)))
def laws_FnPushed.l0 : Nat → List Int → Int → List (S33) → Bool → Bool → Bool → List (S33) → Int → Int → Int → Int → Int → Int → Int → Int → Option (Bool)
 | 0, _, _, _, _, _, _, _, _, _, _, _, _, _, _, _ => none
 | k + 1, x1, x7, x8, x13, x15, x16, x76, x77, x78, x444000, x444001, x444002, x449000, x449001, x449002 => if x78 < x77 then (if 0 ≤ x78 then (if x78 < (x76.length : Int) then (if x16 = true then (laws_FnPushed.l0 k x1 x7 x8 x13 x15 true x76 x77 (wrap64 (x78 + 1)) x444000 x444001 x444002 x449000 x449001 x449002) else (laws_FnPushed.l0 k x1 x7 x8 x13 x15 (((rd_T33 x76 x78).f2) == 0) x76 x77 (wrap64 (x78 + 1)) x444000 x444001 x444002 x449000 x449001 x449002)) else (none)) else (none)) else (if x13 = true then (if x15 = true then (if x444002 < 1 then (laws_FnPushed.j1 k x1 x7 x8 true x444000 x444001 x444002 x449000 x449001 x449002) else (if x449002 < 1 then (laws_FnPushed.j1 k x1 x7 x8 true x444000 x444001 x444002 x449000 x449001 x449002) else (if x16 = true then (laws_FnPushed.j1 k x1 x7 x8 false x444000 x444001 x444002 x449000 x449001 x449002) else (laws_FnPushed.j1 k x1 x7 x8 (x444000 != x449000) x444000 x444001 x444002 x449000 x449001 x449002)))) else (laws_FnPushed.j1 k x1 x7 x8 true x444000 x444001 x444002 x449000 x449001 x449002)) else (laws_FnPushed.j1 k x1 x7 x8 true x444000 x444001 x444002 x449000 x449001 x449002))
def laws_FnPushed.j1 : Nat → List Int → Int → List (S33) → Bool → Int → Int → Int → Int → Int → Int → Option (Bool)
 | 0, _, _, _, _, _, _, _, _, _, _ => none
 | k + 1, x1, x7, x8, x115, x444000, x444001, x444002, x449000, x449001, x449002 => if x115 = true then (some false) else (if x449002 = 0 then (none) else (if x444002 = 0 then (none) else (if (wrap64 (x449001 * (wrap64 (Int.tdiv (55440 : Int) x449002)))) > (wrap64 (x444001 * (wrap64 (Int.tdiv (55440 : Int) x444002)))) then (some false) else ((impl_MoveLine.f k x8 x7).bind fun bt451 => ((spec_MoveLine.f k x8 x7).bind fun bt455 => (if (bt451.2 != bt455.2) = true then (some false) else (laws_FnPushed.l1 k x1 x8 bt451.1 bt451.1 (bt451.1.length : Int) 0)))))))
def laws_FnPushed.l1 : Nat → List Int → List (S33) → List (S33) → List (S33) → Int → Int → Option (Bool)
 | 0, _, _, _, _, _, _ => none
 | k + 1, x1, x8, x19, x144, x145, x146 => if x146 < x145 then (if 0 ≤ x146 then (if x146 < (x144.length : Int) then (if ((rd_T33 x144 x146).f2) = 0 then (if x146 < (x8.length : Int) then (if ((rd_T33 x144 x146).f0) = ((rd_T33 x8 x146).f0) then (if x146 > 0 then (if 0 ≤ (wrap64 (x146 - 1)) then (if (wrap64 (x146 - 1)) < (x19.length : Int) then (laws_FnPushed.j3 k x1 x8 x19 x144 x145 x146 (decide ((wrap64 (((rd_T33 x19 (wrap64 (x146 - 1))).f0) + ((rd_T33 x19 (wrap64 (x146 - 1))).f3))) > (wrap64 (((rd_T33 x144 x146).f0) - ((rd_T33 x144 x146).f3)))))) else (none)) else (none)) else (laws_FnPushed.j3 k x1 x8 x19 x144 x145 x146 false)) else (laws_FnPushed.j3 k x1 x8 x19 x144 x145 x146 true)) else (none)) else (if x146 > 0 then (if 0 ≤ (wrap64 (x146 - 1)) then (if (wrap64 (x146 - 1)) < (x19.length : Int) then (laws_FnPushed.j3 k x1 x8 x19 x144 x145 x146 (decide ((wrap64 (((rd_T33 x19 (wrap64 (x146 - 1))).f0) + ((rd_T33 x19 (wrap64 (x146 - 1))).f3))) > (wrap64 (((rd_T33 x144 x146).f0) - ((rd_T33 x144 x146).f3)))))) else (none)) else (none)) else (laws_FnPushed.j3 k x1 x8 x19 x144 x145 x146 false))) else (none)) else (none)) else (laws_FnPushed.j4 k x1)
def laws_FnPushed.j3 : Nat → List Int → List (S33) → List (S33) → List (S33) → Int → Int → Bool → Option (Bool)
 | 0, _, _, _, _, _, _, _ => none
 | k + 1, x1, x8, x19, x144, x145, x146, x188 => if x188 = true then (some false) else (laws_FnPushed.l1 k x1 x8 x19 x144 x145 (wrap64 (x146 + 1)))
end
def laws_FnPushed.f (k : Nat) (l0 : List Int) (l1 : List Int) : Option (Bool) := if (wrap64 ((l0.length : Int) + (l1.length : Int))) > 1048576 then (some true) else ((spec_DrawPushLine.f k l0).bind fun bt426 => ((impl_PushLine.f k bt426.1 bt426.2.1 bt426.2.2).bind fun bt431 => ((spec_PushLine.f k bt426.1 bt426.2.1 bt426.2.2).bind fun bt435 => (if (bt431.2 != bt435.2) = true then (some false) else (if bt431.2 = true then ((impl_BookOf.f k bt426.1).bind fun bt439 => ((impl_BookOf.f k bt431.1).bind fun bt444 => (laws_FnPushed.l0 k l1 bt426.2.2 bt431.1 bt439.2.2.2 bt444.2.2.2 false bt426.1 (bt426.1.length : Int) 0 bt439.1 bt439.2.1 bt439.2.2.1 bt444.1 bt444.2.1 bt444.2.2.1))) else (laws_FnPushed.j4 k l1))))))
theorem laws_FnPushed.mono_l : ∀ k, (∀ y0, LeO (laws_FnPushed.j4 k y0) (laws_FnPushed.j4 (k + 1) y0)) ∧ (∀ y0 y1 y2 y3 y4 y5 y6, LeO (laws_FnPushed.l2 k y0 y1 y2 y3 y4 y5 y6) (laws_FnPushed.l2 (k + 1) y0 y1 y2 y3 y4 y5 y6)) ∧ (∀ y0 y1 y2 y3 y4 y5 y6 y7 y8 y9, LeO (laws_FnPushed.j6 k y0 y1 y2 y3 y4 y5 y6 y7 y8 y9) (laws_FnPushed.j6 (k + 1) y0 y1 y2 y3 y4 y5 y6 y7 y8 y9)) ∧ (∀ y0 y1 y2 y3 y4 y5 y6 y7 y8 y9 y10, LeO (laws_FnPushed.l3 k y0 y1 y2 y3 y4 y5 y6 y7 y8 y9 y10) (laws_FnPushed.l3 (k + 1) y0 y1 y2 y3 y4 y5 y6 y7 y8 y9 y10)) ∧ (∀ y0 y1 y2 y3 y4 y5 y6 y7 y8 y9 y10 y11 y12 y13 y14, LeO (laws_FnPushed.l0 k y0 y1 y2 y3 y4 y5 y6 y7 y8 y9 y10 y11 y12 y13 y14) (laws_FnPushed.l0 (k + 1) y0 y1 y2 y3 y4 y5 y6 y7 y8 y9 y10 y11 y12 y13 y14)) ∧ (∀ y0 y1 y2 y3 y4 y5 y6 y7 y8 y9, LeO (laws_FnPushed.j1 k y0 y1 y2 y3 y4 y5 y6 y7 y8 y9) (laws_FnPushed.j1 (k + 1) y0 y1 y2 y3 y4 y5 y6 y7 y8 y9)) ∧ (∀ y0 y1 y2 y3 y4 y5, LeO (laws_FnPushed.l1 k y0 y1 y2 y3 y4 y5) (laws_FnPushed.l1 (k + 1) y0 y1 y2 y3 y4 y5)) ∧ (∀ y0 y1 y2 y3 y4 y5 y6, LeO (laws_FnPushed.j3 k y0 y1 y2 y3 y4 y5 y6) (laws_FnPushed.j3 (k + 1) y0 y1 y2 y3 y4 y5 y6))
 | 0 => ⟨fun _ r h => by simp [laws_FnPushed.j4] at h, fun _ _ _ _ _ _ _ r h => by simp [laws_FnPushed.l2] at h, fun _ _ _ _ _ _ _ _ _ _ r h => by simp [laws_FnPushed.j6] at h, fun _ _ _ _ _ _ _ _ _ _ _ r h => by simp [laws_FnPushed.l3] at h, fun _ _ _ _ _ _ _ _ _ _ _ _ _ _ _ r h => by simp [laws_FnPushed.l0] at h, fun _ _ _ _ _ _ _ _ _ _ r h => by simp [laws_FnPushed.j1] at h, fun _ _ _ _ _ _ r h => by simp [laws_FnPushed.l1] at h, fun _ _ _ _ _ _ _ r h => by simp [laws_FnPushed.j3] at h⟩
 | k + 1 => by
  obtain ⟨ih0, ih1, ih2, ih3, ih4, ih5, ih6, ih7⟩ := laws_FnPushed.mono_l k
  refine ⟨?_, ?_, ?_, ?_, ?_, ?_, ?_, ?_⟩
  ·intro y0
   unfold laws_FnPushed.j4
   repeat' first
   | (with_reducible exact ih0 _)
   | (with_reducible exact ih1 _ _ _ _ _ _ _)
   | (with_reducible exact ih2 _ _ _ _ _ _ _ _ _ _)
   | (with_reducible exact ih3 _ _ _ _ _ _ _ _ _ _ _)
   | (with_reducible exact ih4 _ _ _ _ _ _ _ _ _ _ _ _ _ _ _)
   | (with_reducible exact ih5 _ _ _ _ _ _ _ _ _ _)
   | (with_reducible exact ih6 _ _ _ _ _ _)
   | (with_reducible exact ih7 _ _ _ _ _ _ _)
   | (with_reducible exact impl_BookOf.mono _ _)
   | (with_reducible exact impl_MoveLine.mono _ _ _)
   | (with_reducible exact impl_PushLine.mono _ _ _ _)
   | (with_reducible exact impl_StepIslands.mono _ _ _ _ _)
   | (with_reducible exact impl_StepLine.mono _ _ _ _ _)
   | (with_reducible exact spec_DrawPushLine.mono _ _)
   | (with_reducible exact spec_DrawStepIslands.mono _ _)
   | (with_reducible exact spec_MoveLine.mono _ _ _)
   | (with_reducible exact spec_PushLine.mono _ _ _ _)
   | (with_reducible first | exact LeO.refl _ | exact LeO.none _ | refine LeO.ite ?_ ?_ | refine LeO.bind ?_ (fun _ => ?_))
   | exact ih0 _
   | exact ih1 _ _ _ _ _ _ _
   | exact ih2 _ _ _ _ _ _ _ _ _ _
   | exact ih3 _ _ _ _ _ _ _ _ _ _ _
   | exact ih4 _ _ _ _ _ _ _ _ _ _ _ _ _ _ _
   | exact ih5 _ _ _ _ _ _ _ _ _ _
   | exact ih6 _ _ _ _ _ _
   | exact ih7 _ _ _ _ _ _ _
   | exact impl_BookOf.mono _ _
   | exact impl_MoveLine.mono _ _ _
   | exact impl_PushLine.mono _ _ _ _
   | exact impl_StepIslands.mono _ _ _ _ _
   | exact impl_StepLine.mono _ _ _ _ _
   | exact spec_DrawPushLine.mono _ _
   | exact spec_DrawStepIslands.mono _ _
   | exact spec_MoveLine.mono _ _ _
   | exact spec_PushLine.mono _ _ _ _ | exact LeO.none _ | refine LeO.ite ?_ ?_ | refine LeO.bind ?_ (fun _ => ?_)
  ·intro y0 y1 y2 y3 y4 y5 y6
   unfold laws_FnPushed.l2
   repeat' first
   | (with_reducible exact ih0 _)
   | (with_reducible exact ih1 _ _ _ _ _ _ _)
   | (with_reducible exact ih2 _ _ _ _ _ _ _ _ _ _)
   | (with_reducible exact ih3 _ _ _ _ _ _ _ _ _ _ _)
   | (with_reducible exact ih4 _ _ _ _ _ _ _ _ _ _ _ _ _ _ _)
   | (with_reducible exact ih5 _ _ _ _ _ _ _ _ _ _)
   | (with_reducible exact ih6 _ _ _ _ _ _)
   | (with_reducible exact ih7 _ _ _ _ _ _ _)
   | (with_reducible exact impl_BookOf.mono _ _)
   | (with_reducible exact impl_MoveLine.mono _ _ _)
   | (with_reducible exact impl_PushLine.mono _ _ _ _)
   | (with_reducible exact impl_StepIslands.mono _ _ _ _ _)
   | (with_reducible exact impl_StepLine.mono _ _ _ _ _)
   | (with_reducible exact spec_DrawPushLine.mono _ _)
   | (with_reducible exact spec_DrawStepIslands.mono _ _)
   | (with_reducible exact spec_MoveLine.mono _ _ _)
   | (with_reducible exact spec_PushLine.mono _ _ _ _)
   | (with_reducible first | exact LeO.refl _ | exact LeO.none _ | refine LeO.ite ?_ ?_ | refine LeO.bind ?_ (fun _ => ?_))
   | exact ih0 _
   | exact ih1 _ _ _ _ _ _ _
   | exact ih2 _ _ _ _ _ _ _ _ _ _
   | exact ih3 _ _ _ _ _ _ _ _ _ _ _
   | exact ih4 _ _ _ _ _ _ _ _ _ _ _ _ _ _ _
   | exact ih5 _ _ _ _ _ _ _ _ _ _
   | exact ih6 _ _ _ _ _ _
   | exact ih7 _ _ _ _ _ _ _
   | exact impl_BookOf.mono _ _
   | exact impl_MoveLine.mono _ _ _
   | exact impl_PushLine.mono _ _ _ _
   | exact impl_StepIslands.mono _ _ _ _ _
   | exact impl_StepLine.mono _ _ _ _ _
   | exact spec_DrawPushLine.mono _ _
   | exact spec_DrawStepIslands.mono _ _
   | exact spec_MoveLine.mono _ _ _
   | exact spec_PushLine.mono _ _ _ _ | exact LeO.none _ | refine LeO.ite ?_ ?_ | refine LeO.bind ?_ (fun _ => ?_)
  ·intro y0 y1 y2 y3 y4 y5 y6 y7 y8 y9
   unfold laws_FnPushed.j6
   repeat' first
   | (with_reducible exact ih0 _)
   | (with_reducible exact ih1 _ _ _ _ _ _ _)
   | (with_reducible exact ih2 _ _ _ _ _ _ _ _ _ _)
   | (with_reducible exact ih3 _ _ _ _ _ _ _ _ _ _ _)
   | (with_reducible exact ih4 _ _ _ _ _ _ _ _ _ _ _ _ _ _ _)
   | (with_reducible exact ih5 _ _ _ _ _ _ _ _ _ _)
   | (with_reducible exact ih6 _ _ _ _ _ _)
   | (with_reducible exact ih7 _ _ _ _ _ _ _)
   | (with_reducible exact impl_BookOf.mono _ _)
   | (with_reducible exact impl_MoveLine.mono _ _ _)
   | (with_reducible exact impl_PushLine.mono _ _ _ _)
   | (with_reducible exact impl_StepIslands.mono _ _ _ _ _)
   | (with_reducible exact impl_StepLine.mono _ _ _ _ _)
   | (with_reducible exact spec_DrawPushLine.mono _ _)
   | (with_reducible exact spec_DrawStepIslands.mono _ _)
   | (with_reducible exact spec_MoveLine.mono _ _ _)
   | (with_reducible exact spec_PushLine.mono _ _ _ _)
   | (with_reducible first | exact LeO.refl _ | exact LeO.none _ | refine LeO.ite ?_ ?_ | refine LeO.bind ?_ (fun _ => ?_))
   | exact ih0 _
   | exact ih1 _ _ _ _ _ _ _
   | exact ih2 _ _ _ _ _ _ _ _ _ _
   | exact ih3 _ _ _ _ _ _ _ _ _ _ _
   | exact ih4 _ _ _ _ _ _ _ _ _ _ _ _ _ _ _
   | exact ih5 _ _ _ _ _ _ _ _ _ _
   | exact ih6 _ _ _ _ _ _
   | exact ih7 _ _ _ _ _ _ _
   | exact impl_BookOf.mono _ _
   | exact impl_MoveLine.mono _ _ _
   | exact impl_PushLine.mono _ _ _ _
   | exact impl_StepIslands.mono _ _ _ _ _
   | exact impl_StepLine.mono _ _ _ _ _
   | exact spec_DrawPushLine.mono _ _
   | exact spec_DrawStepIslands.mono _ _
   | exact spec_MoveLine.mono _ _ _
   | exact spec_PushLine.mono _ _ _ _ | exact LeO.none _ | refine LeO.ite ?_ ?_ | refine LeO.bind ?_ (fun _ => ?_)
  ·intro y0 y1 y2 y3 y4 y5 y6 y7 y8 y9 y10
   unfold laws_FnPushed.l3
   repeat' first
   | (with_reducible exact ih0 _)
   | (with_reducible exact ih1 _ _ _ _ _ _ _)
   | (with_reducible exact ih2 _ _ _ _ _ _ _ _ _ _)
   | (with_reducible exact ih3 _ _ _ _ _ _ _ _ _ _ _)
   | (with_reducible exact ih4 _ _ _ _ _ _ _ _ _ _ _ _ _ _ _)
   | (with_reducible exact ih5 _ _ _ _ _ _ _ _ _ _)
   | (with_reducible exact ih6 _ _ _ _ _ _)
   | (with_reducible exact ih7 _ _ _ _ _ _ _)
   | (with_reducible exact impl_BookOf.mono _ _)
   | (with_reducible exact impl_MoveLine.mono _ _ _)
   | (with_reducible exact impl_PushLine.mono _ _ _ _)
   | (with_reducible exact impl_StepIslands.mono _ _ _ _ _)
   | (with_reducible exact impl_StepLine.mono _ _ _ _ _)
   | (with_reducible exact spec_DrawPushLine.mono _ _)
   | (with_reducible exact spec_DrawStepIslands.mono _ _)
   | (with_reducible exact spec_MoveLine.mono _ _ _)
   | (with_reducible exact spec_PushLine.mono _ _ _ _)
   | (with_reducible first | exact LeO.refl _ | exact LeO.none _ | refine LeO.ite ?_ ?_ | refine LeO.bind ?_ (fun _ => ?_))
   | exact ih0 _
   | exact ih1 _ _ _ _ _ _ _
   | exact ih2 _ _ _ _ _ _ _ _ _ _
   | exact ih3 _ _ _ _ _ _ _ _ _ _ _
   | exact ih4 _ _ _ _ _ _ _ _ _ _ _ _ _ _ _
   | exact ih5 _ _ _ _ _ _ _ _ _ _
   | exact ih6 _ _ _ _ _ _
   | exact ih7 _ _ _ _ _ _ _
   | exact impl_BookOf.mono _ _
   | exact impl_MoveLine.mono _ _ _
   | exact impl_PushLine.mono _ _ _ _
   | exact impl_StepIslands.mono _ _ _ _ _
   | exact impl_StepLine.mono _ _ _ _ _
   | exact spec_DrawPushLine.mono _ _
   | exact spec_DrawStepIslands.mono _ _
   | exact spec_MoveLine.mono _ _ _
   | exact spec_PushLine.mono _ _ _ _ | exact LeO.none _ | refine LeO.ite ?_ ?_ | refine LeO.bind ?_ (fun _ => ?_)
  ·intro y0 y1 y2 y3 y4 y5 y6 y7 y8 y9 y10 y11 y12 y13 y14
   unfold laws_FnPushed.l0
   repeat' first
   | (with_reducible exact ih0 _)
   | (with_reducible exact ih1 _ _ _ _ _ _ _)
   | (with_reducible exact ih2 _ _ _ _ _ _ _ _ _ _)
   | (with_reducible exact ih3 _ _ _ _ _ _ _ _ _ _ _)
   | (with_reducible exact ih4 _ _ _ _ _ _ _ _ _ _ _ _ _ _ _)
   | (with_reducible exact ih5 _ _ _ _ _ _ _ _ _ _)
   | (with_reducible exact ih6 _ _ _ _ _ _)
   | (with_reducible exact ih7 _ _ _ _ _ _ _)
   | (with_reducible exact impl_BookOf.mono _ _)
   | (with_reducible exact impl_MoveLine.mono _ _ _)
   | (with_reducible exact impl_PushLine.mono _ _ _ _)
   | (with_reducible exact impl_StepIslands.mono _ _ _ _ _)
   | (with_reducible exact impl_StepLine.mono _ _ _ _ _)
   | (with_reducible exact spec_DrawPushLine.mono _ _)
   | (with_reducible exact spec_DrawStepIslands.mono _ _)
   | (with_reducible exact spec_MoveLine.mono _ _ _)
   | (with_reducible exact spec_PushLine.mono _ _ _ _)
   | (with_reducible first | exact LeO.refl _ | exact LeO.none _ | refine LeO.ite ?_ ?_ | refine LeO.bind ?_ (fun _ => ?_))
   | exact ih0 _
   | exact ih1 _ _ _ _ _ _ _
   | exact ih2 _ _ _ _ _ _ _ _ _ _
   | exact ih3 _ _ _ _ _ _ _ _ _ _ _
   | exact ih4 _ _ _ _ _ _ _ _ _ _ _ _ _ _ _
   | exact ih5 _ _ _ _ _ _ _ _ _ _
   | exact ih6 _ _ _ _ _ _
   | exact ih7 _ _ _ _ _ _ _
   | exact impl_BookOf.mono _ _
   | exact impl_MoveLine.mono _ _ _
   | exact impl_PushLine.mono _ _ _ _
   | exact impl_StepIslands.mono _ _ _ _ _
   | exact impl_StepLine.mono _ _ _ _ _
   | exact spec_DrawPushLine.mono _ _
   | exact spec_DrawStepIslands.mono _ _
   | exact spec_MoveLine.mono _ _ _
   | exact spec_PushLine.mono _ _ _ _ | exact LeO.none _ | refine LeO.ite ?_ ?_ | refine LeO.bind ?_ (fun _ => ?_)
  ·intro y0 y1 y2 y3 y4 y5 y6 y7 y8 y9
   unfold laws_FnPushed.j1
   repeat' first
   | (with_reducible exact ih0 _)
   | (with_reducible exact ih1 _ _ _ _ _ _ _)
   | (with_reducible exact ih2 _ _ _ _ _ _ _ _ _ _)
   | (with_reducible exact ih3 _ _ _ _ _ _ _ _ _ _ _)
   | (with_reducible exact ih4 _ _ _ _ _ _ _ _ _ _ _ _ _ _ _)
   | (with_reducible exact ih5 _ _ _ _ _ _ _ _ _ _)
   | (with_reducible exact ih6 _ _ _ _ _ _)
   | (with_reducible exact ih7 _ _ _ _ _ _ _)
   | (with_reducible exact impl_BookOf.mono _ _)
   | (with_reducible exact impl_MoveLine.mono _ _ _)
   | (with_reducible exact impl_PushLine.mono _ _ _ _)
   | (with_reducible exact impl_StepIslands.mono _ _ _ _ _)
   | (with_reducible exact impl_StepLine.mono _ _ _ _ _)
   | (with_reducible exact spec_DrawPushLine.mono _ _)
   | (with_reducible exact spec_DrawStepIslands.mono _ _)
   | (with_reducible exact spec_MoveLine.mono _ _ _)
   | (with_reducible exact spec_PushLine.mono _ _ _ _)
   | (with_reducible first | exact LeO.refl _ | exact LeO.none _ | refine LeO.ite ?_ ?_ | refine LeO.bind ?_ (fun _ => ?_))
   | exact ih0 _
   | exact ih1 _ _ _ _ _ _ _
   | exact ih2 _ _ _ _ _ _ _ _ _ _
   | exact ih3 _ _ _ _ _ _ _ _ _ _ _
   | exact ih4 _ _ _ _ _ _ _ _ _ _ _ _ _ _ _
   | exact ih5 _ _ _ _ _ _ _ _ _ _
   | exact ih6 _ _ _ _ _ _
   | exact ih7 _ _ _ _ _ _ _
   | exact impl_BookOf.mono _ _
   | exact impl_MoveLine.mono _ _ _
   | exact impl_PushLine.mono _ _ _ _
   | exact impl_StepIslands.mono _ _ _ _ _
   | exact impl_StepLine.mono _ _ _ _ _
   | exact spec_DrawPushLine.mono _ _
   | exact spec_DrawStepIslands.mono _ _
   | exact spec_MoveLine.mono _ _ _
   | exact spec_PushLine.mono _ _ _ _ | exact LeO.none _ | refine LeO.ite ?_ ?_ | refine LeO.bind ?_ (fun _ => ?_)
  ·intro y0 y1 y2 y3 y4 y5
   unfold laws_FnPushed.l1
   repeat' first
   | (with_reducible exact ih0 _)
   | (with_reducible exact ih1 _ _ _ _ _ _ _)
   | (with_reducible exact ih2 _ _ _ _ _ _ _ _ _ _)
   | (with_reducible exact ih3 _ _ _ _ _ _ _ _ _ _ _)
   | (with_reducible exact ih4 _ _ _ _ _ _ _ _ _ _ _ _ _ _ _)
   | (with_reducible exact ih5 _ _ _ _ _ _ _ _ _ _)
   | (with_reducible exact ih6 _ _ _ _ _ _)
   | (with_reducible exact ih7 _ _ _ _ _ _ _)
   | (with_reducible exact impl_BookOf.mono _ _)
   | (with_reducible exact impl_MoveLine.mono _ _ _)
   | (with_reducible exact impl_PushLine.mono _ _ _ _)
   | (with_reducible exact impl_StepIslands.mono _ _ _ _ _)
   | (with_reducible exact impl_StepLine.mono _ _ _ _ _)
   | (with_reducible exact spec_DrawPushLine.mono _ _)
   | (with_reducible exact spec_DrawStepIslands.mono _ _)
   | (with_reducible exact spec_MoveLine.mono _ _ _)
   | (with_reducible exact spec_PushLine.mono _ _ _ _)
   | (with_reducible first | exact LeO.refl _ | exact LeO.none _ | refine LeO.ite ?_ ?_ | refine LeO.bind ?_ (fun _ => ?_))
   | exact ih0 _
   | exact ih1 _ _ _ _ _ _ _
   | exact ih2 _ _ _ _ _ _ _ _ _ _
   | exact ih3 _ _ _ _ _ _ _ _ _ _ _
   | exact ih4 _ _ _ _ _ _ _ _ _ _ _ _ _ _ _
   | exact ih5 _ _ _ _ _ _ _ _ _ _
   | exact ih6 _ _ _ _ _ _
   | exact ih7 _ _ _ _ _ _ _
   | exact impl_BookOf.mono _ _
   | exact impl_MoveLine.mono _ _ _
   | exact impl_PushLine.mono _ _ _ _
   | exact impl_StepIslands.mono _ _ _ _ _
   | exact impl_StepLine.mono _ _ _ _ _
   | exact spec_DrawPushLine.mono _ _
   | exact spec_DrawStepIslands.mono _ _
   | exact spec_MoveLine.mono _ _ _
   | exact spec_PushLine.mono _ _ _ _ | exact LeO.none _ | refine LeO.ite ?_ ?_ | refine LeO.bind ?_ (fun _ => ?_)
  ·intro y0 y1 y2 y3 y4 y5 y6
   unfold laws_FnPushed.j3
   repeat' first
   | (with_reducible exact ih0 _)
   | (with_reducible exact ih1 _ _ _ _ _ _ _)
   | (with_reducible exact ih2 _ _ _ _ _ _ _ _ _ _)
   | (with_reducible exact ih3 _ _ _ _ _ _ _ _ _ _ _)
   | (with_reducible exact ih4 _ _ _ _ _ _ _ _ _ _ _ _ _ _ _)
   | (with_reducible exact ih5 _ _ _ _ _ _ _ _ _ _)
   | (with_reducible exact ih6 _ _ _ _ _ _)
   | (with_reducible exact ih7 _ _ _ _ _ _ _)
   | (with_reducible exact impl_BookOf.mono _ _)
   | (with_reducible exact impl_MoveLine.mono _ _ _)
   | (with_reducible exact impl_PushLine.mono _ _ _ _)
   | (with_reducible exact impl_StepIslands.mono _ _ _ _ _)
   | (with_reducible exact impl_StepLine.mono _ _ _ _ _)
   | (with_reducible exact spec_DrawPushLine.mono _ _)
   | (with_reducible exact spec_DrawStepIslands.mono _ _)
   | (with_reducible exact spec_MoveLine.mono _ _ _)
   | (with_reducible exact spec_PushLine.mono _ _ _ _)
   | (with_reducible first | exact LeO.refl _ | exact LeO.none _ | refine LeO.ite ?_ ?_ | refine LeO.bind ?_ (fun _ => ?_))
   | exact ih0 _
   | exact ih1 _ _ _ _ _ _ _
   | exact ih2 _ _ _ _ _ _ _ _ _ _
   | exact ih3 _ _ _ _ _ _ _ _ _ _ _
   | exact ih4 _ _ _ _ _ _ _ _ _ _ _ _ _ _ _
   | exact ih5 _ _ _ _ _ _ _ _ _ _
   | exact ih6 _ _ _ _ _ _
   | exact ih7 _ _ _ _ _ _ _
   | exact impl_BookOf.mono _ _
   | exact impl_MoveLine.mono _ _ _
   | exact impl_PushLine.mono _ _ _ _
   | exact impl_StepIslands.mono _ _ _ _ _
   | exact impl_StepLine.mono _ _ _ _ _
   | exact spec_DrawPushLine.mono _ _
   | exact spec_DrawStepIslands.mono _ _
   | exact spec_MoveLine.mono _ _ _
   | exact spec_PushLine.mono _ _ _ _ | exact LeO.none _ | refine LeO.ite ?_ ?_ | refine LeO.bind ?_ (fun _ => ?_)
theorem laws_FnPushed.mono : ∀ a0 a1 k, LeO (laws_FnPushed.f k a0 a1) (laws_FnPushed.f (k + 1) a0 a1) := by
 intro a0 a1 k
 obtain ⟨ih0, ih1, ih2, ih3, ih4, ih5, ih6, ih7⟩ := laws_FnPushed.mono_l k
 unfold laws_FnPushed.f
 repeat' first
   | (with_reducible exact ih0 _)
   | (with_reducible exact ih1 _ _ _ _ _ _ _)
   | (with_reducible exact ih2 _ _ _ _ _ _ _ _ _ _)
   | (with_reducible exact ih3 _ _ _ _ _ _ _ _ _ _ _)
   | (with_reducible exact ih4 _ _ _ _ _ _ _ _ _ _ _ _ _ _ _)
   | (with_reducible exact ih5 _ _ _ _ _ _ _ _ _ _)
   | (with_reducible exact ih6 _ _ _ _ _ _)
   | (with_reducible exact ih7 _ _ _ _ _ _ _)
   | (with_reducible exact impl_BookOf.mono _ _)
   | (with_reducible exact impl_MoveLine.mono _ _ _)
   | (with_reducible exact impl_PushLine.mono _ _ _ _)
   | (with_reducible exact impl_StepIslands.mono _ _ _ _ _)
   | (with_reducible exact impl_StepLine.mono _ _ _ _ _)
   | (with_reducible exact spec_DrawPushLine.mono _ _)
   | (with_reducible exact spec_DrawStepIslands.mono _ _)
   | (with_reducible exact spec_MoveLine.mono _ _ _)
   | (with_reducible exact spec_PushLine.mono _ _ _ _)
   | (with_reducible first | exact LeO.refl _ | exact LeO.none _ | refine LeO.ite ?_ ?_ | refine LeO.bind ?_ (fun _ => ?_))
   | exact ih0 _
   | exact ih1 _ _ _ _ _ _ _
   | exact ih2 _ _ _ _ _ _ _ _ _ _
   | exact ih3 _ _ _ _ _ _ _ _ _ _ _
   | exact ih4 _ _ _ _ _ _ _ _ _ _ _ _ _ _ _
   | exact ih5 _ _ _ _ _ _ _ _ _ _
   | exact ih6 _ _ _ _ _ _
   | exact ih7 _ _ _ _ _ _ _
   | exact impl_BookOf.mono _ _
   | exact impl_MoveLine.mono _ _ _
   | exact impl_PushLine.mono _ _ _ _
   | exact impl_StepIslands.mono _ _ _ _ _
   | exact impl_StepLine.mono _ _ _ _ _
   | exact spec_DrawPushLine.mono _ _
   | exact spec_DrawStepIslands.mono _ _
   | exact spec_MoveLine.mono _ _ _
   | exact spec_PushLine.mono _ _ _ _ | exact LeO.none _ | refine LeO.ite ?_ ?_ | refine LeO.bind ?_ (fun _ => ?_)
set_option maxHeartbeats 8000000 in
set_option maxRecDepth 100000 in
theorem laws_FnPushed.calls (k : Nat) (A0 : Option Addr) (c0 : Nat) (l0 : List Int) (A1 : Option Addr) (c1 : Nat) (l1 : List Int) (r : Bool) (w : World) (hr0 : Kd.C (Kd.int .u8) w A0 l0.length l0) (hc0 : l0.length ≤ c0) (hr1 : Kd.C (Kd.int .u8) w A1 l1.length l1) (hc1 : l1.length ≤ c1) (h : laws_FnPushed.f k l0 l1 = some r) :
  Calls Try.prog 3 #[.slice A0 l0.length c0, .slice A1 l1.length c1] w fun e w' => e = .returned (.bool r) ∧ Below w.heap.size w w' := by
 have hu29 := Try.underlying29
 have hu33 := Try.underlying33
 have HR0 := Aside0.mk hr0
 have HC0 := Aside0.mk hc0
 clear hr0 hc0
 have HR1 := Aside0.mk hr1
 have HC1 := Aside0.mk hc1
 clear hr1 hc1
 have HB := Aside0.mk (Below.refl w.heap.size w)
 have H : (if (wrap64 ((l0.length : Int) + (l1.length : Int))) > 1048576 then (some true) else ((spec_DrawPushLine.f k l0).bind fun bt426 => ((impl_PushLine.f k bt426.1 bt426.2.1 bt426.2.2).bind fun bt431 => ((spec_PushLine.f k bt426.1 bt426.2.1 bt426.2.2).bind fun bt435 => (if (bt431.2 != bt435.2) = true then (some false) else (if bt431.2 = true then ((impl_BookOf.f k bt426.1).bind fun bt439 => ((impl_BookOf.f k bt431.1).bind fun bt444 => (laws_FnPushed.l0 k l1 bt426.2.2 bt431.1 bt439.2.2.2 bt444.2.2.2 false bt426.1 (bt426.1.length : Int) 0 bt439.1 bt439.2.1 bt439.2.2.1 bt444.1 bt444.2.1 bt444.2.2.1))) else (laws_FnPushed.j4 k l1))))))) = some r := h
 clear h
 by_cases c3 : (wrap64 ((l0.length : Int) + (l1.length : Int))) > 1048576
 ·rw [if_pos c3] at H
  have c3b0 : decide (1048576 < (wrap64 ((l0.length : Int) + (l1.length : Int)))) = true := decide_eq_true c3
  clear c3
  obtain rfl := Option.some.inj H
  go_enter Try.func3, Try.ntmps3
  go_wp2
  repeat (go_quiet (fail); try go_wp2)
  go_ret
  exact ⟨eE, lU⟩
 ·rw [if_neg c3] at H
  have c3b0 : decide (1048576 < (wrap64 ((l0.length : Int) + (l1.length : Int)))) = false := decide_eq_false c3
  clear c3
  replace H := Option.bind_eq_some_iff.mp H
  obtain ⟨⟨t426, t427, t428⟩, A40, H⟩ := H
  replace H : ((impl_PushLine.f k t426 t427 t428).bind fun bt431 => ((spec_PushLine.f k t426 t427 t428).bind fun bt435 => (if (bt431.2 != bt435.2) = true then (some false) else (if bt431.2 = true then ((impl_BookOf.f k t426).bind fun bt439 => ((impl_BookOf.f k bt431.1).bind fun bt444 => (laws_FnPushed.l0 k l1 t428 bt431.1 bt439.2.2.2 bt444.2.2.2 false t426 (t426.length : Int) 0 bt439.1 bt439.2.1 bt439.2.2.1 bt444.1 bt444.2.1 bt444.2.2.1))) else (laws_FnPushed.j4 k l1))))) = some r := H
  have A4 := Aside0.mk A40
  clear A40
  replace H := Option.bind_eq_some_iff.mp H
  obtain ⟨⟨t431, t432⟩, A50, H⟩ := H
  replace H : ((spec_PushLine.f k t426 t427 t428).bind fun bt435 => (if (t432 != bt435.2) = true then (some false) else (if t432 = true then ((impl_BookOf.f k t426).bind fun bt439 => ((impl_BookOf.f k t431).bind fun bt444 => (laws_FnPushed.l0 k l1 t428 t431 bt439.2.2.2 bt444.2.2.2 false t426 (t426.length : Int) 0 bt439.1 bt439.2.1 bt439.2.2.1 bt444.1 bt444.2.1 bt444.2.2.1))) else (laws_FnPushed.j4 k l1)))) = some r := H
  have A5 := Aside0.mk A50
  clear A50
  replace H := Option.bind_eq_some_iff.mp H
  obtain ⟨⟨t435, t436⟩, A60, H⟩ := H
  replace H : (if (t432 != t436) = true then (some false) else (if t432 = true then ((impl_BookOf.f k t426).bind fun bt439 => ((impl_BookOf.f k t431).bind fun bt444 => (laws_FnPushed.l0 k l1 t428 t431 bt439.2.2.2 bt444.2.2.2 false t426 (t426.length : Int) 0 bt439.1 bt439.2.1 bt439.2.2.1 bt444.1 bt444.2.1 bt444.2.2.1))) else (laws_FnPushed.j4 k l1))) = some r := H
  have A6 := Aside0.mk A60
  clear A60
  by_cases c7 : (t432 != t436) = true
  ·rw [if_pos c7] at H
   have c7b0 : (t432 != t436) = true := c7
   (try (have c7b1 : decide (t432 = t436) = false := by simpa using c7))
   (try (have c7b2 : (t432 == t436) = false := by simpa using c7))
   (try (have c7b3 : ¬ (t432 = t436) := by simpa using c7))
   clear c7
   obtain rfl := Option.some.inj H
   go_enter Try.func3, Try.ntmps3
   go_wp2_with (first | (go_at_call 4; (with_reducible refine (spec_DrawPushLine.calls k _ _ l0 t426 t427 t428 _ ?side1 ?side2 A4.out).mono ?_); (case side1 => repeat (first | exact HR0.out | (with_reducible refine Kd.C_alloc ?_ _) | (with_reducible refine Kd.C_drewN ?_ _) | (with_reducible refine Kd.C_drew ?_))); (case side2 => exact HC0.out); rintro e w8 ⟨v429, rfl, ho0, hb⟩; have HO430 := Aside0.mk (Kd.R_lower ho0 (below_size (lU))); replace HB := bH (lU) hb; (try clear hb); (try clear ho0); obtain ⟨Ao9, co9, eo9⟩ := Kd.R_slice HO430.out; subst eo9) | (go_at_call 5; (with_reducible refine (impl_PushLine.calls k _ _ t426 t427 t428 t431 t432 _ ?side1 ?side2 A5.out).mono ?_); (case side1 => exact cU (Kd.R_reads' HO430.out).2.2); (case side2 => exact (Kd.R_reads' HO430.out).2.1); rintro e w10 ⟨v433, rfl, ho0, hb⟩; have HO434 := Aside0.mk (Kd.R_lower (Kd.R_new' ho0 (Kd.R_lt (rU HO430.out))) (below_size (lU))); replace HO430 := Aside0.mk (Kd.R_elder' (rU HO430.out) (Kd.R_base ho0) hb); replace HB := bH (lU) hb; (try clear hb); (try clear ho0)) | (go_at_call 6; (with_reducible refine (spec_PushLine.calls k _ _ t426 t427 t428 t435 t436 _ ?side1 ?side2 A6.out).mono ?_); (case side1 => exact cU (Kd.R_reads' HO430.out).2.2); (case side2 => exact (Kd.R_reads' HO430.out).2.1); rintro e w11 ⟨v437, rfl, ho0, hb⟩; have HO438 := Aside0.mk (Kd.R_lower (Kd.R_new' (Kd.R_new' ho0 (Kd.R_lt (rU HO430.out))) (Kd.R_lt (rU HO434.out))) (below_size (lU))); replace HO430 := Aside0.mk (Kd.R_elder' (rU HO430.out) (Kd.R_base ho0) hb); replace HO434 := Aside0.mk (Kd.R_elder' (rU HO434.out) (Kd.R_base ho0) hb); replace HB := bH (lU) hb; (try clear hb); (try clear ho0)))
   go_ret
   exact ⟨eE, lU⟩
  ·rw [if_neg c7] at H
   have c7b0 : (t432 != t436) = false := by simpa using c7
   (try (have c7b1 : decide (t432 = t436) = true := by simpa using c7))
   (try (have c7b2 : (t432 == t436) = true := by simpa using c7))
   clear c7
   have HC12 := Aside0.mk H
   clear H
   go_enter Try.func3, Try.ntmps3
   go_upto_if 65 with (first | (go_at_call 4; (with_reducible refine (spec_DrawPushLine.calls k _ _ l0 t426 t427 t428 _ ?side1 ?side2 A4.out).mono ?_); (case side1 => repeat (first | exact HR0.out | (with_reducible refine Kd.C_alloc ?_ _) | (with_reducible refine Kd.C_drewN ?_ _) | (with_reducible refine Kd.C_drew ?_))); (case side2 => exact HC0.out); rintro e w13 ⟨v429, rfl, ho0, hb⟩; have HO430 := Aside0.mk (Kd.R_lower ho0 (below_size (lU))); replace HB := bH (lU) hb; (try clear hb); (try clear ho0); obtain ⟨Ao14, co14, eo14⟩ := Kd.R_slice HO430.out; subst eo14) | (go_at_call 5; (with_reducible refine (impl_PushLine.calls k _ _ t426 t427 t428 t431 t432 _ ?side1 ?side2 A5.out).mono ?_); (case side1 => exact cU (Kd.R_reads' HO430.out).2.2); (case side2 => exact (Kd.R_reads' HO430.out).2.1); rintro e w15 ⟨v433, rfl, ho0, hb⟩; have HO434 := Aside0.mk (Kd.R_lower (Kd.R_new' ho0 (Kd.R_lt (rU HO430.out))) (below_size (lU))); replace HO430 := Aside0.mk (Kd.R_elder' (rU HO430.out) (Kd.R_base ho0) hb); replace HB := bH (lU) hb; (try clear hb); (try clear ho0)) | (go_at_call 6; (with_reducible refine (spec_PushLine.calls k _ _ t426 t427 t428 t435 t436 _ ?side1 ?side2 A6.out).mono ?_); (case side1 => exact cU (Kd.R_reads' HO430.out).2.2); (case side2 => exact (Kd.R_reads' HO430.out).2.1); rintro e w16 ⟨v437, rfl, ho0, hb⟩; have HO438 := Aside0.mk (Kd.R_lower (Kd.R_new' (Kd.R_new' ho0 (Kd.R_lt (rU HO430.out))) (Kd.R_lt (rU HO434.out))) (below_size (lU))); replace HO430 := Aside0.mk (Kd.R_elder' (rU HO430.out) (Kd.R_base ho0) hb); replace HO434 := Aside0.mk (Kd.R_elder' (rU HO434.out) (Kd.R_base ho0) hb); replace HB := bH (lU) hb; (try clear hb); (try clear ho0)))
   (try simp only [Act.put, List.setIfInBounds_toArray, List.set_cons_zero, List.set_cons_succ])
   go_cut [] (fun wc => ∃ (kq : Nat), Aside0 (laws_FnPushed.j4 kq l1 = some r) ∧ Aside0 (kq ≤ k) ∧ Aside0 (Below w.heap.size w wc))
   case first => as_aux_lemma =>
    have H := HC12.out
    clear HC12
    by_cases c17 : t432 = true
    ·subst c17
     have H1 : ((impl_BookOf.f k t426).bind fun bt439 => ((impl_BookOf.f k t431).bind fun bt444 => (laws_FnPushed.l0 k l1 t428 t431 bt439.2.2.2 bt444.2.2.2 false t426 (t426.length : Int) 0 bt439.1 bt439.2.1 bt439.2.2.1 bt444.1 bt444.2.1 bt444.2.2.1))) = some r := by rw [if_pos rfl] at H; exact H
     clear H
     have H := H1
     clear H1
     replace H := Option.bind_eq_some_iff.mp H
     obtain ⟨⟨t439, t440, t441, t442⟩, A180, H⟩ := H
     replace H : ((impl_BookOf.f k t431).bind fun bt444 => (laws_FnPushed.l0 k l1 t428 t431 t442 bt444.2.2.2 false t426 (t426.length : Int) 0 t439 t440 t441 bt444.1 bt444.2.1 bt444.2.2.1)) = some r := H
     have A18 := Aside0.mk A180
     clear A180
     replace H := Option.bind_eq_some_iff.mp H
     obtain ⟨⟨t444, t445, t446, t447⟩, A190, H⟩ := H
     replace H : (laws_FnPushed.l0 k l1 t428 t431 t442 t447 false t426 (t426.length : Int) 0 t439 t440 t441 t444 t445 t446) = some r := H
     have A19 := Aside0.mk A190
     clear A190
     have H' := Aside0.mk H
     clear H
     go_wp2_with (first | (go_at_call 7; (with_reducible refine (impl_BookOf.calls k _ _ t426 t439 t440 t441 t442 _ ?side1 ?side2 A18.out).mono ?_); (case side1 => exact cU (Kd.R_reads' HO430.out).2.2); (case side2 => exact (Kd.R_reads' HO430.out).2.1); rintro e w20 ⟨rfl, hb⟩; replace HO430 := Aside0.mk (Kd.R_below (rU HO430.out) hb); replace HO434 := Aside0.mk (Kd.R_below (rU HO434.out) hb); replace HO438 := Aside0.mk (Kd.R_below (rU HO438.out) hb); replace HB := bH (lU) hb; (try clear hb)) | ((with_reducible refine gate_dst (N := 12) rfl ?_); (try (refine gate_guard (by rfl) ?_; dsimp only)); refine box_event rfl (N := 12) rfl (cs := #[.int .i64 0, .int .i64 0, .int .i64 0]) (t := 29) sE ?_; intro gb443 hg w21 hbox hb; replace HO430 := Aside0.mk (Kd.R_below (rU HO430.out) hb); replace HO434 := Aside0.mk (Kd.R_below (rU HO434.out) hb); replace HO438 := Aside0.mk (Kd.R_below (rU HO438.out) hb); have BK443 := Aside0.mk hbox; have GW443 := gS w hg (lU); have GE443 := gS w hg (lU); replace HB := bH (lU) hb; clear hb hbox hg; have hcz22_0 := cz BK443 0 (.int .i64 0); have hcz22_1 := cz BK443 1 (.int .i64 0); have hcz22_2 := cz BK443 2 (.int .i64 0); have hfz22_0 := fz BK443 0; have hfz22_1 := fz BK443 1; have hfz22_2 := fz BK443 2) | ((with_reducible refine gate_store (t := 29) (p := 12) rfl ?_); (try (rw [drewN_self w21]; generalize hq_ : World.drewN w21 _ = w21; replace HO430 := Aside0.mk (Kd.R_at hq_ HO430.out); replace HO434 := Aside0.mk (Kd.R_at hq_ HO434.out); replace HO438 := Aside0.mk (Kd.R_at hq_ HO438.out); replace BK443 := Aside0.mk (blk_at hq_ BK443.out); replace HB := Aside0.mk (below_at hq_ HB.out); clear hq_)); refine store_event (t := 29) (p := 12) (v := ?vo_w23) (w1 := (((w21.setCell ⟨gb443, 0, none⟩ (.int .i64 t439)).setCell ⟨gb443, 1, none⟩ (.int .i64 t440)).setCell ⟨gb443, 2, none⟩ (.int .i64 t441))) ?hg ?ho ?hn ?hr ?_; (case ho => rfl); (case hg => rfl); (case hn => rfl); (case hr => first | (go_simp; done) | (go_simp; rfl) | (have hq0_ := (blk_cell BK443.out 0).trans (show _ = some _ from rfl); have hf0_ := blk_frozen BK443.out 0; have hq1_ := (blk_cell BK443.out 1).trans (show _ = some _ from rfl); have hf1_ := blk_frozen BK443.out 1; have hq2_ := (blk_cell BK443.out 2).trans (show _ = some _ from rfl); have hf2_ := blk_frozen BK443.out 2; first | (go_simp; done) | (go_simp; rfl))); intro w23 hw; replace HO430 : Aside0 (Kd.R k33 33 w23 w.heap.size (fun k_ => some k_ ≠ (v433 : Value).ownBlock ∧ some k_ ≠ (v437 : Value).ownBlock) (.slice Ao14 t426.length co14) t426) := ⟨(by rw [hw]; exact (by (with_reducible repeat (first | apply Kd.R_alloc | apply Kd.R_drewN | apply Kd.R_drew)); exact Kd.R_mono (Kd.R_far (p := ⟨gb443, 2, none⟩) (Kd.R_far (p := ⟨gb443, 1, none⟩) (Kd.R_far (p := ⟨gb443, 0, none⟩) (Kd.R_types HO430.out BK443.out (by decide)) (fun _ hk => hk.2) (.int .i64 t439)) (fun _ hk => hk.2) (.int .i64 t440)) (fun _ hk => hk.2) (.int .i64 t441)) (fun _ hk => ⟨hk.1.1.2, hk.1.2⟩)))⟩; replace HO434 : Aside0 (Kd.R k33 33 w23 w.heap.size (fun k_ => some k_ ≠ (.slice Ao14 t426.length co14 : Value).ownBlock ∧ some k_ ≠ (v437 : Value).ownBlock) v433 t431) := ⟨(by rw [hw]; exact (by (with_reducible repeat (first | apply Kd.R_alloc | apply Kd.R_drewN | apply Kd.R_drew)); exact Kd.R_mono (Kd.R_far (p := ⟨gb443, 2, none⟩) (Kd.R_far (p := ⟨gb443, 1, none⟩) (Kd.R_far (p := ⟨gb443, 0, none⟩) (Kd.R_types HO434.out BK443.out (by decide)) (fun _ hk => hk.2) (.int .i64 t439)) (fun _ hk => hk.2) (.int .i64 t440)) (fun _ hk => hk.2) (.int .i64 t441)) (fun _ hk => ⟨hk.1.1.2, hk.1.2⟩)))⟩; replace HO438 : Aside0 (Kd.R k33 33 w23 w.heap.size (fun k_ => some k_ ≠ (.slice Ao14 t426.length co14 : Value).ownBlock ∧ some k_ ≠ (v433 : Value).ownBlock) v437 t435) := ⟨(by rw [hw]; exact (by (with_reducible repeat (first | apply Kd.R_alloc | apply Kd.R_drewN | apply Kd.R_drew)); exact Kd.R_mono (Kd.R_far (p := ⟨gb443, 2, none⟩) (Kd.R_far (p := ⟨gb443, 1, none⟩) (Kd.R_far (p := ⟨gb443, 0, none⟩) (Kd.R_types HO438.out BK443.out (by decide)) (fun _ hk => hk.2) (.int .i64 t439)) (fun _ hk => hk.2) (.int .i64 t440)) (fun _ hk => hk.2) (.int .i64 t441)) (fun _ hk => ⟨hk.1.1.2, hk.1.2⟩)))⟩; replace BK443 : Aside0 (w23.heap[gb443]? = some (.cells #[.int .i64 t439, .int .i64 t440, .int .i64 t441] 29 (0, 0))) := ⟨(by rw [hw]; exact (by refine bU ?_; refine blk_put (cs := #[.int .i64 t439, .int .i64 t440, .int .i64 0]) ?_ 2 _ rfl; refine bU ?_; refine blk_put (cs := #[.int .i64 t439, .int .i64 0, .int .i64 0]) ?_ 1 _ rfl; refine bU ?_; refine blk_put (cs := #[.int .i64 0, .int .i64 0, .int .i64 0]) ?_ 0 _ rfl; refine bU ?_; exact BK443.out))⟩; replace HB : Aside0 (Below w.heap.size w w23) := ⟨(by rw [hw]; exact (lV1 GE443))⟩; clear hw; obtain ⟨Ao24, co24, eo24⟩ := Kd.R_slice HO434.out; subst eo24) | (go_at_call 7; (with_reducible refine (impl_BookOf.calls k _ _ t431 t444 t445 t446 t447 _ ?side1 ?side2 A19.out).mono ?_); (case side1 => exact cU (Kd.R_reads' HO434.out).2.2); (case side2 => exact (Kd.R_reads' HO434.out).2.1); rintro e w25 ⟨rfl, hb⟩; replace HO430 := Aside0.mk (Kd.R_below (rU HO430.out) hb); replace HO434 := Aside0.mk (Kd.R_below (rU HO434.out) hb); replace HO438 := Aside0.mk (Kd.R_below (rU HO438.out) hb); replace BK443 := bB (bV BK443) hb; replace HB := bH (lV1 GE443) hb; (try clear hb)) | ((with_reducible refine gate_dst (N := 14) rfl ?_); (try (refine gate_guard (by rfl) ?_; dsimp only)); refine box_event rfl (N := 14) rfl (cs := #[.int .i64 0, .int .i64 0, .int .i64 0]) (t := 29) sE ?_; intro gb448 hg w26 hbox hb; replace HO430 := Aside0.mk (Kd.R_below (rU HO430.out) hb); replace HO434 := Aside0.mk (Kd.R_below (rU HO434.out) hb); replace HO438 := Aside0.mk (Kd.R_below (rU HO438.out) hb); have BK448 := Aside0.mk hbox; have GW448 := gS w hg (lV1 GE443); have GE448 := gS w hg (lV1 GE443); replace HB := bH (lV1 GE443) hb; have NB443_448 := nL hg (bV BK443); have NB448_443 := nG hg (bV BK443); replace BK443 := bB (bV BK443) hb; clear hb hbox hg; have hnb27 := NB448_443.out; have hnc27 := NB443_448.out; have hcz28_0 := cz BK448 0 (.int .i64 0); have hcz28_1 := cz BK448 1 (.int .i64 0); have hcz28_2 := cz BK448 2 (.int .i64 0); have hfz28_0 := fz BK448 0; have hfz28_1 := fz BK448 1; have hfz28_2 := fz BK448 2) | ((with_reducible refine gate_store (t := 29) (p := 14) rfl ?_); (try (rw [drewN_self w26]; generalize hq_ : World.drewN w26 _ = w26; replace HO430 := Aside0.mk (Kd.R_at hq_ HO430.out); replace HO434 := Aside0.mk (Kd.R_at hq_ HO434.out); replace HO438 := Aside0.mk (Kd.R_at hq_ HO438.out); replace BK443 := Aside0.mk (blk_at hq_ BK443.out); replace BK448 := Aside0.mk (blk_at hq_ BK448.out); replace HB := Aside0.mk (below_at hq_ HB.out); clear hq_)); refine store_event (t := 29) (p := 14) (v := ?vo_w29) (w1 := (((w26.setCell ⟨gb448, 0, none⟩ (.int .i64 t444)).setCell ⟨gb448, 1, none⟩ (.int .i64 t445)).setCell ⟨gb448, 2, none⟩ (.int .i64 t446))) ?hg ?ho ?hn ?hr ?_; (case ho => rfl); (case hg => rfl); (case hn => rfl); (case hr => first | (go_simp; done) | (go_simp; rfl) | (have hq0_ := (blk_cell BK448.out 0).trans (show _ = some _ from rfl); have hf0_ := blk_frozen BK448.out 0; have hq1_ := (blk_cell BK448.out 1).trans (show _ = some _ from rfl); have hf1_ := blk_frozen BK448.out 1; have hq2_ := (blk_cell BK448.out 2).trans (show _ = some _ from rfl); have hf2_ := blk_frozen BK448.out 2; first | (go_simp; done) | (go_simp; rfl))); intro w29 hw; replace HO430 : Aside0 (Kd.R k33 33 w29 w.heap.size (fun k_ => some k_ ≠ (.slice Ao24 t431.length co24 : Value).ownBlock ∧ some k_ ≠ (v437 : Value).ownBlock) (.slice Ao14 t426.length co14) t426) := ⟨(by rw [hw]; exact (by (with_reducible repeat (first | apply Kd.R_alloc | apply Kd.R_drewN | apply Kd.R_drew)); exact Kd.R_mono (Kd.R_far (p := ⟨gb448, 2, none⟩) (Kd.R_far (p := ⟨gb448, 1, none⟩) (Kd.R_far (p := ⟨gb448, 0, none⟩) (Kd.R_types HO430.out BK448.out (by decide)) (fun _ hk => hk.2) (.int .i64 t444)) (fun _ hk => hk.2) (.int .i64 t445)) (fun _ hk => hk.2) (.int .i64 t446)) (fun _ hk => ⟨hk.1.1, hk.1.2⟩)))⟩; replace HO434 : Aside0 (Kd.R k33 33 w29 w.heap.size (fun k_ => some k_ ≠ (.slice Ao14 t426.length co14 : Value).ownBlock ∧ some k_ ≠ (v437 : Value).ownBlock) (.slice Ao24 t431.length co24) t431) := ⟨(by rw [hw]; exact (by (with_reducible repeat (first | apply Kd.R_alloc | apply Kd.R_drewN | apply Kd.R_drew)); exact Kd.R_mono (Kd.R_far (p := ⟨gb448, 2, none⟩) (Kd.R_far (p := ⟨gb448, 1, none⟩) (Kd.R_far (p := ⟨gb448, 0, none⟩) (Kd.R_types HO434.out BK448.out (by decide)) (fun _ hk => hk.2) (.int .i64 t444)) (fun _ hk => hk.2) (.int .i64 t445)) (fun _ hk => hk.2) (.int .i64 t446)) (fun _ hk => ⟨hk.1.1, hk.1.2⟩)))⟩; replace HO438 : Aside0 (Kd.R k33 33 w29 w.heap.size (fun k_ => some k_ ≠ (.slice Ao14 t426.length co14 : Value).ownBlock ∧ some k_ ≠ (.slice Ao24 t431.length co24 : Value).ownBlock) v437 t435) := ⟨(by rw [hw]; exact (by (with_reducible repeat (first | apply Kd.R_alloc | apply Kd.R_drewN | apply Kd.R_drew)); exact Kd.R_mono (Kd.R_far (p := ⟨gb448, 2, none⟩) (Kd.R_far (p := ⟨gb448, 1, none⟩) (Kd.R_far (p := ⟨gb448, 0, none⟩) (Kd.R_types HO438.out BK448.out (by decide)) (fun _ hk => hk.2) (.int .i64 t444)) (fun _ hk => hk.2) (.int .i64 t445)) (fun _ hk => hk.2) (.int .i64 t446)) (fun _ hk => ⟨hk.1.1, hk.1.2⟩)))⟩; replace BK443 : Aside0 (w29.heap[gb443]? = some (.cells #[.int .i64 t439, .int .i64 t440, .int .i64 t441] 29 (0, 0))) := ⟨(by rw [hw]; exact (bG NB443_448 BK443))⟩; replace BK448 : Aside0 (w29.heap[gb448]? = some (.cells #[.int .i64 t444, .int .i64 t445, .int .i64 t446] 29 (0, 0))) := ⟨(by rw [hw]; exact (by refine bU ?_; refine blk_put (cs := #[.int .i64 t444, .int .i64 t445, .int .i64 0]) ?_ 2 _ rfl; refine bU ?_; refine blk_put (cs := #[.int .i64 t444, .int .i64 0, .int .i64 0]) ?_ 1 _ rfl; refine bU ?_; refine blk_put (cs := #[.int .i64 0, .int .i64 0, .int .i64 0]) ?_ 0 _ rfl; refine bU ?_; exact BK448.out))⟩; replace HB : Aside0 (Below w.heap.size w w29) := ⟨(by rw [hw]; exact (lV2 GE443 GE448))⟩; clear hw))
     (try simp only [Act.put, List.setIfInBounds_toArray, List.set_cons_zero, List.set_cons_succ])
     go_loopg [16, 78] k (fun kq v16 v78 w' => ∃ (x16_1 : Bool) (x78_1 : Int), v16 = .bool x16_1 ∧ v78 = .int .i64 x78_1 ∧ Aside0 (laws_FnPushed.l0 kq l1 t428 t431 t442 t447 x16_1 t426 (t426.length : Int) x78_1 t439 t440 t441 t444 t445 t446 = some r) ∧ Aside0 (kq ≤ k) ∧ Aside0 (Kd.R k33 33 w' w.heap.size (fun k_ => some k_ ≠ ((.slice Ao14 t426.length co14) : Value).ownBlock) (.slice Ao24 t431.length co24) t431) ∧ Aside0 (Kd.R k33 33 w' w.heap.size (fun k_ => some k_ ≠ ((.slice Ao24 t431.length co24) : Value).ownBlock) (.slice Ao14 t426.length co14) t426) ∧ Aside0 (w'.heap[gb443]? = some (.cells #[.int .i64 t439, .int .i64 t440, .int .i64 t441] 29 (0, 0))) ∧ Aside0 (w'.heap[gb448]? = some (.cells #[.int .i64 t444, .int .i64 t445, .int .i64 t446] 29 (0, 0))) ∧ Aside0 (Below w.heap.size w w'))
     case atStart => exact ⟨(false), (0), tE, tE, H', ⟨Nat.le_refl _⟩, ⟨by (with_reducible repeat (first | apply Kd.R_alloc | apply Kd.R_drewN | apply Kd.R_drew)); exact Kd.R_mono HO434.out (fun _ hk => hk.1)⟩, ⟨by (with_reducible repeat (first | apply Kd.R_alloc | apply Kd.R_drewN | apply Kd.R_drew)); exact Kd.R_mono HO430.out (fun _ hk => hk.1)⟩, ⟨by refine bU ?_; exact BK443.out⟩, ⟨by refine bU ?_; exact BK448.out⟩, ⟨by repeat (first | (with_reducible first | exact HB.out | apply below_alloc | apply pw_below_drewN | apply below_drew1 | refine below_set ?_ GE443.out | refine below_set ?_ GE448.out) | exact HB.out)⟩⟩
     case round => as_aux_lemma =>
      clear H'
      try clear c1; try clear c3; try clear c3b0; try clear c7; try clear c7b0; try clear c7b1; try clear c7b2; try clear c17; try clear hcz22_0; try clear hcz22_1; try clear hcz22_2; try clear hcz28_0; try clear hcz28_1; try clear hcz28_2; try clear hfz22_0; try clear hfz22_1; try clear hfz22_2; try clear hfz28_0; try clear hfz28_1; try clear hfz28_2
      obtain ⟨x16_1, x78_1, rfl, rfl, HA, HK1, HO_8, HO_76, BK443, BK448, HB⟩ := hrel
      cases gk with
      | zero => exact absurd HA.out (by simp [laws_FnPushed.l0])
      | succ k1 =>
       have H := HA.out
       clear HA
       simp only [laws_FnPushed.l0] at H
       by_cases c30 : x78_1 < (t426.length : Int)
       ·rw [if_pos c30] at H
        have c30b0 : decide (x78_1 < (t426.length : Int)) = true := decide_eq_true c30
        clear c30
        (first | rw [c30b0] | (simp only [i64_w, i32_w]; rw [c30b0]) | (rw [c30b2]; simp only [Bool.not_false, Bool.not_true]) | skip)
        by_cases c31 : 0 ≤ x78_1
        ·rw [if_pos c31] at H
         have c31b0 : decide (0 ≤ x78_1) = true := decide_eq_true c31
         clear c31
         by_cases c32 : x78_1 < (t426.length : Int)
         ·rw [if_pos c32] at H
          have c32b0 : decide (x78_1 < (t426.length : Int)) = true := decide_eq_true c32
          clear c32
          by_cases c33 : x16_1 = true
          ·subst c33
           have H1 : (laws_FnPushed.l0 k1 l1 t428 t431 t442 t447 true t426 (t426.length : Int) (wrap64 (x78_1 + 1)) t439 t440 t441 t444 t445 t446) = some r := by rw [if_pos rfl] at H; exact H
           clear H
           have H := H1
           clear H1
           have H' := Aside0.mk H
           clear H
           have p449 : 0 ≤ (x78_1 : Int) := of_decide_eq_true hE
           have q449 : x78_1 < (t426.length : Int) := of_decide_eq_true hE
           obtain ⟨ad449, e449, hx449_0, hx449_1, hx449_2, hx449_3⟩ := at_T33 (Kd.R_reads' HO_76.out).2.2 x78_1 p449 q449
           cases e449
           replace p449 := eq_true p449
           replace q449 := eq_true q449
           go_wp2_with (first | ((with_reducible refine gate_dst (N := 18) rfl ?_); (try (refine gate_guard (by rfl) ?_; dsimp only)); refine box_event rfl (N := 18) rfl (cs := #[.int .i64 0, .int .i64 0, .int .i64 0, .int .i64 0]) (t := 33) sE ?_; intro gb450 hg w34 hbox hb; replace HO_8 := Aside0.mk (Kd.R_below (Kd.R_elderB (rU HO_8.out) gb450 (Nat.le_of_eq hg.symm)) hb); replace HO_76 := Aside0.mk (Kd.R_below (Kd.R_elderB (rU HO_76.out) gb450 (Nat.le_of_eq hg.symm)) hb); have BK450 := Aside0.mk hbox; have GW450 := gS w hg (lV2 GE443 GE448); have GE450 := gS w hg (lV2 GE443 GE448); replace HB := bH (lV2 GE443 GE448) hb; have NB443_450 := nL hg (bV BK443); have NB450_443 := nG hg (bV BK443); replace BK443 := bB (bV BK443) hb; have NB448_450 := nL hg (bV BK448); have NB450_448 := nG hg (bV BK448); replace BK448 := bB (bV BK448) hb; clear hb hbox hg; have hnb35 := NB450_443.out; have hnc35 := NB443_450.out; have hnb36 := NB450_448.out; have hnc36 := NB448_450.out; have hcz37_0 := cz BK450 0 (.int .i64 0); have hcz37_1 := cz BK450 1 (.int .i64 0); have hcz37_2 := cz BK450 2 (.int .i64 0); have hcz37_3 := cz BK450 3 (.int .i64 0); have hfz37_0 := fz BK450 0; have hfz37_1 := fz BK450 1; have hfz37_2 := fz BK450 2; have hfz37_3 := fz BK450 3) | ((with_reducible refine gate_store (t := 33) (p := 18) rfl ?_); (try (rw [drewN_self w34]; generalize hq_ : World.drewN w34 _ = w34; replace HO_8 := Aside0.mk (Kd.R_at hq_ HO_8.out); replace HO_76 := Aside0.mk (Kd.R_at hq_ HO_76.out); replace BK443 := Aside0.mk (blk_at hq_ BK443.out); replace BK448 := Aside0.mk (blk_at hq_ BK448.out); replace BK450 := Aside0.mk (blk_at hq_ BK450.out); replace HB := Aside0.mk (below_at hq_ HB.out); clear hq_)); refine store_event (t := 33) (p := 18) (v := ?vo_w38) (w1 := ((((w34.setCell ⟨gb450, 0, none⟩ (.int .i64 ((rd_T33 t426 x78_1).f0))).setCell ⟨gb450, 1, none⟩ (.int .i64 ((rd_T33 t426 x78_1).f1))).setCell ⟨gb450, 2, none⟩ (.int .i64 ((rd_T33 t426 x78_1).f2))).setCell ⟨gb450, 3, none⟩ (.int .i64 ((rd_T33 t426 x78_1).f3)))) ?hg ?ho ?hn ?hr ?_; (case ho => rfl); (case hg => rfl); (case hn => rfl); (case hr => first | (go_simp; done) | (go_simp; rfl) | (have hq0_ := (blk_cell BK450.out 0).trans (show _ = some _ from rfl); have hf0_ := blk_frozen BK450.out 0; have hq1_ := (blk_cell BK450.out 1).trans (show _ = some _ from rfl); have hf1_ := blk_frozen BK450.out 1; have hq2_ := (blk_cell BK450.out 2).trans (show _ = some _ from rfl); have hf2_ := blk_frozen BK450.out 2; have hq3_ := (blk_cell BK450.out 3).trans (show _ = some _ from rfl); have hf3_ := blk_frozen BK450.out 3; first | (go_simp; done) | (go_simp; rfl))); intro w38 hw; replace HO_8 : Aside0 (Kd.R k33 33 w38 w.heap.size (fun k_ => some k_ ≠ (.slice (some ad449) t426.length co14 : Value).ownBlock ∧ k_ ≠ gb450) (.slice Ao24 t431.length co24) t431) := ⟨(by rw [hw]; exact (by (with_reducible repeat (first | apply Kd.R_alloc | apply Kd.R_drewN | apply Kd.R_drew)); exact Kd.R_mono (Kd.R_far (p := ⟨gb450, 3, none⟩) (Kd.R_far (p := ⟨gb450, 2, none⟩) (Kd.R_far (p := ⟨gb450, 1, none⟩) (Kd.R_far (p := ⟨gb450, 0, none⟩) (Kd.R_mono HO_8.out (fun k_ hk => (⟨hk, hk.2⟩ : _ ∧ k_ ≠ gb450))) (fun _ hk => hk.2) (.int .i64 ((rd_T33 t426 x78_1).f0))) (fun _ hk => hk.2) (.int .i64 ((rd_T33 t426 x78_1).f1))) (fun _ hk => hk.2) (.int .i64 ((rd_T33 t426 x78_1).f2))) (fun _ hk => hk.2) (.int .i64 ((rd_T33 t426 x78_1).f3))) (fun _ hk => ⟨hk.1.1, hk.1.2⟩)))⟩; replace HO_76 : Aside0 (Kd.R k33 33 w38 w.heap.size (fun k_ => some k_ ≠ (.slice Ao24 t431.length co24 : Value).ownBlock ∧ k_ ≠ gb450) (.slice (some ad449) t426.length co14) t426) := ⟨(by rw [hw]; exact (by (with_reducible repeat (first | apply Kd.R_alloc | apply Kd.R_drewN | apply Kd.R_drew)); exact Kd.R_mono (Kd.R_far (p := ⟨gb450, 3, none⟩) (Kd.R_far (p := ⟨gb450, 2, none⟩) (Kd.R_far (p := ⟨gb450, 1, none⟩) (Kd.R_far (p := ⟨gb450, 0, none⟩) (Kd.R_mono HO_76.out (fun k_ hk => (⟨hk, hk.2⟩ : _ ∧ k_ ≠ gb450))) (fun _ hk => hk.2) (.int .i64 ((rd_T33 t426 x78_1).f0))) (fun _ hk => hk.2) (.int .i64 ((rd_T33 t426 x78_1).f1))) (fun _ hk => hk.2) (.int .i64 ((rd_T33 t426 x78_1).f2))) (fun _ hk => hk.2) (.int .i64 ((rd_T33 t426 x78_1).f3))) (fun _ hk => ⟨hk.1.1, hk.1.2⟩)))⟩; replace BK443 : Aside0 (w38.heap[gb443]? = some (.cells #[.int .i64 t439, .int .i64 t440, .int .i64 t441] 29 (0, 0))) := ⟨(by rw [hw]; exact (bG NB443_450 BK443))⟩; replace BK448 : Aside0 (w38.heap[gb448]? = some (.cells #[.int .i64 t444, .int .i64 t445, .int .i64 t446] 29 (0, 0))) := ⟨(by rw [hw]; exact (bG NB448_450 BK448))⟩; replace BK450 : Aside0 (w38.heap[gb450]? = some (.cells #[.int .i64 ((rd_T33 t426 x78_1).f0), .int .i64 ((rd_T33 t426 x78_1).f1), .int .i64 ((rd_T33 t426 x78_1).f2), .int .i64 ((rd_T33 t426 x78_1).f3)] 33 (0, 0))) := ⟨(by rw [hw]; exact (by refine bU ?_; refine blk_put (cs := #[.int .i64 ((rd_T33 t426 x78_1).f0), .int .i64 ((rd_T33 t426 x78_1).f1), .int .i64 ((rd_T33 t426 x78_1).f2), .int .i64 0]) ?_ 3 _ rfl; refine bU ?_; refine blk_put (cs := #[.int .i64 ((rd_T33 t426 x78_1).f0), .int .i64 ((rd_T33 t426 x78_1).f1), .int .i64 0, .int .i64 0]) ?_ 2 _ rfl; refine bU ?_; refine blk_put (cs := #[.int .i64 ((rd_T33 t426 x78_1).f0), .int .i64 0, .int .i64 0, .int .i64 0]) ?_ 1 _ rfl; refine bU ?_; refine blk_put (cs := #[.int .i64 0, .int .i64 0, .int .i64 0, .int .i64 0]) ?_ 0 _ rfl; refine bU ?_; exact BK450.out))⟩; replace HB : Aside0 (Below w.heap.size w w38) := ⟨(by rw [hw]; exact (lV3 GE443 GE448 GE450))⟩; clear hw))
           go_roundg k1
           case measure => have := HK1.out; omega
           case rel => exact ⟨(true), (wrap64 (x78_1 + 1)), tE, tE, H', ⟨by have := HK1.out; omega⟩, ⟨by (with_reducible repeat (first | apply Kd.R_alloc | apply Kd.R_drewN | apply Kd.R_drew)); exact Kd.R_mono HO_8.out (fun _ hk => hk.1)⟩, ⟨by (with_reducible repeat (first | apply Kd.R_alloc | apply Kd.R_drewN | apply Kd.R_drew)); exact Kd.R_mono HO_76.out (fun _ hk => hk.1)⟩, ⟨by refine bU ?_; exact BK443.out⟩, ⟨by refine bU ?_; exact BK448.out⟩, ⟨by repeat (first | (with_reducible first | exact HB.out | apply below_alloc | apply pw_below_drewN | apply below_drew1 | refine below_set ?_ GE443.out | refine below_set ?_ GE448.out | refine below_set ?_ GE450.out) | exact HB.out)⟩⟩
          ·replace c33 := Bool.eq_false_iff.mpr c33
           subst c33
           have H1 : (laws_FnPushed.l0 k1 l1 t428 t431 t442 t447 (((rd_T33 t426 x78_1).f2) == 0) t426 (t426.length : Int) (wrap64 (x78_1 + 1)) t439 t440 t441 t444 t445 t446) = some r := by rw [if_neg (show ¬ (false = true) by decide)] at H; exact H
           clear H
           have H := H1
           clear H1
           have H' := Aside0.mk H
           clear H
           have p449 : 0 ≤ (x78_1 : Int) := of_decide_eq_true hE
           have q449 : x78_1 < (t426.length : Int) := of_decide_eq_true hE
           obtain ⟨ad449, e449, hx449_0, hx449_1, hx449_2, hx449_3⟩ := at_T33 (Kd.R_reads' HO_76.out).2.2 x78_1 p449 q449
           cases e449
           replace p449 := eq_true p449
           replace q449 := eq_true q449
           go_wp2_with (first | ((with_reducible refine gate_dst (N := 18) rfl ?_); (try (refine gate_guard (by rfl) ?_; dsimp only)); refine box_event rfl (N := 18) rfl (cs := #[.int .i64 0, .int .i64 0, .int .i64 0, .int .i64 0]) (t := 33) sE ?_; intro gb450 hg w39 hbox hb; replace HO_8 := Aside0.mk (Kd.R_below (Kd.R_elderB (rU HO_8.out) gb450 (Nat.le_of_eq hg.symm)) hb); replace HO_76 := Aside0.mk (Kd.R_below (Kd.R_elderB (rU HO_76.out) gb450 (Nat.le_of_eq hg.symm)) hb); have BK450 := Aside0.mk hbox; have GW450 := gS w hg (lV2 GE443 GE448); have GE450 := gS w hg (lV2 GE443 GE448); replace HB := bH (lV2 GE443 GE448) hb; have NB443_450 := nL hg (bV BK443); have NB450_443 := nG hg (bV BK443); replace BK443 := bB (bV BK443) hb; have NB448_450 := nL hg (bV BK448); have NB450_448 := nG hg (bV BK448); replace BK448 := bB (bV BK448) hb; clear hb hbox hg; have hnb40 := NB450_443.out; have hnc40 := NB443_450.out; have hnb41 := NB450_448.out; have hnc41 := NB448_450.out; have hcz42_0 := cz BK450 0 (.int .i64 0); have hcz42_1 := cz BK450 1 (.int .i64 0); have hcz42_2 := cz BK450 2 (.int .i64 0); have hcz42_3 := cz BK450 3 (.int .i64 0); have hfz42_0 := fz BK450 0; have hfz42_1 := fz BK450 1; have hfz42_2 := fz BK450 2; have hfz42_3 := fz BK450 3) | ((with_reducible refine gate_store (t := 33) (p := 18) rfl ?_); (try (rw [drewN_self w39]; generalize hq_ : World.drewN w39 _ = w39; replace HO_8 := Aside0.mk (Kd.R_at hq_ HO_8.out); replace HO_76 := Aside0.mk (Kd.R_at hq_ HO_76.out); replace BK443 := Aside0.mk (blk_at hq_ BK443.out); replace BK448 := Aside0.mk (blk_at hq_ BK448.out); replace BK450 := Aside0.mk (blk_at hq_ BK450.out); replace HB := Aside0.mk (below_at hq_ HB.out); clear hq_)); refine store_event (t := 33) (p := 18) (v := ?vo_w43) (w1 := ((((w39.setCell ⟨gb450, 0, none⟩ (.int .i64 ((rd_T33 t426 x78_1).f0))).setCell ⟨gb450, 1, none⟩ (.int .i64 ((rd_T33 t426 x78_1).f1))).setCell ⟨gb450, 2, none⟩ (.int .i64 ((rd_T33 t426 x78_1).f2))).setCell ⟨gb450, 3, none⟩ (.int .i64 ((rd_T33 t426 x78_1).f3)))) ?hg ?ho ?hn ?hr ?_; (case ho => rfl); (case hg => rfl); (case hn => rfl); (case hr => first | (go_simp; done) | (go_simp; rfl) | (have hq0_ := (blk_cell BK450.out 0).trans (show _ = some _ from rfl); have hf0_ := blk_frozen BK450.out 0; have hq1_ := (blk_cell BK450.out 1).trans (show _ = some _ from rfl); have hf1_ := blk_frozen BK450.out 1; have hq2_ := (blk_cell BK450.out 2).trans (show _ = some _ from rfl); have hf2_ := blk_frozen BK450.out 2; have hq3_ := (blk_cell BK450.out 3).trans (show _ = some _ from rfl); have hf3_ := blk_frozen BK450.out 3; first | (go_simp; done) | (go_simp; rfl))); intro w43 hw; replace HO_8 : Aside0 (Kd.R k33 33 w43 w.heap.size (fun k_ => some k_ ≠ (.slice (some ad449) t426.length co14 : Value).ownBlock ∧ k_ ≠ gb450) (.slice Ao24 t431.length co24) t431) := ⟨(by rw [hw]; exact (by (with_reducible repeat (first | apply Kd.R_alloc | apply Kd.R_drewN | apply Kd.R_drew)); exact Kd.R_mono (Kd.R_far (p := ⟨gb450, 3, none⟩) (Kd.R_far (p := ⟨gb450, 2, none⟩) (Kd.R_far (p := ⟨gb450, 1, none⟩) (Kd.R_far (p := ⟨gb450, 0, none⟩) (Kd.R_mono HO_8.out (fun k_ hk => (⟨hk, hk.2⟩ : _ ∧ k_ ≠ gb450))) (fun _ hk => hk.2) (.int .i64 ((rd_T33 t426 x78_1).f0))) (fun _ hk => hk.2) (.int .i64 ((rd_T33 t426 x78_1).f1))) (fun _ hk => hk.2) (.int .i64 ((rd_T33 t426 x78_1).f2))) (fun _ hk => hk.2) (.int .i64 ((rd_T33 t426 x78_1).f3))) (fun _ hk => ⟨hk.1.1, hk.1.2⟩)))⟩; replace HO_76 : Aside0 (Kd.R k33 33 w43 w.heap.size (fun k_ => some k_ ≠ (.slice Ao24 t431.length co24 : Value).ownBlock ∧ k_ ≠ gb450) (.slice (some ad449) t426.length co14) t426) := ⟨(by rw [hw]; exact (by (with_reducible repeat (first | apply Kd.R_alloc | apply Kd.R_drewN | apply Kd.R_drew)); exact Kd.R_mono (Kd.R_far (p := ⟨gb450, 3, none⟩) (Kd.R_far (p := ⟨gb450, 2, none⟩) (Kd.R_far (p := ⟨gb450, 1, none⟩) (Kd.R_far (p := ⟨gb450, 0, none⟩) (Kd.R_mono HO_76.out (fun k_ hk => (⟨hk, hk.2⟩ : _ ∧ k_ ≠ gb450))) (fun _ hk => hk.2) (.int .i64 ((rd_T33 t426 x78_1).f0))) (fun _ hk => hk.2) (.int .i64 ((rd_T33 t426 x78_1).f1))) (fun _ hk => hk.2) (.int .i64 ((rd_T33 t426 x78_1).f2))) (fun _ hk => hk.2) (.int .i64 ((rd_T33 t426 x78_1).f3))) (fun _ hk => ⟨hk.1.1, hk.1.2⟩)))⟩; replace BK443 : Aside0 (w43.heap[gb443]? = some (.cells #[.int .i64 t439, .int .i64 t440, .int .i64 t441] 29 (0, 0))) := ⟨(by rw [hw]; exact (bG NB443_450 BK443))⟩; replace BK448 : Aside0 (w43.heap[gb448]? = some (.cells #[.int .i64 t444, .int .i64 t445, .int .i64 t446] 29 (0, 0))) := ⟨(by rw [hw]; exact (bG NB448_450 BK448))⟩; replace BK450 : Aside0 (w43.heap[gb450]? = some (.cells #[.int .i64 ((rd_T33 t426 x78_1).f0), .int .i64 ((rd_T33 t426 x78_1).f1), .int .i64 ((rd_T33 t426 x78_1).f2), .int .i64 ((rd_T33 t426 x78_1).f3)] 33 (0, 0))) := ⟨(by rw [hw]; exact (by refine bU ?_; refine blk_put (cs := #[.int .i64 ((rd_T33 t426 x78_1).f0), .int .i64 ((rd_T33 t426 x78_1).f1), .int .i64 ((rd_T33 t426 x78_1).f2), .int .i64 0]) ?_ 3 _ rfl; refine bU ?_; refine blk_put (cs := #[.int .i64 ((rd_T33 t426 x78_1).f0), .int .i64 ((rd_T33 t426 x78_1).f1), .int .i64 0, .int .i64 0]) ?_ 2 _ rfl; refine bU ?_; refine blk_put (cs := #[.int .i64 ((rd_T33 t426 x78_1).f0), .int .i64 0, .int .i64 0, .int .i64 0]) ?_ 1 _ rfl; refine bU ?_; refine blk_put (cs := #[.int .i64 0, .int .i64 0, .int .i64 0, .int .i64 0]) ?_ 0 _ rfl; refine bU ?_; exact BK450.out))⟩; replace HB : Aside0 (Below w.heap.size w w43) := ⟨(by rw [hw]; exact (lV3 GE443 GE448 GE450))⟩; clear hw; have hcz44_0 := cz BK450 0 (.int .i64 ((rd_T33 t426 x78_1).f0)); have hcz44_1 := cz BK450 1 (.int .i64 ((rd_T33 t426 x78_1).f1)); have hcz44_2 := cz BK450 2 (.int .i64 ((rd_T33 t426 x78_1).f2)); have hcz44_3 := cz BK450 3 (.int .i64 ((rd_T33 t426 x78_1).f3)); have hfz44_0 := fz BK450 0; have hfz44_1 := fz BK450 1; have hfz44_2 := fz BK450 2; have hfz44_3 := fz BK450 3))
           go_roundg k1
           case measure => have := HK1.out; omega
           case rel => exact ⟨((((rd_T33 t426 x78_1).f2) == 0)), (wrap64 (x78_1 + 1)), tE, tE, H', ⟨by have := HK1.out; omega⟩, ⟨by (with_reducible repeat (first | apply Kd.R_alloc | apply Kd.R_drewN | apply Kd.R_drew)); exact Kd.R_mono HO_8.out (fun _ hk => hk.1)⟩, ⟨by (with_reducible repeat (first | apply Kd.R_alloc | apply Kd.R_drewN | apply Kd.R_drew)); exact Kd.R_mono HO_76.out (fun _ hk => hk.1)⟩, ⟨by refine bU ?_; exact BK443.out⟩, ⟨by refine bU ?_; exact BK448.out⟩, ⟨by repeat (first | (with_reducible first | exact HB.out | apply below_alloc | apply pw_below_drewN | apply below_drew1 | refine below_set ?_ GE443.out | refine below_set ?_ GE448.out | refine below_set ?_ GE450.out) | exact HB.out)⟩⟩
         ·rw [if_neg c32] at H
          exact absurd H (by simp)
        ·rw [if_neg c31] at H
         exact absurd H (by simp)
       ·rw [if_neg c30] at H
        have c30b0 : decide (x78_1 < (t426.length : Int)) = false := decide_eq_false c30
        clear c30
        (first | rw [c30b0] | (simp only [i64_w, i32_w]; rw [c30b0]) | (rw [c30b2]; simp only [Bool.not_false, Bool.not_true]) | skip)
        have HC45 := Aside0.mk H
        clear H
        go_upto_region 17 with (fail)
        repeat (go_quiet (fail); go_upto_region 17 with (fail))
        go_cut [115] (fun v115 wc => ∃ (kq : Nat) (x115_44 : Bool), v115 = .bool x115_44 ∧ Aside0 (laws_FnPushed.j1 kq l1 t428 t431 x115_44 t439 t440 t441 t444 t445 t446 = some r) ∧ Aside0 (kq ≤ k1) ∧ Aside0 (Kd.R k33 33 wc w.heap.size (fun _ => True) (.slice Ao24 t431.length co24) t431) ∧ Aside0 (wc.heap[gb443]? = some (.cells #[.int .i64 t439, .int .i64 t440, .int .i64 t441] 29 (0, 0))) ∧ Aside0 (wc.heap[gb448]? = some (.cells #[.int .i64 t444, .int .i64 t445, .int .i64 t446] 29 (0, 0))) ∧ Aside0 (Below w.heap.size w wc))
        case first => as_aux_lemma =>
         have H := HC45.out
         clear HC45
         by_cases c46 : t442 = true
         ·subst c46
          have H1 : (if t447 = true then (if t441 < 1 then (laws_FnPushed.j1 k1 l1 t428 t431 true t439 t440 t441 t444 t445 t446) else (if t446 < 1 then (laws_FnPushed.j1 k1 l1 t428 t431 true t439 t440 t441 t444 t445 t446) else (if x16_1 = true then (laws_FnPushed.j1 k1 l1 t428 t431 false t439 t440 t441 t444 t445 t446) else (laws_FnPushed.j1 k1 l1 t428 t431 (t439 != t444) t439 t440 t441 t444 t445 t446)))) else (laws_FnPushed.j1 k1 l1 t428 t431 true t439 t440 t441 t444 t445 t446)) = some r := by rw [if_pos rfl] at H; exact H
          clear H
          have H := H1
          clear H1
          by_cases c47 : t447 = true
          ·subst c47
           have H1 : (if t441 < 1 then (laws_FnPushed.j1 k1 l1 t428 t431 true t439 t440 t441 t444 t445 t446) else (if t446 < 1 then (laws_FnPushed.j1 k1 l1 t428 t431 true t439 t440 t441 t444 t445 t446) else (if x16_1 = true then (laws_FnPushed.j1 k1 l1 t428 t431 false t439 t440 t441 t444 t445 t446) else (laws_FnPushed.j1 k1 l1 t428 t431 (t439 != t444) t439 t440 t441 t444 t445 t446)))) = some r := by rw [if_pos rfl] at H; exact H
           clear H
           have H := H1
           clear H1
           by_cases c48 : t441 < 1
           ·rw [if_pos c48] at H
            have c48b0 : decide (t441 < 1) = true := decide_eq_true c48
            clear c48
            (first | rw [c48b0] | (simp only [i64_w, i32_w]; rw [c48b0]) | (rw [c48b2]; simp only [Bool.not_false, Bool.not_true]) | skip)
            have H' := Aside0.mk H
            clear H
            have hnb49 := NB443_448.out
            have hnc49 := NB448_443.out
            have hcz50_0 := cz BK443 0 (.int .i64 t439)
            have hcz50_1 := cz BK443 1 (.int .i64 t440)
            have hcz50_2 := cz BK443 2 (.int .i64 t441)
            have hfz50_0 := fz BK443 0
            have hfz50_1 := fz BK443 1
            have hfz50_2 := fz BK443 2
            go_wp2
            repeat (go_quiet (fail); try go_wp2)
            go_meet
            case rel => exact ⟨_, (true), tE, H', ⟨by have := HK1.out; first | omega | exact Nat.le_refl _⟩, ⟨by (with_reducible repeat (first | apply Kd.R_alloc | apply Kd.R_drewN | apply Kd.R_drew)); exact Kd.R_mono HO_8.out (fun _ hk => trivial)⟩, ⟨by refine bU ?_; exact BK443.out⟩, ⟨by refine bU ?_; exact BK448.out⟩, ⟨by repeat (first | (with_reducible first | exact HB.out | apply below_alloc | apply pw_below_drewN | apply below_drew1 | refine below_set ?_ GE443.out | refine below_set ?_ GE448.out) | exact HB.out)⟩⟩
           ·rw [if_neg c48] at H
            have c48b0 : decide (t441 < 1) = false := decide_eq_false c48
            clear c48
            (first | rw [c48b0] | (simp only [i64_w, i32_w]; rw [c48b0]) | (rw [c48b2]; simp only [Bool.not_false, Bool.not_true]) | skip)
            by_cases c51 : t446 < 1
            ·rw [if_pos c51] at H
             have c51b0 : decide (t446 < 1) = true := decide_eq_true c51
             clear c51
             have H' := Aside0.mk H
             clear H
             have hnb52 := NB443_448.out
             have hnc52 := NB448_443.out
             have hcz53_0 := cz BK443 0 (.int .i64 t439)
             have hcz53_1 := cz BK443 1 (.int .i64 t440)
             have hcz53_2 := cz BK443 2 (.int .i64 t441)
             have hfz53_0 := fz BK443 0
             have hfz53_1 := fz BK443 1
             have hfz53_2 := fz BK443 2
             have hcz54_0 := cz BK448 0 (.int .i64 t444)
             have hcz54_1 := cz BK448 1 (.int .i64 t445)
             have hcz54_2 := cz BK448 2 (.int .i64 t446)
             have hfz54_0 := fz BK448 0
             have hfz54_1 := fz BK448 1
             have hfz54_2 := fz BK448 2
             go_wp2
             repeat (go_quiet (fail); try go_wp2)
             go_meet
             case rel => exact ⟨_, (true), tE, H', ⟨by have := HK1.out; first | omega | exact Nat.le_refl _⟩, ⟨by (with_reducible repeat (first | apply Kd.R_alloc | apply Kd.R_drewN | apply Kd.R_drew)); exact Kd.R_mono HO_8.out (fun _ hk => trivial)⟩, ⟨by refine bU ?_; exact BK443.out⟩, ⟨by refine bU ?_; exact BK448.out⟩, ⟨by repeat (first | (with_reducible first | exact HB.out | apply below_alloc | apply pw_below_drewN | apply below_drew1 | refine below_set ?_ GE443.out | refine below_set ?_ GE448.out) | exact HB.out)⟩⟩
            ·rw [if_neg c51] at H
             have c51b0 : decide (t446 < 1) = false := decide_eq_false c51
             clear c51
             by_cases c55 : x16_1 = true
             ·subst c55
              have H1 : (laws_FnPushed.j1 k1 l1 t428 t431 false t439 t440 t441 t444 t445 t446) = some r := by rw [if_pos rfl] at H; exact H
              clear H
              have H := H1
              clear H1
              have H' := Aside0.mk H
              clear H
              have hnb56 := NB443_448.out
              have hnc56 := NB448_443.out
              have hcz57_0 := cz BK443 0 (.int .i64 t439)
              have hcz57_1 := cz BK443 1 (.int .i64 t440)
              have hcz57_2 := cz BK443 2 (.int .i64 t441)
              have hfz57_0 := fz BK443 0
              have hfz57_1 := fz BK443 1
              have hfz57_2 := fz BK443 2
              have hcz58_0 := cz BK448 0 (.int .i64 t444)
              have hcz58_1 := cz BK448 1 (.int .i64 t445)
              have hcz58_2 := cz BK448 2 (.int .i64 t446)
              have hfz58_0 := fz BK448 0
              have hfz58_1 := fz BK448 1
              have hfz58_2 := fz BK448 2
              go_wp2
              repeat (go_quiet (fail); try go_wp2)
              go_meet
              case rel => exact ⟨_, (false), tE, H', ⟨by have := HK1.out; first | omega | exact Nat.le_refl _⟩, ⟨by (with_reducible repeat (first | apply Kd.R_alloc | apply Kd.R_drewN | apply Kd.R_drew)); exact Kd.R_mono HO_8.out (fun _ hk => trivial)⟩, ⟨by refine bU ?_; exact BK443.out⟩, ⟨by refine bU ?_; exact BK448.out⟩, ⟨by repeat (first | (with_reducible first | exact HB.out | apply below_alloc | apply pw_below_drewN | apply below_drew1 | refine below_set ?_ GE443.out | refine below_set ?_ GE448.out) | exact HB.out)⟩⟩
             ·replace c55 := Bool.eq_false_iff.mpr c55
              subst c55
              have H1 : (laws_FnPushed.j1 k1 l1 t428 t431 (t439 != t444) t439 t440 t441 t444 t445 t446) = some r := by rw [if_neg (show ¬ (false = true) by decide)] at H; exact H
              clear H
              have H := H1
              clear H1
              have H' := Aside0.mk H
              clear H
              have hnb59 := NB443_448.out
              have hnc59 := NB448_443.out
              have hcz60_0 := cz BK443 0 (.int .i64 t439)
              have hcz60_1 := cz BK443 1 (.int .i64 t440)
              have hcz60_2 := cz BK443 2 (.int .i64 t441)
              have hfz60_0 := fz BK443 0
              have hfz60_1 := fz BK443 1
              have hfz60_2 := fz BK443 2
              have hcz61_0 := cz BK448 0 (.int .i64 t444)
              have hcz61_1 := cz BK448 1 (.int .i64 t445)
              have hcz61_2 := cz BK448 2 (.int .i64 t446)
              have hfz61_0 := fz BK448 0
              have hfz61_1 := fz BK448 1
              have hfz61_2 := fz BK448 2
              go_wp2
              repeat (go_quiet (fail); try go_wp2)
              go_meet
              case rel => exact ⟨_, ((t439 != t444)), tE, H', ⟨by have := HK1.out; first | omega | exact Nat.le_refl _⟩, ⟨by (with_reducible repeat (first | apply Kd.R_alloc | apply Kd.R_drewN | apply Kd.R_drew)); exact Kd.R_mono HO_8.out (fun _ hk => trivial)⟩, ⟨by refine bU ?_; exact BK443.out⟩, ⟨by refine bU ?_; exact BK448.out⟩, ⟨by repeat (first | (with_reducible first | exact HB.out | apply below_alloc | apply pw_below_drewN | apply below_drew1 | refine below_set ?_ GE443.out | refine below_set ?_ GE448.out) | exact HB.out)⟩⟩
          ·replace c47 := Bool.eq_false_iff.mpr c47
           subst c47
           have H1 : (laws_FnPushed.j1 k1 l1 t428 t431 true t439 t440 t441 t444 t445 t446) = some r := by rw [if_neg (show ¬ (false = true) by decide)] at H; exact H
           clear H
           have H := H1
           clear H1
           have H' := Aside0.mk H
           clear H
           go_wp2
           repeat (go_quiet (fail); try go_wp2)
           go_meet
           case rel => exact ⟨_, (true), tE, H', ⟨by have := HK1.out; first | omega | exact Nat.le_refl _⟩, ⟨by (with_reducible repeat (first | apply Kd.R_alloc | apply Kd.R_drewN | apply Kd.R_drew)); exact Kd.R_mono HO_8.out (fun _ hk => trivial)⟩, ⟨by refine bU ?_; exact BK443.out⟩, ⟨by refine bU ?_; exact BK448.out⟩, ⟨by repeat (first | (with_reducible first | exact HB.out | apply below_alloc | apply pw_below_drewN | apply below_drew1 | refine below_set ?_ GE443.out | refine below_set ?_ GE448.out) | exact HB.out)⟩⟩
         ·replace c46 := Bool.eq_false_iff.mpr c46
          subst c46
          have H1 : (laws_FnPushed.j1 k1 l1 t428 t431 true t439 t440 t441 t444 t445 t446) = some r := by rw [if_neg (show ¬ (false = true) by decide)] at H; exact H
          clear H
          have H := H1
          clear H1
          have H' := Aside0.mk H
          clear H
          go_wp2
          repeat (go_quiet (fail); try go_wp2)
          go_meet
          case rel => exact ⟨_, (true), tE, H', ⟨by have := HK1.out; first | omega | exact Nat.le_refl _⟩, ⟨by (with_reducible repeat (first | apply Kd.R_alloc | apply Kd.R_drewN | apply Kd.R_drew)); exact Kd.R_mono HO_8.out (fun _ hk => trivial)⟩, ⟨by refine bU ?_; exact BK443.out⟩, ⟨by refine bU ?_; exact BK448.out⟩, ⟨by repeat (first | (with_reducible first | exact HB.out | apply below_alloc | apply pw_below_drewN | apply below_drew1 | refine below_set ?_ GE443.out | refine below_set ?_ GE448.out) | exact HB.out)⟩⟩
        case rest => as_aux_lemma =>
         clear HC45
         try clear c1; try clear c3; try clear c3b0; try clear c7; try clear c7b0; try clear c7b1; try clear c7b2; try clear c17; try clear c30; try clear c30b0; try clear c30b2; try clear hcz22_0; try clear hcz22_1; try clear hcz22_2; try clear hcz28_0; try clear hcz28_1; try clear hcz28_2; try clear hfz22_0; try clear hfz22_1; try clear hfz22_2; try clear hfz28_0; try clear hfz28_1; try clear hfz28_2
         obtain ⟨kq, x115_44, rfl, HA, HJ44, HO_8, BK443, BK448, HB⟩ := hcut
         cases kq with
         | zero => exact absurd HA.out (by simp [laws_FnPushed.j1])
         | succ kj44 =>
          have H := HA.out
          clear HA
          simp only [laws_FnPushed.j1] at H
          by_cases c62 : x115_44 = true
          ·subst c62
           have H1 : (some false) = some r := by rw [if_pos rfl] at H; exact H
           clear H
           have H := H1
           clear H1
           obtain rfl := Option.some.inj H
           go_wp2
           repeat (go_quiet (fail); try go_wp2)
           go_ret
           exact ⟨eE, lV2 GE443 GE448⟩
          ·replace c62 := Bool.eq_false_iff.mpr c62
           subst c62
           have H1 : (if t446 = 0 then (none) else (if t441 = 0 then (none) else (if (wrap64 (t445 * (wrap64 (Int.tdiv (55440 : Int) t446)))) > (wrap64 (t440 * (wrap64 (Int.tdiv (55440 : Int) t441)))) then (some false) else ((impl_MoveLine.f kj44 t431 t428).bind fun bt451 => ((spec_MoveLine.f kj44 t431 t428).bind fun bt455 => (if (bt451.2 != bt455.2) = true then (some false) else (laws_FnPushed.l1 kj44 l1 t431 bt451.1 bt451.1 (bt451.1.length : Int) 0))))))) = some r := by rw [if_neg (show ¬ (false = true) by decide)] at H; exact H
           clear H
           have H := H1
           clear H1
           by_cases c63 : t446 = 0
           ·rw [if_pos c63] at H
            exact absurd H (by simp)
           ·rw [if_neg c63] at H
            have c63b0 : (t446 == 0) = false := beq_eq_false_iff_ne.mpr c63
            have c63b1 : (t446 != 0) = true := bne_iff_ne.mpr c63
            by_cases c64 : t441 = 0
            ·rw [if_pos c64] at H
             exact absurd H (by simp)
            ·rw [if_neg c64] at H
             have c64b0 : (t441 == 0) = false := beq_eq_false_iff_ne.mpr c64
             have c64b1 : (t441 != 0) = true := bne_iff_ne.mpr c64
             by_cases c65 : (wrap64 (t445 * (wrap64 (Int.tdiv (55440 : Int) t446)))) > (wrap64 (t440 * (wrap64 (Int.tdiv (55440 : Int) t441))))
             ·rw [if_pos c65] at H
              have c65b0 : decide ((wrap64 (t440 * (wrap64 (Int.tdiv (55440 : Int) t441)))) < (wrap64 (t445 * (wrap64 (Int.tdiv (55440 : Int) t446))))) = true := decide_eq_true c65
              clear c65
              obtain rfl := Option.some.inj H
              have hnb66 := NB448_443.out
              have hnc66 := NB443_448.out
              have hcz67_0 := cz BK448 0 (.int .i64 t444)
              have hcz67_1 := cz BK448 1 (.int .i64 t445)
              have hcz67_2 := cz BK448 2 (.int .i64 t446)
              have hfz67_0 := fz BK448 0
              have hfz67_1 := fz BK448 1
              have hfz67_2 := fz BK448 2
              have hcz68_0 := cz BK443 0 (.int .i64 t439)
              have hcz68_1 := cz BK443 1 (.int .i64 t440)
              have hcz68_2 := cz BK443 2 (.int .i64 t441)
              have hfz68_0 := fz BK443 0
              have hfz68_1 := fz BK443 1
              have hfz68_2 := fz BK443 2
              go_wp2
              repeat (go_quiet (fail); try go_wp2)
              go_ret
              exact ⟨eE, lV2 GE443 GE448⟩
             ·rw [if_neg c65] at H
              have c65b0 : decide ((wrap64 (t440 * (wrap64 (Int.tdiv (55440 : Int) t441)))) < (wrap64 (t445 * (wrap64 (Int.tdiv (55440 : Int) t446))))) = false := decide_eq_false c65
              clear c65
              replace H := Option.bind_eq_some_iff.mp H
              obtain ⟨⟨t451, t452⟩, A690, H⟩ := H
              replace H : ((spec_MoveLine.f kj44 t431 t428).bind fun bt455 => (if (t452 != bt455.2) = true then (some false) else (laws_FnPushed.l1 kj44 l1 t431 t451 t451 (t451.length : Int) 0))) = some r := H
              have A69 := Aside0.mk A690
              clear A690
              replace H := Option.bind_eq_some_iff.mp H
              obtain ⟨⟨t455, t456⟩, A700, H⟩ := H
              replace H : (if (t452 != t456) = true then (some false) else (laws_FnPushed.l1 kj44 l1 t431 t451 t451 (t451.length : Int) 0)) = some r := H
              have A70 := Aside0.mk A700
              clear A700
              by_cases c71 : (t452 != t456) = true
              ·rw [if_pos c71] at H
               have c71b0 : (t452 != t456) = true := c71
               (try (have c71b1 : decide (t452 = t456) = false := by simpa using c71))
               (try (have c71b2 : (t452 == t456) = false := by simpa using c71))
               (try (have c71b3 : ¬ (t452 = t456) := by simpa using c71))
               clear c71
               obtain rfl := Option.some.inj H
               have hnb72 := NB448_443.out
               have hnc72 := NB443_448.out
               have hcz73_0 := cz BK448 0 (.int .i64 t444)
               have hcz73_1 := cz BK448 1 (.int .i64 t445)
               have hcz73_2 := cz BK448 2 (.int .i64 t446)
               have hfz73_0 := fz BK448 0
               have hfz73_1 := fz BK448 1
               have hfz73_2 := fz BK448 2
               have hcz74_0 := cz BK443 0 (.int .i64 t439)
               have hcz74_1 := cz BK443 1 (.int .i64 t440)
               have hcz74_2 := cz BK443 2 (.int .i64 t441)
               have hfz74_0 := fz BK443 0
               have hfz74_1 := fz BK443 1
               have hfz74_2 := fz BK443 2
               go_wp2_with (first | (go_at_call 8; (with_reducible refine (impl_MoveLine.calls kj44 _ _ t431 t428 t451 t452 _ ?side1 ?side2 A69.out).mono ?_); (case side1 => exact cU (Kd.R_reads' HO_8.out).2.2); (case side2 => exact (Kd.R_reads' HO_8.out).2.1); rintro e w75 ⟨v453, rfl, ho0, hb⟩; have HO454 := Aside0.mk (Kd.R_lower (Kd.R_new' ho0 (Kd.R_lt (rU HO_8.out))) (below_size (lV2 GE443 GE448))); replace HO_8 := Aside0.mk (Kd.R_elder' (rU HO_8.out) (Kd.R_base ho0) hb); replace BK443 := bB (bV BK443) hb; replace BK448 := bB (bV BK448) hb; replace HB := bH (lV2 GE443 GE448) hb; (try clear hb); (try clear ho0)) | (go_at_call 9; (with_reducible refine (spec_MoveLine.calls kj44 _ _ t431 t428 t455 t456 _ ?side1 ?side2 A70.out).mono ?_); (case side1 => exact cU (Kd.R_reads' HO_8.out).2.2); (case side2 => exact (Kd.R_reads' HO_8.out).2.1); rintro e w76 ⟨v457, rfl, ho0, hb⟩; have HO458 := Aside0.mk (Kd.R_lower (Kd.R_new' (Kd.R_new' ho0 (Kd.R_lt (rU HO_8.out))) (Kd.R_lt (rU HO454.out))) (below_size (lV2 GE443 GE448))); replace HO_8 := Aside0.mk (Kd.R_elder' (rU HO_8.out) (Kd.R_base ho0) hb); replace HO454 := Aside0.mk (Kd.R_elder' (rU HO454.out) (Kd.R_base ho0) hb); replace BK443 := bB (bV BK443) hb; replace BK448 := bB (bV BK448) hb; replace HB := bH (lV2 GE443 GE448) hb; (try clear hb); (try clear ho0)))
               repeat (go_quiet (first | (go_at_call 8; (with_reducible refine (impl_MoveLine.calls kj44 _ _ t431 t428 t451 t452 _ ?side1 ?side2 A69.out).mono ?_); (case side1 => exact cU (Kd.R_reads' HO_8.out).2.2); (case side2 => exact (Kd.R_reads' HO_8.out).2.1); rintro e w75 ⟨v453, rfl, ho0, hb⟩; have HO454 := Aside0.mk (Kd.R_lower (Kd.R_new' ho0 (Kd.R_lt (rU HO_8.out))) (below_size (lV2 GE443 GE448))); replace HO_8 := Aside0.mk (Kd.R_elder' (rU HO_8.out) (Kd.R_base ho0) hb); replace BK443 := bB (bV BK443) hb; replace BK448 := bB (bV BK448) hb; replace HB := bH (lV2 GE443 GE448) hb; (try clear hb); (try clear ho0)) | (go_at_call 9; (with_reducible refine (spec_MoveLine.calls kj44 _ _ t431 t428 t455 t456 _ ?side1 ?side2 A70.out).mono ?_); (case side1 => exact cU (Kd.R_reads' HO_8.out).2.2); (case side2 => exact (Kd.R_reads' HO_8.out).2.1); rintro e w76 ⟨v457, rfl, ho0, hb⟩; have HO458 := Aside0.mk (Kd.R_lower (Kd.R_new' (Kd.R_new' ho0 (Kd.R_lt (rU HO_8.out))) (Kd.R_lt (rU HO454.out))) (below_size (lV2 GE443 GE448))); replace HO_8 := Aside0.mk (Kd.R_elder' (rU HO_8.out) (Kd.R_base ho0) hb); replace HO454 := Aside0.mk (Kd.R_elder' (rU HO454.out) (Kd.R_base ho0) hb); replace BK443 := bB (bV BK443) hb; replace BK448 := bB (bV BK448) hb; replace HB := bH (lV2 GE443 GE448) hb; (try clear hb); (try clear ho0))); try go_wp2_with (first | (go_at_call 8; (with_reducible refine (impl_MoveLine.calls kj44 _ _ t431 t428 t451 t452 _ ?side1 ?side2 A69.out).mono ?_); (case side1 => exact cU (Kd.R_reads' HO_8.out).2.2); (case side2 => exact (Kd.R_reads' HO_8.out).2.1); rintro e w75 ⟨v453, rfl, ho0, hb⟩; have HO454 := Aside0.mk (Kd.R_lower (Kd.R_new' ho0 (Kd.R_lt (rU HO_8.out))) (below_size (lV2 GE443 GE448))); replace HO_8 := Aside0.mk (Kd.R_elder' (rU HO_8.out) (Kd.R_base ho0) hb); replace BK443 := bB (bV BK443) hb; replace BK448 := bB (bV BK448) hb; replace HB := bH (lV2 GE443 GE448) hb; (try clear hb); (try clear ho0)) | (go_at_call 9; (with_reducible refine (spec_MoveLine.calls kj44 _ _ t431 t428 t455 t456 _ ?side1 ?side2 A70.out).mono ?_); (case side1 => exact cU (Kd.R_reads' HO_8.out).2.2); (case side2 => exact (Kd.R_reads' HO_8.out).2.1); rintro e w76 ⟨v457, rfl, ho0, hb⟩; have HO458 := Aside0.mk (Kd.R_lower (Kd.R_new' (Kd.R_new' ho0 (Kd.R_lt (rU HO_8.out))) (Kd.R_lt (rU HO454.out))) (below_size (lV2 GE443 GE448))); replace HO_8 := Aside0.mk (Kd.R_elder' (rU HO_8.out) (Kd.R_base ho0) hb); replace HO454 := Aside0.mk (Kd.R_elder' (rU HO454.out) (Kd.R_base ho0) hb); replace BK443 := bB (bV BK443) hb; replace BK448 := bB (bV BK448) hb; replace HB := bH (lV2 GE443 GE448) hb; (try clear hb); (try clear ho0))))
               go_ret
               exact ⟨eE, lV2 GE443 GE448⟩
              ·rw [if_neg c71] at H
               have c71b0 : (t452 != t456) = false := by simpa using c71
               (try (have c71b1 : decide (t452 = t456) = true := by simpa using c71))
               (try (have c71b2 : (t452 == t456) = true := by simpa using c71))
               clear c71
               have H' := Aside0.mk H
               clear H
               have hnb77 := NB448_443.out
               have hnc77 := NB443_448.out
               have hcz78_0 := cz BK448 0 (.int .i64 t444)
               have hcz78_1 := cz BK448 1 (.int .i64 t445)
               have hcz78_2 := cz BK448 2 (.int .i64 t446)
               have hfz78_0 := fz BK448 0
               have hfz78_1 := fz BK448 1
               have hfz78_2 := fz BK448 2
               have hcz79_0 := cz BK443 0 (.int .i64 t439)
               have hcz79_1 := cz BK443 1 (.int .i64 t440)
               have hcz79_2 := cz BK443 2 (.int .i64 t441)
               have hfz79_0 := fz BK443 0
               have hfz79_1 := fz BK443 1
               have hfz79_2 := fz BK443 2
               go_wp2_with (first | (go_at_call 8; (with_reducible refine (impl_MoveLine.calls kj44 _ _ t431 t428 t451 t452 _ ?side1 ?side2 A69.out).mono ?_); (case side1 => exact cU (Kd.R_reads' HO_8.out).2.2); (case side2 => exact (Kd.R_reads' HO_8.out).2.1); rintro e w80 ⟨v453, rfl, ho0, hb⟩; have HO454 := Aside0.mk (Kd.R_lower (Kd.R_new' ho0 (Kd.R_lt (rU HO_8.out))) (below_size (lV2 GE443 GE448))); replace HO_8 := Aside0.mk (Kd.R_elder' (rU HO_8.out) (Kd.R_base ho0) hb); replace BK443 := bB (bV BK443) hb; replace BK448 := bB (bV BK448) hb; replace HB := bH (lV2 GE443 GE448) hb; (try clear hb); (try clear ho0)) | (go_at_call 9; (with_reducible refine (spec_MoveLine.calls kj44 _ _ t431 t428 t455 t456 _ ?side1 ?side2 A70.out).mono ?_); (case side1 => exact cU (Kd.R_reads' HO_8.out).2.2); (case side2 => exact (Kd.R_reads' HO_8.out).2.1); rintro e w81 ⟨v457, rfl, ho0, hb⟩; have HO458 := Aside0.mk (Kd.R_lower (Kd.R_new' (Kd.R_new' ho0 (Kd.R_lt (rU HO_8.out))) (Kd.R_lt (rU HO454.out))) (below_size (lV2 GE443 GE448))); replace HO_8 := Aside0.mk (Kd.R_elder' (rU HO_8.out) (Kd.R_base ho0) hb); replace HO454 := Aside0.mk (Kd.R_elder' (rU HO454.out) (Kd.R_base ho0) hb); replace BK443 := bB (bV BK443) hb; replace BK448 := bB (bV BK448) hb; replace HB := bH (lV2 GE443 GE448) hb; (try clear hb); (try clear ho0); obtain ⟨Ao82, co82, eo82⟩ := Kd.R_slice HO454.out; subst eo82))
               repeat (go_quiet (first | (go_at_call 8; (with_reducible refine (impl_MoveLine.calls kj44 _ _ t431 t428 t451 t452 _ ?side1 ?side2 A69.out).mono ?_); (case side1 => exact cU (Kd.R_reads' HO_8.out).2.2); (case side2 => exact (Kd.R_reads' HO_8.out).2.1); rintro e w80 ⟨v453, rfl, ho0, hb⟩; have HO454 := Aside0.mk (Kd.R_lower (Kd.R_new' ho0 (Kd.R_lt (rU HO_8.out))) (below_size (lV2 GE443 GE448))); replace HO_8 := Aside0.mk (Kd.R_elder' (rU HO_8.out) (Kd.R_base ho0) hb); replace BK443 := bB (bV BK443) hb; replace BK448 := bB (bV BK448) hb; replace HB := bH (lV2 GE443 GE448) hb; (try clear hb); (try clear ho0)) | (go_at_call 9; (with_reducible refine (spec_MoveLine.calls kj44 _ _ t431 t428 t455 t456 _ ?side1 ?side2 A70.out).mono ?_); (case side1 => exact cU (Kd.R_reads' HO_8.out).2.2); (case side2 => exact (Kd.R_reads' HO_8.out).2.1); rintro e w81 ⟨v457, rfl, ho0, hb⟩; have HO458 := Aside0.mk (Kd.R_lower (Kd.R_new' (Kd.R_new' ho0 (Kd.R_lt (rU HO_8.out))) (Kd.R_lt (rU HO454.out))) (below_size (lV2 GE443 GE448))); replace HO_8 := Aside0.mk (Kd.R_elder' (rU HO_8.out) (Kd.R_base ho0) hb); replace HO454 := Aside0.mk (Kd.R_elder' (rU HO454.out) (Kd.R_base ho0) hb); replace BK443 := bB (bV BK443) hb; replace BK448 := bB (bV BK448) hb; replace HB := bH (lV2 GE443 GE448) hb; (try clear hb); (try clear ho0); obtain ⟨Ao82, co82, eo82⟩ := Kd.R_slice HO454.out; subst eo82)); try go_wp2_with (first | (go_at_call 8; (with_reducible refine (impl_MoveLine.calls kj44 _ _ t431 t428 t451 t452 _ ?side1 ?side2 A69.out).mono ?_); (case side1 => exact cU (Kd.R_reads' HO_8.out).2.2); (case side2 => exact (Kd.R_reads' HO_8.out).2.1); rintro e w80 ⟨v453, rfl, ho0, hb⟩; have HO454 := Aside0.mk (Kd.R_lower (Kd.R_new' ho0 (Kd.R_lt (rU HO_8.out))) (below_size (lV2 GE443 GE448))); replace HO_8 := Aside0.mk (Kd.R_elder' (rU HO_8.out) (Kd.R_base ho0) hb); replace BK443 := bB (bV BK443) hb; replace BK448 := bB (bV BK448) hb; replace HB := bH (lV2 GE443 GE448) hb; (try clear hb); (try clear ho0)) | (go_at_call 9; (with_reducible refine (spec_MoveLine.calls kj44 _ _ t431 t428 t455 t456 _ ?side1 ?side2 A70.out).mono ?_); (case side1 => exact cU (Kd.R_reads' HO_8.out).2.2); (case side2 => exact (Kd.R_reads' HO_8.out).2.1); rintro e w81 ⟨v457, rfl, ho0, hb⟩; have HO458 := Aside0.mk (Kd.R_lower (Kd.R_new' (Kd.R_new' ho0 (Kd.R_lt (rU HO_8.out))) (Kd.R_lt (rU HO454.out))) (below_size (lV2 GE443 GE448))); replace HO_8 := Aside0.mk (Kd.R_elder' (rU HO_8.out) (Kd.R_base ho0) hb); replace HO454 := Aside0.mk (Kd.R_elder' (rU HO454.out) (Kd.R_base ho0) hb); replace BK443 := bB (bV BK443) hb; replace BK448 := bB (bV BK448) hb; replace HB := bH (lV2 GE443 GE448) hb; (try clear hb); (try clear ho0); obtain ⟨Ao82, co82, eo82⟩ := Kd.R_slice HO454.out; subst eo82)))
               (try simp only [Act.put, List.setIfInBounds_toArray, List.set_cons_zero, List.set_cons_succ])
               go_loopg [146] kj44 (fun kq v146 w' => ∃ (x146_3 : Int), v146 = .int .i64 x146_3 ∧ Aside0 (laws_FnPushed.l1 kq l1 t431 t451 t451 (t451.length : Int) x146_3 = some r) ∧ Aside0 (kq ≤ kj44) ∧ Aside0 (Kd.R k33 33 w' w.heap.size (fun k_ => some k_ ≠ ((.slice Ao82 t451.length co82) : Value).ownBlock ∧ some k_ ≠ ((.slice Ao82 t451.length co82) : Value).ownBlock) (.slice Ao24 t431.length co24) t431) ∧ Aside0 (Kd.R k33 33 w' w.heap.size (fun k_ => some k_ ≠ ((.slice Ao24 t431.length co24) : Value).ownBlock) (.slice Ao82 t451.length co82) t451) ∧ Aside0 (Kd.R k33 33 w' w.heap.size (fun k_ => some k_ ≠ ((.slice Ao24 t431.length co24) : Value).ownBlock) (.slice Ao82 t451.length co82) t451) ∧ Aside0 (w'.heap[gb443]? = some (.cells #[.int .i64 t439, .int .i64 t440, .int .i64 t441] 29 (0, 0))) ∧ Aside0 (w'.heap[gb448]? = some (.cells #[.int .i64 t444, .int .i64 t445, .int .i64 t446] 29 (0, 0))) ∧ Aside0 (Below w.heap.size w w'))
               case atStart => exact ⟨(0), tE, H', ⟨Nat.le_refl _⟩, ⟨by (with_reducible repeat (first | apply Kd.R_alloc | apply Kd.R_drewN | apply Kd.R_drew)); exact Kd.R_mono HO_8.out (fun _ hk => ⟨hk.1.2, hk.1.2⟩)⟩, ⟨by (with_reducible repeat (first | apply Kd.R_alloc | apply Kd.R_drewN | apply Kd.R_drew)); exact Kd.R_mono HO454.out (fun _ hk => hk.1.2)⟩, ⟨by (with_reducible repeat (first | apply Kd.R_alloc | apply Kd.R_drewN | apply Kd.R_drew)); exact Kd.R_mono HO454.out (fun _ hk => hk.1.2)⟩, ⟨by refine bU ?_; exact BK443.out⟩, ⟨by refine bU ?_; exact BK448.out⟩, ⟨by repeat (first | (with_reducible first | exact HB.out | apply below_alloc | apply pw_below_drewN | apply below_drew1 | refine below_set ?_ GE443.out | refine below_set ?_ GE448.out) | exact HB.out)⟩⟩
               case round => as_aux_lemma =>
                clear H'
                try clear c1; try clear c3; try clear c3b0; try clear c7; try clear c7b0; try clear c7b1; try clear c7b2; try clear c17; try clear c30; try clear c30b0; try clear c30b2; try clear c62; try clear c63; try clear c63b0; try clear c63b1; try clear c64; try clear c64b0; try clear c64b1; try clear c65; try clear c65b0; try clear c71; try clear c71b0; try clear c71b1; try clear c71b2; try clear hcz22_0; try clear hcz22_1; try clear hcz22_2; try clear hcz28_0; try clear hcz28_1; try clear hcz28_2; try clear hcz78_0; try clear hcz78_1; try clear hcz78_2; try clear hcz79_0; try clear hcz79_1; try clear hcz79_2; try clear hfz22_0; try clear hfz22_1; try clear hfz22_2; try clear hfz28_0; try clear hfz28_1; try clear hfz28_2; try clear hfz78_0; try clear hfz78_1; try clear hfz78_2; try clear hfz79_0; try clear hfz79_1; try clear hfz79_2
                obtain ⟨x146_3, rfl, HA, HK3, HO_8, HO_19, HO_144, BK443, BK448, HB⟩ := hrel
                cases gk with
                | zero => exact absurd HA.out (by simp [laws_FnPushed.l1])
                | succ k3 =>
                 have H := HA.out
                 clear HA
                 simp only [laws_FnPushed.l1] at H
                 by_cases c83 : x146_3 < (t451.length : Int)
                 ·rw [if_pos c83] at H
                  have c83b0 : decide (x146_3 < (t451.length : Int)) = true := decide_eq_true c83
                  clear c83
                  by_cases c84 : 0 ≤ x146_3
                  ·rw [if_pos c84] at H
                   have c84b0 : decide (0 ≤ x146_3) = true := decide_eq_true c84
                   clear c84
                   by_cases c85 : x146_3 < (t451.length : Int)
                   ·rw [if_pos c85] at H
                    have c85b0 : decide (x146_3 < (t451.length : Int)) = true := decide_eq_true c85
                    clear c85
                    have HC86 := Aside0.mk H
                    clear H
                    have p459 : 0 ≤ (x146_3 : Int) := of_decide_eq_true hE
                    have q459 : x146_3 < (t451.length : Int) := of_decide_eq_true hE
                    obtain ⟨ad459, e459, hx459_0, hx459_1, hx459_2, hx459_3⟩ := at_T33 (Kd.R_reads' HO_144.out).2.2 x146_3 p459 q459
                    cases e459
                    replace p459 := eq_true p459
                    replace q459 := eq_true q459
                    go_upto_region 28 with (first | ((with_reducible refine gate_dst (N := 24) rfl ?_); (try (refine gate_guard (by rfl) ?_; dsimp only)); refine box_event rfl (N := 24) rfl (cs := #[.int .i64 0, .int .i64 0, .int .i64 0, .int .i64 0]) (t := 33) sE ?_; intro gb460 hg w87 hbox hb; replace HO_8 := Aside0.mk (Kd.R_below (Kd.R_elderB (rU HO_8.out) gb460 (Nat.le_of_eq hg.symm)) hb); replace HO_19 := Aside0.mk (Kd.R_below (Kd.R_elderB (rU HO_19.out) gb460 (Nat.le_of_eq hg.symm)) hb); replace HO_144 := Aside0.mk (Kd.R_below (Kd.R_elderB (rU HO_144.out) gb460 (Nat.le_of_eq hg.symm)) hb); have BK460 := Aside0.mk hbox; have GW460 := gS w hg (lV2 GE443 GE448); have GE460 := gS w hg (lV2 GE443 GE448); replace HB := bH (lV2 GE443 GE448) hb; have NB443_460 := nL hg (bV BK443); have NB460_443 := nG hg (bV BK443); replace BK443 := bB (bV BK443) hb; have NB448_460 := nL hg (bV BK448); have NB460_448 := nG hg (bV BK448); replace BK448 := bB (bV BK448) hb; clear hb hbox hg; have hnb88 := NB460_443.out; have hnc88 := NB443_460.out; have hnb89 := NB460_448.out; have hnc89 := NB448_460.out; have hcz90_0 := cz BK460 0 (.int .i64 0); have hcz90_1 := cz BK460 1 (.int .i64 0); have hcz90_2 := cz BK460 2 (.int .i64 0); have hcz90_3 := cz BK460 3 (.int .i64 0); have hfz90_0 := fz BK460 0; have hfz90_1 := fz BK460 1; have hfz90_2 := fz BK460 2; have hfz90_3 := fz BK460 3) | ((with_reducible refine gate_store (t := 33) (p := 24) rfl ?_); (try (rw [drewN_self w87]; generalize hq_ : World.drewN w87 _ = w87; replace HO_8 := Aside0.mk (Kd.R_at hq_ HO_8.out); replace HO_19 := Aside0.mk (Kd.R_at hq_ HO_19.out); replace HO_144 := Aside0.mk (Kd.R_at hq_ HO_144.out); replace BK443 := Aside0.mk (blk_at hq_ BK443.out); replace BK448 := Aside0.mk (blk_at hq_ BK448.out); replace BK460 := Aside0.mk (blk_at hq_ BK460.out); replace HB := Aside0.mk (below_at hq_ HB.out); clear hq_)); refine store_event (t := 33) (p := 24) (v := ?vo_w91) (w1 := ((((w87.setCell ⟨gb460, 0, none⟩ (.int .i64 ((rd_T33 t451 x146_3).f0))).setCell ⟨gb460, 1, none⟩ (.int .i64 ((rd_T33 t451 x146_3).f1))).setCell ⟨gb460, 2, none⟩ (.int .i64 ((rd_T33 t451 x146_3).f2))).setCell ⟨gb460, 3, none⟩ (.int .i64 ((rd_T33 t451 x146_3).f3)))) ?hg ?ho ?hn ?hr ?_; (case ho => rfl); (case hg => rfl); (case hn => rfl); (case hr => first | (go_simp; done) | (go_simp; rfl) | (have hq0_ := (blk_cell BK460.out 0).trans (show _ = some _ from rfl); have hf0_ := blk_frozen BK460.out 0; have hq1_ := (blk_cell BK460.out 1).trans (show _ = some _ from rfl); have hf1_ := blk_frozen BK460.out 1; have hq2_ := (blk_cell BK460.out 2).trans (show _ = some _ from rfl); have hf2_ := blk_frozen BK460.out 2; have hq3_ := (blk_cell BK460.out 3).trans (show _ = some _ from rfl); have hf3_ := blk_frozen BK460.out 3; first | (go_simp; done) | (go_simp; rfl))); intro w91 hw; replace HO_8 : Aside0 (Kd.R k33 33 w91 w.heap.size (fun k_ => some k_ ≠ (.slice (some ad459) t451.length co82 : Value).ownBlock ∧ some k_ ≠ (.slice (some ad459) t451.length co82 : Value).ownBlock ∧ k_ ≠ gb460) (.slice Ao24 t431.length co24) t431) := ⟨(by rw [hw]; exact (by (with_reducible repeat (first | apply Kd.R_alloc | apply Kd.R_drewN | apply Kd.R_drew)); exact Kd.R_mono (Kd.R_far (p := ⟨gb460, 3, none⟩) (Kd.R_far (p := ⟨gb460, 2, none⟩) (Kd.R_far (p := ⟨gb460, 1, none⟩) (Kd.R_far (p := ⟨gb460, 0, none⟩) (Kd.R_mono HO_8.out (fun k_ hk => (⟨hk, hk.2⟩ : _ ∧ k_ ≠ gb460))) (fun _ hk => hk.2) (.int .i64 ((rd_T33 t451 x146_3).f0))) (fun _ hk => hk.2) (.int .i64 ((rd_T33 t451 x146_3).f1))) (fun _ hk => hk.2) (.int .i64 ((rd_T33 t451 x146_3).f2))) (fun _ hk => hk.2) (.int .i64 ((rd_T33 t451 x146_3).f3))) (fun _ hk => ⟨hk.1.1.1, ⟨hk.1.1.2, hk.1.2⟩⟩)))⟩; replace HO_19 : Aside0 (Kd.R k33 33 w91 w.heap.size (fun k_ => some k_ ≠ (.slice Ao24 t431.length co24 : Value).ownBlock ∧ k_ ≠ gb460) (.slice (some ad459) t451.length co82) t451) := ⟨(by rw [hw]; exact (by (with_reducible repeat (first | apply Kd.R_alloc | apply Kd.R_drewN | apply Kd.R_drew)); exact Kd.R_mono (Kd.R_far (p := ⟨gb460, 3, none⟩) (Kd.R_far (p := ⟨gb460, 2, none⟩) (Kd.R_far (p := ⟨gb460, 1, none⟩) (Kd.R_far (p := ⟨gb460, 0, none⟩) (Kd.R_mono HO_19.out (fun k_ hk => (⟨hk, hk.2⟩ : _ ∧ k_ ≠ gb460))) (fun _ hk => hk.2) (.int .i64 ((rd_T33 t451 x146_3).f0))) (fun _ hk => hk.2) (.int .i64 ((rd_T33 t451 x146_3).f1))) (fun _ hk => hk.2) (.int .i64 ((rd_T33 t451 x146_3).f2))) (fun _ hk => hk.2) (.int .i64 ((rd_T33 t451 x146_3).f3))) (fun _ hk => ⟨hk.1.1, hk.1.2⟩)))⟩; replace HO_144 : Aside0 (Kd.R k33 33 w91 w.heap.size (fun k_ => some k_ ≠ (.slice Ao24 t431.length co24 : Value).ownBlock ∧ k_ ≠ gb460) (.slice (some ad459) t451.length co82) t451) := ⟨(by rw [hw]; exact (by (with_reducible repeat (first | apply Kd.R_alloc | apply Kd.R_drewN | apply Kd.R_drew)); exact Kd.R_mono (Kd.R_far (p := ⟨gb460, 3, none⟩) (Kd.R_far (p := ⟨gb460, 2, none⟩) (Kd.R_far (p := ⟨gb460, 1, none⟩) (Kd.R_far (p := ⟨gb460, 0, none⟩) (Kd.R_mono HO_144.out (fun k_ hk => (⟨hk, hk.2⟩ : _ ∧ k_ ≠ gb460))) (fun _ hk => hk.2) (.int .i64 ((rd_T33 t451 x146_3).f0))) (fun _ hk => hk.2) (.int .i64 ((rd_T33 t451 x146_3).f1))) (fun _ hk => hk.2) (.int .i64 ((rd_T33 t451 x146_3).f2))) (fun _ hk => hk.2) (.int .i64 ((rd_T33 t451 x146_3).f3))) (fun _ hk => ⟨hk.1.1, hk.1.2⟩)))⟩; replace BK443 : Aside0 (w91.heap[gb443]? = some (.cells #[.int .i64 t439, .int .i64 t440, .int .i64 t441] 29 (0, 0))) := ⟨(by rw [hw]; exact (bG NB443_460 BK443))⟩; replace BK448 : Aside0 (w91.heap[gb448]? = some (.cells #[.int .i64 t444, .int .i64 t445, .int .i64 t446] 29 (0, 0))) := ⟨(by rw [hw]; exact (bG NB448_460 BK448))⟩; replace BK460 : Aside0 (w91.heap[gb460]? = some (.cells #[.int .i64 ((rd_T33 t451 x146_3).f0), .int .i64 ((rd_T33 t451 x146_3).f1), .int .i64 ((rd_T33 t451 x146_3).f2), .int .i64 ((rd_T33 t451 x146_3).f3)] 33 (0, 0))) := ⟨(by rw [hw]; exact (by refine bU ?_; refine blk_put (cs := #[.int .i64 ((rd_T33 t451 x146_3).f0), .int .i64 ((rd_T33 t451 x146_3).f1), .int .i64 ((rd_T33 t451 x146_3).f2), .int .i64 0]) ?_ 3 _ rfl; refine bU ?_; refine blk_put (cs := #[.int .i64 ((rd_T33 t451 x146_3).f0), .int .i64 ((rd_T33 t451 x146_3).f1), .int .i64 0, .int .i64 0]) ?_ 2 _ rfl; refine bU ?_; refine blk_put (cs := #[.int .i64 ((rd_T33 t451 x146_3).f0), .int .i64 0, .int .i64 0, .int .i64 0]) ?_ 1 _ rfl; refine bU ?_; refine blk_put (cs := #[.int .i64 0, .int .i64 0, .int .i64 0, .int .i64 0]) ?_ 0 _ rfl; refine bU ?_; exact BK460.out))⟩; replace HB : Aside0 (Below w.heap.size w w91) := ⟨(by rw [hw]; exact (lV3 GE443 GE448 GE460))⟩; clear hw))
                    repeat (go_quiet (first | ((with_reducible refine gate_dst (N := 24) rfl ?_); (try (refine gate_guard (by rfl) ?_; dsimp only)); refine box_event rfl (N := 24) rfl (cs := #[.int .i64 0, .int .i64 0, .int .i64 0, .int .i64 0]) (t := 33) sE ?_; intro gb460 hg w87 hbox hb; replace HO_8 := Aside0.mk (Kd.R_below (Kd.R_elderB (rU HO_8.out) gb460 (Nat.le_of_eq hg.symm)) hb); replace HO_19 := Aside0.mk (Kd.R_below (Kd.R_elderB (rU HO_19.out) gb460 (Nat.le_of_eq hg.symm)) hb); replace HO_144 := Aside0.mk (Kd.R_below (Kd.R_elderB (rU HO_144.out) gb460 (Nat.le_of_eq hg.symm)) hb); have BK460 := Aside0.mk hbox; have GW460 := gS w hg (lV2 GE443 GE448); have GE460 := gS w hg (lV2 GE443 GE448); replace HB := bH (lV2 GE443 GE448) hb; have NB443_460 := nL hg (bV BK443); have NB460_443 := nG hg (bV BK443); replace BK443 := bB (bV BK443) hb; have NB448_460 := nL hg (bV BK448); have NB460_448 := nG hg (bV BK448); replace BK448 := bB (bV BK448) hb; clear hb hbox hg; have hnb88 := NB460_443.out; have hnc88 := NB443_460.out; have hnb89 := NB460_448.out; have hnc89 := NB448_460.out; have hcz90_0 := cz BK460 0 (.int .i64 0); have hcz90_1 := cz BK460 1 (.int .i64 0); have hcz90_2 := cz BK460 2 (.int .i64 0); have hcz90_3 := cz BK460 3 (.int .i64 0); have hfz90_0 := fz BK460 0; have hfz90_1 := fz BK460 1; have hfz90_2 := fz BK460 2; have hfz90_3 := fz BK460 3) | ((with_reducible refine gate_store (t := 33) (p := 24) rfl ?_); (try (rw [drewN_self w87]; generalize hq_ : World.drewN w87 _ = w87; replace HO_8 := Aside0.mk (Kd.R_at hq_ HO_8.out); replace HO_19 := Aside0.mk (Kd.R_at hq_ HO_19.out); replace HO_144 := Aside0.mk (Kd.R_at hq_ HO_144.out); replace BK443 := Aside0.mk (blk_at hq_ BK443.out); replace BK448 := Aside0.mk (blk_at hq_ BK448.out); replace BK460 := Aside0.mk (blk_at hq_ BK460.out); replace HB := Aside0.mk (below_at hq_ HB.out); clear hq_)); refine store_event (t := 33) (p := 24) (v := ?vo_w91) (w1 := ((((w87.setCell ⟨gb460, 0, none⟩ (.int .i64 ((rd_T33 t451 x146_3).f0))).setCell ⟨gb460, 1, none⟩ (.int .i64 ((rd_T33 t451 x146_3).f1))).setCell ⟨gb460, 2, none⟩ (.int .i64 ((rd_T33 t451 x146_3).f2))).setCell ⟨gb460, 3, none⟩ (.int .i64 ((rd_T33 t451 x146_3).f3)))) ?hg ?ho ?hn ?hr ?_; (case ho => rfl); (case hg => rfl); (case hn => rfl); (case hr => first | (go_simp; done) | (go_simp; rfl) | (have hq0_ := (blk_cell BK460.out 0).trans (show _ = some _ from rfl); have hf0_ := blk_frozen BK460.out 0; have hq1_ := (blk_cell BK460.out 1).trans (show _ = some _ from rfl); have hf1_ := blk_frozen BK460.out 1; have hq2_ := (blk_cell BK460.out 2).trans (show _ = some _ from rfl); have hf2_ := blk_frozen BK460.out 2; have hq3_ := (blk_cell BK460.out 3).trans (show _ = some _ from rfl); have hf3_ := blk_frozen BK460.out 3; first | (go_simp; done) | (go_simp; rfl))); intro w91 hw; replace HO_8 : Aside0 (Kd.R k33 33 w91 w.heap.size (fun k_ => some k_ ≠ (.slice (some ad459) t451.length co82 : Value).ownBlock ∧ some k_ ≠ (.slice (some ad459) t451.length co82 : Value).ownBlock ∧ k_ ≠ gb460) (.slice Ao24 t431.length co24) t431) := ⟨(by rw [hw]; exact (by (with_reducible repeat (first | apply Kd.R_alloc | apply Kd.R_drewN | apply Kd.R_drew)); exact Kd.R_mono (Kd.R_far (p := ⟨gb460, 3, none⟩) (Kd.R_far (p := ⟨gb460, 2, none⟩) (Kd.R_far (p := ⟨gb460, 1, none⟩) (Kd.R_far (p := ⟨gb460, 0, none⟩) (Kd.R_mono HO_8.out (fun k_ hk => (⟨hk, hk.2⟩ : _ ∧ k_ ≠ gb460))) (fun _ hk => hk.2) (.int .i64 ((rd_T33 t451 x146_3).f0))) (fun _ hk => hk.2) (.int .i64 ((rd_T33 t451 x146_3).f1))) (fun _ hk => hk.2) (.int .i64 ((rd_T33 t451 x146_3).f2))) (fun _ hk => hk.2) (.int .i64 ((rd_T33 t451 x146_3).f3))) (fun _ hk => ⟨hk.1.1.1, ⟨hk.1.1.2, hk.1.2⟩⟩)))⟩; replace HO_19 : Aside0 (Kd.R k33 33 w91 w.heap.size (fun k_ => some k_ ≠ (.slice Ao24 t431.length co24 : Value).ownBlock ∧ k_ ≠ gb460) (.slice (some ad459) t451.length co82) t451) := ⟨(by rw [hw]; exact (by (with_reducible repeat (first | apply Kd.R_alloc | apply Kd.R_drewN | apply Kd.R_drew)); exact Kd.R_mono (Kd.R_far (p := ⟨gb460, 3, none⟩) (Kd.R_far (p := ⟨gb460, 2, none⟩) (Kd.R_far (p := ⟨gb460, 1, none⟩) (Kd.R_far (p := ⟨gb460, 0, none⟩) (Kd.R_mono HO_19.out (fun k_ hk => (⟨hk, hk.2⟩ : _ ∧ k_ ≠ gb460))) (fun _ hk => hk.2) (.int .i64 ((rd_T33 t451 x146_3).f0))) (fun _ hk => hk.2) (.int .i64 ((rd_T33 t451 x146_3).f1))) (fun _ hk => hk.2) (.int .i64 ((rd_T33 t451 x146_3).f2))) (fun _ hk => hk.2) (.int .i64 ((rd_T33 t451 x146_3).f3))) (fun _ hk => ⟨hk.1.1, hk.1.2⟩)))⟩; replace HO_144 : Aside0 (Kd.R k33 33 w91 w.heap.size (fun k_ => some k_ ≠ (.slice Ao24 t431.length co24 : Value).ownBlock ∧ k_ ≠ gb460) (.slice (some ad459) t451.length co82) t451) := ⟨(by rw [hw]; exact (by (with_reducible repeat (first | apply Kd.R_alloc | apply Kd.R_drewN | apply Kd.R_drew)); exact Kd.R_mono (Kd.R_far (p := ⟨gb460, 3, none⟩) (Kd.R_far (p := ⟨gb460, 2, none⟩) (Kd.R_far (p := ⟨gb460, 1, none⟩) (Kd.R_far (p := ⟨gb460, 0, none⟩) (Kd.R_mono HO_144.out (fun k_ hk => (⟨hk, hk.2⟩ : _ ∧ k_ ≠ gb460))) (fun _ hk => hk.2) (.int .i64 ((rd_T33 t451 x146_3).f0))) (fun _ hk => hk.2) (.int .i64 ((rd_T33 t451 x146_3).f1))) (fun _ hk => hk.2) (.int .i64 ((rd_T33 t451 x146_3).f2))) (fun _ hk => hk.2) (.int .i64 ((rd_T33 t451 x146_3).f3))) (fun _ hk => ⟨hk.1.1, hk.1.2⟩)))⟩; replace BK443 : Aside0 (w91.heap[gb443]? = some (.cells #[.int .i64 t439, .int .i64 t440, .int .i64 t441] 29 (0, 0))) := ⟨(by rw [hw]; exact (bG NB443_460 BK443))⟩; replace BK448 : Aside0 (w91.heap[gb448]? = some (.cells #[.int .i64 t444, .int .i64 t445, .int .i64 t446] 29 (0, 0))) := ⟨(by rw [hw]; exact (bG NB448_460 BK448))⟩; replace BK460 : Aside0 (w91.heap[gb460]? = some (.cells #[.int .i64 ((rd_T33 t451 x146_3).f0), .int .i64 ((rd_T33 t451 x146_3).f1), .int .i64 ((rd_T33 t451 x146_3).f2), .int .i64 ((rd_T33 t451 x146_3).f3)] 33 (0, 0))) := ⟨(by rw [hw]; exact (by refine bU ?_; refine blk_put (cs := #[.int .i64 ((rd_T33 t451 x146_3).f0), .int .i64 ((rd_T33 t451 x146_3).f1), .int .i64 ((rd_T33 t451 x146_3).f2), .int .i64 0]) ?_ 3 _ rfl; refine bU ?_; refine blk_put (cs := #[.int .i64 ((rd_T33 t451 x146_3).f0), .int .i64 ((rd_T33 t451 x146_3).f1), .int .i64 0, .int .i64 0]) ?_ 2 _ rfl; refine bU ?_; refine blk_put (cs := #[.int .i64 ((rd_T33 t451 x146_3).f0), .int .i64 0, .int .i64 0, .int .i64 0]) ?_ 1 _ rfl; refine bU ?_; refine blk_put (cs := #[.int .i64 0, .int .i64 0, .int .i64 0, .int .i64 0]) ?_ 0 _ rfl; refine bU ?_; exact BK460.out))⟩; replace HB : Aside0 (Below w.heap.size w w91) := ⟨(by rw [hw]; exact (lV3 GE443 GE448 GE460))⟩; clear hw)); go_upto_region 28 with (first | ((with_reducible refine gate_dst (N := 24) rfl ?_); (try (refine gate_guard (by rfl) ?_; dsimp only)); refine box_event rfl (N := 24) rfl (cs := #[.int .i64 0, .int .i64 0, .int .i64 0, .int .i64 0]) (t := 33) sE ?_; intro gb460 hg w87 hbox hb; replace HO_8 := Aside0.mk (Kd.R_below (Kd.R_elderB (rU HO_8.out) gb460 (Nat.le_of_eq hg.symm)) hb); replace HO_19 := Aside0.mk (Kd.R_below (Kd.R_elderB (rU HO_19.out) gb460 (Nat.le_of_eq hg.symm)) hb); replace HO_144 := Aside0.mk (Kd.R_below (Kd.R_elderB (rU HO_144.out) gb460 (Nat.le_of_eq hg.symm)) hb); have BK460 := Aside0.mk hbox; have GW460 := gS w hg (lV2 GE443 GE448); have GE460 := gS w hg (lV2 GE443 GE448); replace HB := bH (lV2 GE443 GE448) hb; have NB443_460 := nL hg (bV BK443); have NB460_443 := nG hg (bV BK443); replace BK443 := bB (bV BK443) hb; have NB448_460 := nL hg (bV BK448); have NB460_448 := nG hg (bV BK448); replace BK448 := bB (bV BK448) hb; clear hb hbox hg; have hnb88 := NB460_443.out; have hnc88 := NB443_460.out; have hnb89 := NB460_448.out; have hnc89 := NB448_460.out; have hcz90_0 := cz BK460 0 (.int .i64 0); have hcz90_1 := cz BK460 1 (.int .i64 0); have hcz90_2 := cz BK460 2 (.int .i64 0); have hcz90_3 := cz BK460 3 (.int .i64 0); have hfz90_0 := fz BK460 0; have hfz90_1 := fz BK460 1; have hfz90_2 := fz BK460 2; have hfz90_3 := fz BK460 3) | ((with_reducible refine gate_store (t := 33) (p := 24) rfl ?_); (try (rw [drewN_self w87]; generalize hq_ : World.drewN w87 _ = w87; replace HO_8 := Aside0.mk (Kd.R_at hq_ HO_8.out); replace HO_19 := Aside0.mk (Kd.R_at hq_ HO_19.out); replace HO_144 := Aside0.mk (Kd.R_at hq_ HO_144.out); replace BK443 := Aside0.mk (blk_at hq_ BK443.out); replace BK448 := Aside0.mk (blk_at hq_ BK448.out); replace BK460 := Aside0.mk (blk_at hq_ BK460.out); replace HB := Aside0.mk (below_at hq_ HB.out); clear hq_)); refine store_event (t := 33) (p := 24) (v := ?vo_w91) (w1 := ((((w87.setCell ⟨gb460, 0, none⟩ (.int .i64 ((rd_T33 t451 x146_3).f0))).setCell ⟨gb460, 1, none⟩ (.int .i64 ((rd_T33 t451 x146_3).f1))).setCell ⟨gb460, 2, none⟩ (.int .i64 ((rd_T33 t451 x146_3).f2))).setCell ⟨gb460, 3, none⟩ (.int .i64 ((rd_T33 t451 x146_3).f3)))) ?hg ?ho ?hn ?hr ?_; (case ho => rfl); (case hg => rfl); (case hn => rfl); (case hr => first | (go_simp; done) | (go_simp; rfl) | (have hq0_ := (blk_cell BK460.out 0).trans (show _ = some _ from rfl); have hf0_ := blk_frozen BK460.out 0; have hq1_ := (blk_cell BK460.out 1).trans (show _ = some _ from rfl); have hf1_ := blk_frozen BK460.out 1; have hq2_ := (blk_cell BK460.out 2).trans (show _ = some _ from rfl); have hf2_ := blk_frozen BK460.out 2; have hq3_ := (blk_cell BK460.out 3).trans (show _ = some _ from rfl); have hf3_ := blk_frozen BK460.out 3; first | (go_simp; done) | (go_simp; rfl))); intro w91 hw; replace HO_8 : Aside0 (Kd.R k33 33 w91 w.heap.size (fun k_ => some k_ ≠ (.slice (some ad459) t451.length co82 : Value).ownBlock ∧ some k_ ≠ (.slice (some ad459) t451.length co82 : Value).ownBlock ∧ k_ ≠ gb460) (.slice Ao24 t431.length co24) t431) := ⟨(by rw [hw]; exact (by (with_reducible repeat (first | apply Kd.R_alloc | apply Kd.R_drewN | apply Kd.R_drew)); exact Kd.R_mono (Kd.R_far (p := ⟨gb460, 3, none⟩) (Kd.R_far (p := ⟨gb460, 2, none⟩) (Kd.R_far (p := ⟨gb460, 1, none⟩) (Kd.R_far (p := ⟨gb460, 0, none⟩) (Kd.R_mono HO_8.out (fun k_ hk => (⟨hk, hk.2⟩ : _ ∧ k_ ≠ gb460))) (fun _ hk => hk.2) (.int .i64 ((rd_T33 t451 x146_3).f0))) (fun _ hk => hk.2) (.int .i64 ((rd_T33 t451 x146_3).f1))) (fun _ hk => hk.2) (.int .i64 ((rd_T33 t451 x146_3).f2))) (fun _ hk => hk.2) (.int .i64 ((rd_T33 t451 x146_3).f3))) (fun _ hk => ⟨hk.1.1.1, ⟨hk.1.1.2, hk.1.2⟩⟩)))⟩; replace HO_19 : Aside0 (Kd.R k33 33 w91 w.heap.size (fun k_ => some k_ ≠ (.slice Ao24 t431.length co24 : Value).ownBlock ∧ k_ ≠ gb460) (.slice (some ad459) t451.length co82) t451) := ⟨(by rw [hw]; exact (by (with_reducible repeat (first | apply Kd.R_alloc | apply Kd.R_drewN | apply Kd.R_drew)); exact Kd.R_mono (Kd.R_far (p := ⟨gb460, 3, none⟩) (Kd.R_far (p := ⟨gb460, 2, none⟩) (Kd.R_far (p := ⟨gb460, 1, none⟩) (Kd.R_far (p := ⟨gb460, 0, none⟩) (Kd.R_mono HO_19.out (fun k_ hk => (⟨hk, hk.2⟩ : _ ∧ k_ ≠ gb460))) (fun _ hk => hk.2) (.int .i64 ((rd_T33 t451 x146_3).f0))) (fun _ hk => hk.2) (.int .i64 ((rd_T33 t451 x146_3).f1))) (fun _ hk => hk.2) (.int .i64 ((rd_T33 t451 x146_3).f2))) (fun _ hk => hk.2) (.int .i64 ((rd_T33 t451 x146_3).f3))) (fun _ hk => ⟨hk.1.1, hk.1.2⟩)))⟩; replace HO_144 : Aside0 (Kd.R k33 33 w91 w.heap.size (fun k_ => some k_ ≠ (.slice Ao24 t431.length co24 : Value).ownBlock ∧ k_ ≠ gb460) (.slice (some ad459) t451.length co82) t451) := ⟨(by rw [hw]; exact (by (with_reducible repeat (first | apply Kd.R_alloc | apply Kd.R_drewN | apply Kd.R_drew)); exact Kd.R_mono (Kd.R_far (p := ⟨gb460, 3, none⟩) (Kd.R_far (p := ⟨gb460, 2, none⟩) (Kd.R_far (p := ⟨gb460, 1, none⟩) (Kd.R_far (p := ⟨gb460, 0, none⟩) (Kd.R_mono HO_144.out (fun k_ hk => (⟨hk, hk.2⟩ : _ ∧ k_ ≠ gb460))) (fun _ hk => hk.2) (.int .i64 ((rd_T33 t451 x146_3).f0))) (fun _ hk => hk.2) (.int .i64 ((rd_T33 t451 x146_3).f1))) (fun _ hk => hk.2) (.int .i64 ((rd_T33 t451 x146_3).f2))) (fun _ hk => hk.2) (.int .i64 ((rd_T33 t451 x146_3).f3))) (fun _ hk => ⟨hk.1.1, hk.1.2⟩)))⟩; replace BK443 : Aside0 (w91.heap[gb443]? = some (.cells #[.int .i64 t439, .int .i64 t440, .int .i64 t441] 29 (0, 0))) := ⟨(by rw [hw]; exact (bG NB443_460 BK443))⟩; replace BK448 : Aside0 (w91.heap[gb448]? = some (.cells #[.int .i64 t444, .int .i64 t445, .int .i64 t446] 29 (0, 0))) := ⟨(by rw [hw]; exact (bG NB448_460 BK448))⟩; replace BK460 : Aside0 (w91.heap[gb460]? = some (.cells #[.int .i64 ((rd_T33 t451 x146_3).f0), .int .i64 ((rd_T33 t451 x146_3).f1), .int .i64 ((rd_T33 t451 x146_3).f2), .int .i64 ((rd_T33 t451 x146_3).f3)] 33 (0, 0))) := ⟨(by rw [hw]; exact (by refine bU ?_; refine blk_put (cs := #[.int .i64 ((rd_T33 t451 x146_3).f0), .int .i64 ((rd_T33 t451 x146_3).f1), .int .i64 ((rd_T33 t451 x146_3).f2), .int .i64 0]) ?_ 3 _ rfl; refine bU ?_; refine blk_put (cs := #[.int .i64 ((rd_T33 t451 x146_3).f0), .int .i64 ((rd_T33 t451 x146_3).f1), .int .i64 0, .int .i64 0]) ?_ 2 _ rfl; refine bU ?_; refine blk_put (cs := #[.int .i64 ((rd_T33 t451 x146_3).f0), .int .i64 0, .int .i64 0, .int .i64 0]) ?_ 1 _ rfl; refine bU ?_; refine blk_put (cs := #[.int .i64 0, .int .i64 0, .int .i64 0, .int .i64 0]) ?_ 0 _ rfl; refine bU ?_; exact BK460.out))⟩; replace HB : Aside0 (Below w.heap.size w w91) := ⟨(by rw [hw]; exact (lV3 GE443 GE448 GE460))⟩; clear hw)))
                    (try simp only [Act.put, List.setIfInBounds_toArray, List.set_cons_zero, List.set_cons_succ])
                    go_cut [188] (fun v188 wc => ∃ (kq : Nat) (x188_85 : Bool), v188 = .bool x188_85 ∧ Aside0 (laws_FnPushed.j3 kq l1 t431 t451 t451 (t451.length : Int) x146_3 x188_85 = some r) ∧ Aside0 (kq ≤ k3) ∧ Aside0 (Kd.R k33 33 wc w.heap.size (fun k_ => some k_ ≠ ((.slice (some ad459) t451.length co82) : Value).ownBlock ∧ some k_ ≠ ((.slice (some ad459) t451.length co82) : Value).ownBlock ∧ k_ ≠ gb460) (.slice Ao24 t431.length co24) t431) ∧ Aside0 (Kd.R k33 33 wc w.heap.size (fun k_ => some k_ ≠ ((.slice Ao24 t431.length co24) : Value).ownBlock ∧ k_ ≠ gb460) (.slice (some ad459) t451.length co82) t451) ∧ Aside0 (Kd.R k33 33 wc w.heap.size (fun k_ => some k_ ≠ ((.slice Ao24 t431.length co24) : Value).ownBlock ∧ k_ ≠ gb460) (.slice (some ad459) t451.length co82) t451) ∧ Aside0 (wc.heap[gb443]? = some (.cells #[.int .i64 t439, .int .i64 t440, .int .i64 t441] 29 (0, 0))) ∧ Aside0 (wc.heap[gb448]? = some (.cells #[.int .i64 t444, .int .i64 t445, .int .i64 t446] 29 (0, 0))) ∧ Aside0 (wc.heap[gb460]? = some (.cells #[.int .i64 ((rd_T33 t451 x146_3).f0), .int .i64 ((rd_T33 t451 x146_3).f1), .int .i64 ((rd_T33 t451 x146_3).f2), .int .i64 ((rd_T33 t451 x146_3).f3)] 33 (0, 0))) ∧ Aside0 (Below w.heap.size w wc))
                    case first => as_aux_lemma =>
                     have H := HC86.out
                     clear HC86
                     by_cases c92 : ((rd_T33 t451 x146_3).f2) = 0
                     ·rw [if_pos c92] at H
                      have c92b0 : (((rd_T33 t451 x146_3).f2) == 0) = true := beq_iff_eq.mpr c92
                      have c92b1 : (((rd_T33 t451 x146_3).f2) != 0) = false := bne_eq_false_iff_eq.mpr c92
                      clear c92
                      (first | rw [c92b0] | (simp only [i64_w, i32_w]; rw [c92b0]) | (rw [c92b2]; simp only [Bool.not_false, Bool.not_true]) | skip)
                      by_cases c93 : x146_3 < (t431.length : Int)
                      ·rw [if_pos c93] at H
                       have c93b0 : decide (x146_3 < (t431.length : Int)) = true := decide_eq_true c93
                       clear c93
                       by_cases c94 : ((rd_T33 t451 x146_3).f0) = ((rd_T33 t431 x146_3).f0)
                       ·rw [if_pos c94] at H
                        have c94b0 : (((rd_T33 t451 x146_3).f0) == ((rd_T33 t431 x146_3).f0)) = true := beq_iff_eq.mpr c94
                        have c94b1 : (((rd_T33 t451 x146_3).f0) != ((rd_T33 t431 x146_3).f0)) = false := bne_eq_false_iff_eq.mpr c94
                        clear c94
                        by_cases c95 : x146_3 > 0
                        ·rw [if_pos c95] at H
                         have c95b0 : decide (0 < x146_3) = true := decide_eq_true c95
                         clear c95
                         obtain ⟨ji96, hji96⟩ : ∃ j_ : Int, (wrap64 (x146_3 - 1)) = j_ := ⟨_, rfl⟩
                         replace H : (if 0 ≤ (ji96) then (if (ji96) < (t451.length : Int) then (laws_FnPushed.j3 k3 l1 t431 t451 t451 (t451.length : Int) x146_3 (decide ((wrap64 (((rd_T33 t451 (ji96)).f0) + ((rd_T33 t451 (ji96)).f3))) > (wrap64 (((rd_T33 t451 x146_3).f0) - ((rd_T33 t451 x146_3).f3)))))) else (none)) else (none)) = some r := by first | (rw [hji96] at H; exact H) | (simp only [hji96] at H ⊢; exact H)
                         have hji96w : (IntKind.i64.wrap (x146_3 - 1)) = ji96 := (i64_w _).trans hji96
                         by_cases c97 : 0 ≤ (ji96)
                         ·rw [if_pos c97] at H
                          have c97b0 : decide (0 ≤ (ji96)) = true := decide_eq_true c97
                          clear c97
                          by_cases c98 : (ji96) < (t451.length : Int)
                          ·rw [if_pos c98] at H
                           have c98b0 : decide ((ji96) < (t451.length : Int)) = true := decide_eq_true c98
                           clear c98
                           have H' := Aside0.mk H
                           clear H
                           have hnb99 := NB460_443.out
                           have hnc99 := NB443_460.out
                           have hnb100 := NB460_448.out
                           have hnc100 := NB448_460.out
                           have hcz101_0 := cz BK460 0 (.int .i64 ((rd_T33 t451 x146_3).f0))
                           have hcz101_1 := cz BK460 1 (.int .i64 ((rd_T33 t451 x146_3).f1))
                           have hcz101_2 := cz BK460 2 (.int .i64 ((rd_T33 t451 x146_3).f2))
                           have hcz101_3 := cz BK460 3 (.int .i64 ((rd_T33 t451 x146_3).f3))
                           have hfz101_0 := fz BK460 0
                           have hfz101_1 := fz BK460 1
                           have hfz101_2 := fz BK460 2
                           have hfz101_3 := fz BK460 3
                           have p461 : 0 ≤ (x146_3 : Int) := of_decide_eq_true hE
                           have q461 : x146_3 < (t431.length : Int) := of_decide_eq_true hE
                           obtain ⟨ad461, e461, hx461_0, hx461_1, hx461_2, hx461_3⟩ := at_T33 (Kd.R_reads' HO_8.out).2.2 x146_3 p461 q461
                           cases e461
                           replace p461 := eq_true p461
                           replace q461 := eq_true q461
                           have p462 : 0 ≤ ((ji96) : Int) := of_decide_eq_true hE
                           have q462 : (ji96) < (t451.length : Int) := of_decide_eq_true hE
                           obtain ⟨ad462, e462, hx462_0, hx462_1, hx462_2, hx462_3⟩ := at_T33 (Kd.R_reads' HO_19.out).2.2 (ji96) p462 q462
                           obtain rfl : ad459 = ad462 := (by injection e462)
                           replace p462 := eq_true p462
                           replace q462 := eq_true q462
                           have p463 : 0 ≤ ((ji96) : Int) := of_decide_eq_true hE
                           have q463 : (ji96) < (t451.length : Int) := of_decide_eq_true hE
                           obtain ⟨ad463, e463, hx463_0, hx463_1, hx463_2, hx463_3⟩ := at_T33 (Kd.R_reads' HO_19.out).2.2 (ji96) p463 q463
                           obtain rfl : ad459 = ad463 := (by injection e463)
                           replace p463 := eq_true p463
                           replace q463 := eq_true q463
                           go_wp2
                           repeat (go_quiet (fail); try go_wp2)
                           go_meet
                           case rel => exact ⟨_, (decide ((wrap64 (((rd_T33 t451 (ji96)).f0) + ((rd_T33 t451 (ji96)).f3))) > (wrap64 (((rd_T33 t451 x146_3).f0) - ((rd_T33 t451 x146_3).f3))))), (by first | rfl | (simp; done) | (simp only [← hji96] <;> (first | rfl | simp)) | (simp [*]; done) | exact not_isEmpty _ | exact (not_isEmpty _).symm | exact is_empty _ | exact (is_empty _).symm), H', ⟨by have := HK1.out; have := HJ44.out; have := HK3.out; first | omega | exact Nat.le_refl _⟩, ⟨by (with_reducible repeat (first | apply Kd.R_alloc | apply Kd.R_drewN | apply Kd.R_drew)); exact HO_8.out⟩, ⟨by (with_reducible repeat (first | apply Kd.R_alloc | apply Kd.R_drewN | apply Kd.R_drew)); exact HO_19.out⟩, ⟨by (with_reducible repeat (first | apply Kd.R_alloc | apply Kd.R_drewN | apply Kd.R_drew)); exact HO_144.out⟩, ⟨by refine bU ?_; exact BK443.out⟩, ⟨by refine bU ?_; exact BK448.out⟩, ⟨by refine bU ?_; exact BK460.out⟩, ⟨by repeat (first | (with_reducible first | exact HB.out | apply below_alloc | apply pw_below_drewN | apply below_drew1 | refine below_set ?_ GE443.out | refine below_set ?_ GE448.out | refine below_set ?_ GE460.out) | exact HB.out)⟩⟩
                          ·rw [if_neg c98] at H
                           exact absurd H (by simp)
                         ·rw [if_neg c97] at H
                          exact absurd H (by simp)
                        ·rw [if_neg c95] at H
                         have c95b0 : decide (0 < x146_3) = false := decide_eq_false c95
                         clear c95
                         have H' := Aside0.mk H
                         clear H
                         have hnb102 := NB460_443.out
                         have hnc102 := NB443_460.out
                         have hnb103 := NB460_448.out
                         have hnc103 := NB448_460.out
                         have hcz104_0 := cz BK460 0 (.int .i64 ((rd_T33 t451 x146_3).f0))
                         have hcz104_1 := cz BK460 1 (.int .i64 ((rd_T33 t451 x146_3).f1))
                         have hcz104_2 := cz BK460 2 (.int .i64 ((rd_T33 t451 x146_3).f2))
                         have hcz104_3 := cz BK460 3 (.int .i64 ((rd_T33 t451 x146_3).f3))
                         have hfz104_0 := fz BK460 0
                         have hfz104_1 := fz BK460 1
                         have hfz104_2 := fz BK460 2
                         have hfz104_3 := fz BK460 3
                         have p461 : 0 ≤ (x146_3 : Int) := of_decide_eq_true hE
                         have q461 : x146_3 < (t431.length : Int) := of_decide_eq_true hE
                         obtain ⟨ad461, e461, hx461_0, hx461_1, hx461_2, hx461_3⟩ := at_T33 (Kd.R_reads' HO_8.out).2.2 x146_3 p461 q461
                         cases e461
                         replace p461 := eq_true p461
                         replace q461 := eq_true q461
                         go_wp2
                         repeat (go_quiet (fail); try go_wp2)
                         go_meet
                         case rel => exact ⟨_, (false), tE, H', ⟨by have := HK1.out; have := HJ44.out; have := HK3.out; first | omega | exact Nat.le_refl _⟩, ⟨by (with_reducible repeat (first | apply Kd.R_alloc | apply Kd.R_drewN | apply Kd.R_drew)); exact HO_8.out⟩, ⟨by (with_reducible repeat (first | apply Kd.R_alloc | apply Kd.R_drewN | apply Kd.R_drew)); exact HO_19.out⟩, ⟨by (with_reducible repeat (first | apply Kd.R_alloc | apply Kd.R_drewN | apply Kd.R_drew)); exact HO_144.out⟩, ⟨by refine bU ?_; exact BK443.out⟩, ⟨by refine bU ?_; exact BK448.out⟩, ⟨by refine bU ?_; exact BK460.out⟩, ⟨by repeat (first | (with_reducible first | exact HB.out | apply below_alloc | apply pw_below_drewN | apply below_drew1 | refine below_set ?_ GE443.out | refine below_set ?_ GE448.out | refine below_set ?_ GE460.out) | exact HB.out)⟩⟩
                       ·rw [if_neg c94] at H
                        have c94b0 : (((rd_T33 t451 x146_3).f0) == ((rd_T33 t431 x146_3).f0)) = false := beq_eq_false_iff_ne.mpr c94
                        have c94b1 : (((rd_T33 t451 x146_3).f0) != ((rd_T33 t431 x146_3).f0)) = true := bne_iff_ne.mpr c94
                        have H' := Aside0.mk H
                        clear H
                        have hnb105 := NB460_443.out
                        have hnc105 := NB443_460.out
                        have hnb106 := NB460_448.out
                        have hnc106 := NB448_460.out
                        have hcz107_0 := cz BK460 0 (.int .i64 ((rd_T33 t451 x146_3).f0))
                        have hcz107_1 := cz BK460 1 (.int .i64 ((rd_T33 t451 x146_3).f1))
                        have hcz107_2 := cz BK460 2 (.int .i64 ((rd_T33 t451 x146_3).f2))
                        have hcz107_3 := cz BK460 3 (.int .i64 ((rd_T33 t451 x146_3).f3))
                        have hfz107_0 := fz BK460 0
                        have hfz107_1 := fz BK460 1
                        have hfz107_2 := fz BK460 2
                        have hfz107_3 := fz BK460 3
                        have p461 : 0 ≤ (x146_3 : Int) := of_decide_eq_true hE
                        have q461 : x146_3 < (t431.length : Int) := of_decide_eq_true hE
                        obtain ⟨ad461, e461, hx461_0, hx461_1, hx461_2, hx461_3⟩ := at_T33 (Kd.R_reads' HO_8.out).2.2 x146_3 p461 q461
                        cases e461
                        replace p461 := eq_true p461
                        replace q461 := eq_true q461
                        go_wp2
                        repeat (go_quiet (fail); try go_wp2)
                        go_meet
                        case rel => exact ⟨_, (true), tE, H', ⟨by have := HK1.out; have := HJ44.out; have := HK3.out; first | omega | exact Nat.le_refl _⟩, ⟨by (with_reducible repeat (first | apply Kd.R_alloc | apply Kd.R_drewN | apply Kd.R_drew)); exact HO_8.out⟩, ⟨by (with_reducible repeat (first | apply Kd.R_alloc | apply Kd.R_drewN | apply Kd.R_drew)); exact HO_19.out⟩, ⟨by (with_reducible repeat (first | apply Kd.R_alloc | apply Kd.R_drewN | apply Kd.R_drew)); exact HO_144.out⟩, ⟨by refine bU ?_; exact BK443.out⟩, ⟨by refine bU ?_; exact BK448.out⟩, ⟨by refine bU ?_; exact BK460.out⟩, ⟨by repeat (first | (with_reducible first | exact HB.out | apply below_alloc | apply pw_below_drewN | apply below_drew1 | refine below_set ?_ GE443.out | refine below_set ?_ GE448.out | refine below_set ?_ GE460.out) | exact HB.out)⟩⟩
                      ·rw [if_neg c93] at H
                       exact absurd H (by simp)
                     ·rw [if_neg c92] at H
                      have c92b0 : (((rd_T33 t451 x146_3).f2) == 0) = false := beq_eq_false_iff_ne.mpr c92
                      have c92b1 : (((rd_T33 t451 x146_3).f2) != 0) = true := bne_iff_ne.mpr c92
                      (first | rw [c92b0] | (simp only [i64_w, i32_w]; rw [c92b0]) | (rw [c92b2]; simp only [Bool.not_false, Bool.not_true]) | skip)
                      by_cases c108 : x146_3 > 0
                      ·rw [if_pos c108] at H
                       have c108b0 : decide (0 < x146_3) = true := decide_eq_true c108
                       clear c108
                       obtain ⟨ji109, hji109⟩ : ∃ j_ : Int, (wrap64 (x146_3 - 1)) = j_ := ⟨_, rfl⟩
                       replace H : (if 0 ≤ (ji109) then (if (ji109) < (t451.length : Int) then (laws_FnPushed.j3 k3 l1 t431 t451 t451 (t451.length : Int) x146_3 (decide ((wrap64 (((rd_T33 t451 (ji109)).f0) + ((rd_T33 t451 (ji109)).f3))) > (wrap64 (((rd_T33 t451 x146_3).f0) - ((rd_T33 t451 x146_3).f3)))))) else (none)) else (none)) = some r := by first | (rw [hji109] at H; exact H) | (simp only [hji109] at H ⊢; exact H)
                       have hji109w : (IntKind.i64.wrap (x146_3 - 1)) = ji109 := (i64_w _).trans hji109
                       by_cases c110 : 0 ≤ (ji109)
                       ·rw [if_pos c110] at H
                        have c110b0 : decide (0 ≤ (ji109)) = true := decide_eq_true c110
                        clear c110
                        by_cases c111 : (ji109) < (t451.length : Int)
                        ·rw [if_pos c111] at H
                         have c111b0 : decide ((ji109) < (t451.length : Int)) = true := decide_eq_true c111
                         clear c111
                         have H' := Aside0.mk H
                         clear H
                         have hnb112 := NB460_443.out
                         have hnc112 := NB443_460.out
                         have hnb113 := NB460_448.out
                         have hnc113 := NB448_460.out
                         have hcz114_0 := cz BK460 0 (.int .i64 ((rd_T33 t451 x146_3).f0))
                         have hcz114_1 := cz BK460 1 (.int .i64 ((rd_T33 t451 x146_3).f1))
                         have hcz114_2 := cz BK460 2 (.int .i64 ((rd_T33 t451 x146_3).f2))
                         have hcz114_3 := cz BK460 3 (.int .i64 ((rd_T33 t451 x146_3).f3))
                         have hfz114_0 := fz BK460 0
                         have hfz114_1 := fz BK460 1
                         have hfz114_2 := fz BK460 2
                         have hfz114_3 := fz BK460 3
                         have p464 : 0 ≤ ((ji109) : Int) := of_decide_eq_true hE
                         have q464 : (ji109) < (t451.length : Int) := of_decide_eq_true hE
                         obtain ⟨ad464, e464, hx464_0, hx464_1, hx464_2, hx464_3⟩ := at_T33 (Kd.R_reads' HO_19.out).2.2 (ji109) p464 q464
                         obtain rfl : ad459 = ad464 := (by injection e464)
                         replace p464 := eq_true p464
                         replace q464 := eq_true q464
                         have p465 : 0 ≤ ((ji109) : Int) := of_decide_eq_true hE
                         have q465 : (ji109) < (t451.length : Int) := of_decide_eq_true hE
                         obtain ⟨ad465, e465, hx465_0, hx465_1, hx465_2, hx465_3⟩ := at_T33 (Kd.R_reads' HO_19.out).2.2 (ji109) p465 q465
                         obtain rfl : ad459 = ad465 := (by injection e465)
                         replace p465 := eq_true p465
                         replace q465 := eq_true q465
                         go_wp2
                         repeat (go_quiet (fail); try go_wp2)
                         go_meet
                         case rel => exact ⟨_, (decide ((wrap64 (((rd_T33 t451 (ji109)).f0) + ((rd_T33 t451 (ji109)).f3))) > (wrap64 (((rd_T33 t451 x146_3).f0) - ((rd_T33 t451 x146_3).f3))))), (by first | rfl | (simp; done) | (simp only [← hji109] <;> (first | rfl | simp)) | (simp [*]; done) | exact not_isEmpty _ | exact (not_isEmpty _).symm | exact is_empty _ | exact (is_empty _).symm), H', ⟨by have := HK1.out; have := HJ44.out; have := HK3.out; first | omega | exact Nat.le_refl _⟩, ⟨by (with_reducible repeat (first | apply Kd.R_alloc | apply Kd.R_drewN | apply Kd.R_drew)); exact HO_8.out⟩, ⟨by (with_reducible repeat (first | apply Kd.R_alloc | apply Kd.R_drewN | apply Kd.R_drew)); exact HO_19.out⟩, ⟨by (with_reducible repeat (first | apply Kd.R_alloc | apply Kd.R_drewN | apply Kd.R_drew)); exact HO_144.out⟩, ⟨by refine bU ?_; exact BK443.out⟩, ⟨by refine bU ?_; exact BK448.out⟩, ⟨by refine bU ?_; exact BK460.out⟩, ⟨by repeat (first | (with_reducible first | exact HB.out | apply below_alloc | apply pw_below_drewN | apply below_drew1 | refine below_set ?_ GE443.out | refine below_set ?_ GE448.out | refine below_set ?_ GE460.out) | exact HB.out)⟩⟩
                        ·rw [if_neg c111] at H
                         exact absurd H (by simp)
                       ·rw [if_neg c110] at H
                        exact absurd H (by simp)
                      ·rw [if_neg c108] at H
                       have c108b0 : decide (0 < x146_3) = false := decide_eq_false c108
                       clear c108
                       have H' := Aside0.mk H
                       clear H
                       have hnb115 := NB460_443.out
                       have hnc115 := NB443_460.out
                       have hnb116 := NB460_448.out
                       have hnc116 := NB448_460.out
                       have hcz117_0 := cz BK460 0 (.int .i64 ((rd_T33 t451 x146_3).f0))
                       have hcz117_1 := cz BK460 1 (.int .i64 ((rd_T33 t451 x146_3).f1))
                       have hcz117_2 := cz BK460 2 (.int .i64 ((rd_T33 t451 x146_3).f2))
                       have hcz117_3 := cz BK460 3 (.int .i64 ((rd_T33 t451 x146_3).f3))
                       have hfz117_0 := fz BK460 0
                       have hfz117_1 := fz BK460 1
                       have hfz117_2 := fz BK460 2
                       have hfz117_3 := fz BK460 3
                       go_wp2
                       repeat (go_quiet (fail); try go_wp2)
                       go_meet
                       case rel => exact ⟨_, (false), tE, H', ⟨by have := HK1.out; have := HJ44.out; have := HK3.out; first | omega | exact Nat.le_refl _⟩, ⟨by (with_reducible repeat (first | apply Kd.R_alloc | apply Kd.R_drewN | apply Kd.R_drew)); exact HO_8.out⟩, ⟨by (with_reducible repeat (first | apply Kd.R_alloc | apply Kd.R_drewN | apply Kd.R_drew)); exact HO_19.out⟩, ⟨by (with_reducible repeat (first | apply Kd.R_alloc | apply Kd.R_drewN | apply Kd.R_drew)); exact HO_144.out⟩, ⟨by refine bU ?_; exact BK443.out⟩, ⟨by refine bU ?_; exact BK448.out⟩, ⟨by refine bU ?_; exact BK460.out⟩, ⟨by repeat (first | (with_reducible first | exact HB.out | apply below_alloc | apply pw_below_drewN | apply below_drew1 | refine below_set ?_ GE443.out | refine below_set ?_ GE448.out | refine below_set ?_ GE460.out) | exact HB.out)⟩⟩
                    case rest => as_aux_lemma =>
                     clear HC86
                     try clear c1; try clear c3; try clear c3b0; try clear c7; try clear c7b0; try clear c7b1; try clear c7b2; try clear c17; try clear c30; try clear c30b0; try clear c30b2; try clear c62; try clear c63; try clear c63b0; try clear c63b1; try clear c64; try clear c64b0; try clear c64b1; try clear c65; try clear c65b0; try clear c71; try clear c71b0; try clear c71b1; try clear c71b2; try clear c83; try clear c83b0; try clear c84; try clear c84b0; try clear c85; try clear c85b0; try clear hcz22_0; try clear hcz22_1; try clear hcz22_2; try clear hcz28_0; try clear hcz28_1; try clear hcz28_2; try clear hcz78_0; try clear hcz78_1; try clear hcz78_2; try clear hcz79_0; try clear hcz79_1; try clear hcz79_2; try clear hcz90_0; try clear hcz90_1; try clear hcz90_2; try clear hcz90_3; try clear hfz22_0; try clear hfz22_1; try clear hfz22_2; try clear hfz28_0; try clear hfz28_1
                     try clear hfz28_2; try clear hfz78_0; try clear hfz78_1; try clear hfz78_2; try clear hfz79_0; try clear hfz79_1; try clear hfz79_2; try clear hfz90_0; try clear hfz90_1; try clear hfz90_2; try clear hfz90_3; try clear hx459_0; try clear hx459_1; try clear hx459_2; try clear hx459_3; try clear p459; try clear q459
                     obtain ⟨kq, x188_85, rfl, HA, HJ85, HO_8, HO_19, HO_144, BK443, BK448, BK460, HB⟩ := hcut
                     cases kq with
                     | zero => exact absurd HA.out (by simp [laws_FnPushed.j3])
                     | succ kj85 =>
                      have H := HA.out
                      clear HA
                      simp only [laws_FnPushed.j3] at H
                      by_cases c118 : x188_85 = true
                      ·subst c118
                       have H1 : (some false) = some r := by rw [if_pos rfl] at H; exact H
                       clear H
                       have H := H1
                       clear H1
                       obtain rfl := Option.some.inj H
                       go_wp2
                       repeat (go_quiet (fail); try go_wp2)
                       go_ret
                       exact ⟨eE, lV3 GE443 GE448 GE460⟩
                      ·replace c118 := Bool.eq_false_iff.mpr c118
                       subst c118
                       have H1 : (laws_FnPushed.l1 kj85 l1 t431 t451 t451 (t451.length : Int) (wrap64 (x146_3 + 1))) = some r := by rw [if_neg (show ¬ (false = true) by decide)] at H; exact H
                       clear H
                       have H := H1
                       clear H1
                       have H' := Aside0.mk H
                       clear H
                       go_wp2
                       repeat (go_quiet (fail); try go_wp2)
                       go_roundg kj85
                       case measure => have := HK1.out; have := HJ44.out; have := HK3.out; have := HJ85.out; omega
                       case rel => exact ⟨(wrap64 (x146_3 + 1)), tE, H', ⟨by have := HK1.out; have := HJ44.out; have := HK3.out; have := HJ85.out; omega⟩, ⟨by (with_reducible repeat (first | apply Kd.R_alloc | apply Kd.R_drewN | apply Kd.R_drew)); exact Kd.R_mono HO_8.out (fun _ hk => ⟨hk.1, hk.2.1⟩)⟩, ⟨by (with_reducible repeat (first | apply Kd.R_alloc | apply Kd.R_drewN | apply Kd.R_drew)); exact Kd.R_mono HO_19.out (fun _ hk => hk.1)⟩, ⟨by (with_reducible repeat (first | apply Kd.R_alloc | apply Kd.R_drewN | apply Kd.R_drew)); exact Kd.R_mono HO_144.out (fun _ hk => hk.1)⟩, ⟨by refine bU ?_; exact BK443.out⟩, ⟨by refine bU ?_; exact BK448.out⟩, ⟨by repeat (first | (with_reducible first | exact HB.out | apply below_alloc | apply pw_below_drewN | apply below_drew1 | refine below_set ?_ GE443.out | refine below_set ?_ GE448.out | refine below_set ?_ GE460.out) | exact HB.out)⟩⟩
                   ·rw [if_neg c85] at H
                    exact absurd H (by simp)
                  ·rw [if_neg c84] at H
                   exact absurd H (by simp)
                 ·rw [if_neg c83] at H
                  have c83b0 : decide (x146_3 < (t451.length : Int)) = false := decide_eq_false c83
                  clear c83
                  have H' := Aside0.mk H
                  clear H
                  go_wp2
                  repeat (go_quiet (fail); try go_wp2)
                  go_meet
                  case rel => exact ⟨_, H', ⟨by have := HK1.out; have := HJ44.out; have := HK3.out; first | omega | exact Nat.le_refl _⟩, ⟨by repeat (first | (with_reducible first | exact HB.out | apply below_alloc | apply pw_below_drewN | apply below_drew1 | refine below_set ?_ GE443.out | refine below_set ?_ GE448.out) | exact HB.out)⟩⟩
    ·replace c17 := Bool.eq_false_iff.mpr c17
     subst c17
     have H1 : (laws_FnPushed.j4 k l1) = some r := by rw [if_neg (show ¬ (false = true) by decide)] at H; exact H
     clear H
     have H := H1
     clear H1
     have H' := Aside0.mk H
     clear H
     go_wp2
     repeat (go_quiet (fail); try go_wp2)
     go_meet
     case rel => exact ⟨_, H', ⟨by first | omega | exact Nat.le_refl _⟩, ⟨by repeat (first | (with_reducible first | exact HB.out | apply below_alloc | apply pw_below_drewN | apply below_drew1) | exact HB.out)⟩⟩
   case rest => as_aux_lemma =>
    clear HC12
    try clear c1; try clear c3; try clear c3b0; try clear c7; try clear c7b0; try clear c7b1; try clear c7b2
    obtain ⟨kq, HA, HJ11, HB⟩ := hcut
    cases kq with
    | zero => exact absurd HA.out (by simp [laws_FnPushed.j4])
    | succ kj11 =>
     have H := HA.out
     clear HA
     simp only [laws_FnPushed.j4] at H
     replace H := Option.bind_eq_some_iff.mp H
     obtain ⟨⟨t466, t467, t468, t469⟩, A1190, H⟩ := H
     replace H : ((impl_StepIslands.f kj11 t466 t467 t468 t469).bind fun bt472 => (if bt472.2 = true then (laws_FnPushed.l2 kj11 t467 t468 t469 bt472.1 t466 (t466.length : Int) 0) else (some ((bt472.1.length : Int) == 0)))) = some r := H
     have A119 := Aside0.mk A1190
     clear A1190
     replace H := Option.bind_eq_some_iff.mp H
     obtain ⟨⟨t472, t473⟩, A1200, H⟩ := H
     replace H : (if t473 = true then (laws_FnPushed.l2 kj11 t467 t468 t469 t472 t466 (t466.length : Int) 0) else (some ((t472.length : Int) == 0))) = some r := H
     have A120 := Aside0.mk A1200
     clear A1200
     by_cases c121 : t473 = true
     ·subst c121
      have H1 : (laws_FnPushed.l2 kj11 t467 t468 t469 t472 t466 (t466.length : Int) 0) = some r := by rw [if_pos rfl] at H; exact H
      clear H
      have H := H1
      clear H1
      have H' := Aside0.mk H
      clear H
      go_wp2_with (first | (go_at_call 10; (with_reducible refine (spec_DrawStepIslands.calls kj11 _ _ l1 t466 t467 t468 t469 _ ?side1 ?side2 A119.out).mono ?_); (case side1 => exact cU (Kd.C_below HR1.out HB.out)); (case side2 => exact HC1.out); rintro e w122 ⟨v470, rfl, ho0, hb⟩; have HO471 := Aside0.mk (Kd.S_lower ho0 (below_size (lU))); replace HB := bH (lU) hb; (try clear hb); (try clear ho0); obtain ⟨Ao123, co123, eo123⟩ := Kd.S_slice HO471.out; subst eo123) | (go_at_call 11; (with_reducible refine (impl_StepIslands.calls kj11 _ _ t466 t467 t468 t469 t472 true _ ?side1 ?side2 A120.out).mono ?_); (case side1 => exact cU (Kd.S_reads' HO471.out).2.2); (case side2 => exact (Kd.S_reads' HO471.out).2.1); rintro e w124 ⟨v474, rfl, ho0, hb⟩; have HO475 := Aside0.mk (Kd.S_lower (Kd.S_new' ho0 (Kd.S_lt (by (with_reducible repeat (first | apply Kd.S_alloc | apply Kd.S_drewN | apply Kd.S_drew)); exact HO471.out))) (below_size (lU))); replace HO471 := Aside0.mk (Kd.S_elder' (by (with_reducible repeat (first | apply Kd.S_alloc | apply Kd.S_drewN | apply Kd.S_drew)); exact HO471.out) (Kd.S_base ho0) hb); replace HB := bH (lU) hb; (try clear hb); (try clear ho0)))
      (try simp only [Act.put, List.setIfInBounds_toArray, List.set_cons_zero, List.set_cons_succ])
      go_loopg [212] kj11 (fun kq v212 w' => ∃ (x212_2 : Int), v212 = .int .i64 x212_2 ∧ Aside0 (laws_FnPushed.l2 kq t467 t468 t469 t472 t466 (t466.length : Int) x212_2 = some r) ∧ Aside0 (kq ≤ kj11) ∧ Aside0 (Kd.S (Kd.slice 33 k33) 23 w' w.heap.size (fun k_ => some k_ ≠ ((.slice Ao123 t466.length co123) : Value).ownBlock) v474 t472) ∧ Aside0 (Kd.S (Kd.slice 33 k33) 23 w' w.heap.size (fun k_ => some k_ ≠ (v474 : Value).ownBlock) (.slice Ao123 t466.length co123) t466) ∧ Aside0 (Below w.heap.size w w'))
      case atStart => exact ⟨(0), tE, H', ⟨Nat.le_refl _⟩, ⟨by (with_reducible repeat (first | apply Kd.S_alloc | apply Kd.S_drewN | apply Kd.S_drew)); exact Kd.S_mono HO475.out (fun _ hk => hk.2)⟩, ⟨by (with_reducible repeat (first | apply Kd.S_alloc | apply Kd.S_drewN | apply Kd.S_drew)); exact Kd.S_mono HO471.out (fun _ hk => hk.2)⟩, ⟨by repeat (first | (with_reducible first | exact HB.out | apply below_alloc | apply pw_below_drewN | apply below_drew1) | exact HB.out)⟩⟩
      case round => as_aux_lemma =>
       clear H'
       try clear c1; try clear c3; try clear c3b0; try clear c7; try clear c7b0; try clear c7b1; try clear c7b2; try clear c121
       obtain ⟨x212_2, rfl, HA, HK2, HO_29, HO_210, HB⟩ := hrel
       cases gk with
       | zero => exact absurd HA.out (by simp [laws_FnPushed.l2])
       | succ k2 =>
        have H := HA.out
        clear HA
        simp only [laws_FnPushed.l2] at H
        by_cases c125 : x212_2 < (t466.length : Int)
        ·rw [if_pos c125] at H
         have c125b0 : decide (x212_2 < (t466.length : Int)) = true := decide_eq_true c125
         clear c125
         by_cases c126 : 0 ≤ x212_2
         ·rw [if_pos c126] at H
          have c126b0 : decide (0 ≤ x212_2) = true := decide_eq_true c126
          clear c126
          by_cases c127 : x212_2 < (t466.length : Int)
          ·rw [if_pos c127] at H
           have c127b0 : decide (x212_2 < (t466.length : Int)) = true := decide_eq_true c127
           clear c127
           replace H := Option.bind_eq_some_iff.mp H
           obtain ⟨⟨t477, t478⟩, A1280, H⟩ := H
           replace H : (if t478 = true then (if x212_2 < (t472.length : Int) then (laws_FnPushed.j6 k2 t467 t468 t469 t472 x212_2 t477 t466 (t466.length : Int) x212_2 ((t477.length : Int) != ((rd_L3 t472 x212_2).length : Int))) else (none)) else (laws_FnPushed.j6 k2 t467 t468 t469 t472 x212_2 t477 t466 (t466.length : Int) x212_2 true)) = some r := H
           have A128 := Aside0.mk A1280
           clear A1280
           have HC129 := Aside0.mk H
           clear H
           have p476 : 0 ≤ (x212_2 : Int) := of_decide_eq_true hE
           have q476 : x212_2 < (t466.length : Int) := of_decide_eq_true hE
           obtain ⟨ad476, A476_0, c476_0, e476, hx476_0, hl476_0, hi476_0⟩ := at_L3 (Kd.S_reads' HO_210.out).2.2 x212_2 p476 q476
           cases e476
           obtain ⟨ce476, hce476, hMe476, hcc476⟩ := Kd.S_get HO_210.out [] x212_2 p476 (by first | exact q476 | exact of_decide_eq_true hE | (have e_ := (Kd.S_reads' HO_210.out).1; omega))
           obtain ⟨ve476_0, rfl, ge476_0⟩ := hMe476
           have hv476_0 := hcc476 0 _ rfl
           rw [Nat.add_zero, show ((Kd.slice 33 k33)).sz = 1 from rfl, Nat.mul_one] at hv476_0
           replace hv476_0 := Option.some.inj (hv476_0.symm.trans hx476_0)
           rw [hv476_0] at ge476_0
           have HL476_0 := Aside0.mk (show Kd.R k33 33 _ _ _ _ (rd_L3 t466 x212_2) from ge476_0)
           clear hv476_0 ge476_0
           (try clear hcc476)
           (try clear hce476)
           have HR476_0 := Aside0.mk hi476_0
           have HC476_0 := Aside0.mk hl476_0
           clear hi476_0 hl476_0
           replace p476 := eq_true p476
           replace q476 := eq_true q476
           go_upto_region 39 with (first | (go_at_call 12; (with_reducible refine (impl_StepLine.calls k2 _ _ (rd_L3 t466 x212_2) t467 t468 t469 t477 t478 _ ?side1 ?side2 A128.out).mono ?_); (case side1 => repeat (first | exact (by repeat (first | (with_reducible exact HR476_0.out) | (with_reducible refine Kd.C_alloc ?_ _) | (with_reducible refine Kd.C_drewN ?_ _) | (with_reducible refine Kd.C_drew ?_) | exact HR476_0.out)) | (with_reducible refine Kd.C_alloc ?_ _) | (with_reducible refine Kd.C_drewN ?_ _) | (with_reducible refine Kd.C_drew ?_))); (case side2 => exact HC476_0.out); rintro e w130 ⟨v479, rfl, ho0, hb⟩; replace HO_29 := Aside0.mk (Kd.S_elder' (by (with_reducible repeat (first | apply Kd.S_alloc | apply Kd.S_drewN | apply Kd.S_drew)); exact HO_29.out) (Kd.R_base ho0) hb); replace HO_210 := Aside0.mk (Kd.S_elder' (by (with_reducible repeat (first | apply Kd.S_alloc | apply Kd.S_drewN | apply Kd.S_drew)); exact HO_210.out) (Kd.R_base ho0) hb); have HO480 := Aside0.mk (Kd.R_lower (Kd.R_new' ho0 (Kd.R_lt (rU HL476_0.out))) (below_size (lU))); replace HL476_0 := Aside0.mk (Kd.R_elder' (rU HL476_0.out) (Kd.R_base ho0) hb); replace HR476_0 := Aside0.mk (Kd.C_below (by repeat (first | (with_reducible exact HR476_0.out) | (with_reducible refine Kd.C_alloc ?_ _) | (with_reducible refine Kd.C_drewN ?_ _) | (with_reducible refine Kd.C_drew ?_) | exact HR476_0.out)) hb); replace HB := bH (lU) hb; (try clear hb); (try clear ho0)))
           (try simp only [Act.put, List.setIfInBounds_toArray, List.set_cons_zero, List.set_cons_succ])
           go_cut [236] (fun v236 wc => ∃ (kq : Nat) (x236_128 : Bool), v236 = .bool x236_128 ∧ Aside0 (laws_FnPushed.j6 kq t467 t468 t469 t472 x212_2 t477 t466 (t466.length : Int) x212_2 x236_128 = some r) ∧ Aside0 (kq ≤ k2) ∧ Aside0 (Kd.S (Kd.slice 33 k33) 23 wc w.heap.size (fun k_ => some k_ ≠ (v479 : Value).ownBlock ∧ some k_ ≠ ((.slice (some ad476) t466.length co123) : Value).ownBlock) v474 t472) ∧ Aside0 (Kd.R k33 33 wc w.heap.size (fun _ => True) v479 t477) ∧ Aside0 (Kd.S (Kd.slice 33 k33) 23 wc w.heap.size (fun k_ => some k_ ≠ (v474 : Value).ownBlock ∧ some k_ ≠ (v479 : Value).ownBlock) (.slice (some ad476) t466.length co123) t466) ∧ Aside0 (Kd.C k33 wc A476_0 (rd_L3 t466 x212_2).length (rd_L3 t466 x212_2)) ∧ Aside0 (Below w.heap.size w wc))
           case first => as_aux_lemma =>
            have H := HC129.out
            clear HC129
            by_cases c131 : t478 = true
            ·subst c131
             have H1 : (if x212_2 < (t472.length : Int) then (laws_FnPushed.j6 k2 t467 t468 t469 t472 x212_2 t477 t466 (t466.length : Int) x212_2 ((t477.length : Int) != ((rd_L3 t472 x212_2).length : Int))) else (none)) = some r := by rw [if_pos rfl] at H; exact H
             clear H
             have H := H1
             clear H1
             by_cases c132 : x212_2 < (t472.length : Int)
             ·rw [if_pos c132] at H
              have c132b0 : decide (x212_2 < (t472.length : Int)) = true := decide_eq_true c132
              clear c132
              (first | rw [c132b0] | (simp only [i64_w, i32_w]; rw [c132b0]) | (rw [c132b2]; simp only [Bool.not_false, Bool.not_true]) | skip)
              have H' := Aside0.mk H
              clear H
              obtain ⟨Ao133, co133, eo133⟩ := Kd.R_slice HO480.out
              subst eo133
              obtain ⟨Ao134, co134, eo134⟩ := Kd.S_slice HO_29.out
              subst eo134
              have p481 : 0 ≤ (x212_2 : Int) := of_decide_eq_true hE
              have q481 : x212_2 < (t472.length : Int) := of_decide_eq_true hE
              obtain ⟨ad481, A481_0, c481_0, e481, hx481_0, hl481_0, hi481_0⟩ := at_L3 (Kd.S_reads' HO_29.out).2.2 x212_2 p481 q481
              cases e481
              obtain ⟨ce481, hce481, hMe481, hcc481⟩ := Kd.S_get HO_29.out [] x212_2 p481 (by first | exact q481 | exact of_decide_eq_true hE | (have e_ := (Kd.S_reads' HO_29.out).1; omega))
              obtain ⟨ve481_0, rfl, ge481_0⟩ := hMe481
              have hv481_0 := hcc481 0 _ rfl
              rw [Nat.add_zero, show ((Kd.slice 33 k33)).sz = 1 from rfl, Nat.mul_one] at hv481_0
              replace hv481_0 := Option.some.inj (hv481_0.symm.trans hx481_0)
              rw [hv481_0] at ge481_0
              have HL481_0 := Aside0.mk (show Kd.R k33 33 _ _ _ _ (rd_L3 t472 x212_2) from ge481_0)
              clear hv481_0 ge481_0
              (try clear hcc481)
              (try clear hce481)
              have HR481_0 := Aside0.mk hi481_0
              have HC481_0 := Aside0.mk hl481_0
              clear hi481_0 hl481_0
              replace p481 := eq_true p481
              replace q481 := eq_true q481
              go_wp2
              repeat (go_quiet (fail); try go_wp2)
              go_meet
              case rel => exact ⟨_, (((t477.length : Int) != ((rd_L3 t472 x212_2).length : Int))), tE, H', ⟨by have := HJ11.out; have := HK2.out; first | omega | exact Nat.le_refl _⟩, ⟨by (with_reducible repeat (first | apply Kd.S_alloc | apply Kd.S_drewN | apply Kd.S_drew)); exact Kd.S_mono HO_29.out (fun _ hk => ⟨hk.2, hk.1⟩)⟩, ⟨by (with_reducible repeat (first | apply Kd.R_alloc | apply Kd.R_drewN | apply Kd.R_drew)); exact Kd.R_mono HO480.out (fun _ hk => trivial)⟩, ⟨by (with_reducible repeat (first | apply Kd.S_alloc | apply Kd.S_drewN | apply Kd.S_drew)); exact HO_210.out⟩, ⟨by repeat (first | (with_reducible exact HR476_0.out) | (with_reducible refine Kd.C_alloc ?_ _) | (with_reducible refine Kd.C_drewN ?_ _) | (with_reducible refine Kd.C_drew ?_) | exact HR476_0.out)⟩, ⟨by repeat (first | (with_reducible first | exact HB.out | apply below_alloc | apply pw_below_drewN | apply below_drew1) | exact HB.out)⟩⟩
             ·rw [if_neg c132] at H
              exact absurd H (by simp)
            ·replace c131 := Bool.eq_false_iff.mpr c131
             subst c131
             have H1 : (laws_FnPushed.j6 k2 t467 t468 t469 t472 x212_2 t477 t466 (t466.length : Int) x212_2 true) = some r := by rw [if_neg (show ¬ (false = true) by decide)] at H; exact H
             clear H
             have H := H1
             clear H1
             have H' := Aside0.mk H
             clear H
             go_wp2
             repeat (go_quiet (fail); try go_wp2)
             go_meet
             case rel => exact ⟨_, (true), tE, H', ⟨by have := HJ11.out; have := HK2.out; first | omega | exact Nat.le_refl _⟩, ⟨by (with_reducible repeat (first | apply Kd.S_alloc | apply Kd.S_drewN | apply Kd.S_drew)); exact Kd.S_mono HO_29.out (fun _ hk => ⟨hk.2, hk.1⟩)⟩, ⟨by (with_reducible repeat (first | apply Kd.R_alloc | apply Kd.R_drewN | apply Kd.R_drew)); exact Kd.R_mono HO480.out (fun _ hk => trivial)⟩, ⟨by (with_reducible repeat (first | apply Kd.S_alloc | apply Kd.S_drewN | apply Kd.S_drew)); exact HO_210.out⟩, ⟨by repeat (first | (with_reducible exact HR476_0.out) | (with_reducible refine Kd.C_alloc ?_ _) | (with_reducible refine Kd.C_drewN ?_ _) | (with_reducible refine Kd.C_drew ?_) | exact HR476_0.out)⟩, ⟨by repeat (first | (with_reducible first | exact HB.out | apply below_alloc | apply pw_below_drewN | apply below_drew1) | exact HB.out)⟩⟩
           case rest => as_aux_lemma =>
            clear HC129
            try clear c1; try clear c3; try clear c3b0; try clear c7; try clear c7b0; try clear c7b1; try clear c7b2; try clear c121; try clear c125; try clear c125b0; try clear c126; try clear c126b0; try clear c127; try clear c127b0; try clear hx476_0; try clear p476; try clear q476
            obtain ⟨kq, x236_128, rfl, HA, HJ128, HO_29, HO_33, HO_210, HR476_0, HB⟩ := hcut
            cases kq with
            | zero => exact absurd HA.out (by simp [laws_FnPushed.j6])
            | succ kj128 =>
             have H := HA.out
             clear HA
             simp only [laws_FnPushed.j6] at H
             by_cases c135 : x236_128 = true
             ·subst c135
              have H1 : (some false) = some r := by rw [if_pos rfl] at H; exact H
              clear H
              have H := H1
              clear H1
              obtain rfl := Option.some.inj H
              go_wp2
              repeat (go_quiet (fail); try go_wp2)
              go_ret
              exact ⟨eE, lU⟩
             ·replace c135 := Bool.eq_false_iff.mpr c135
              subst c135
              have H1 : (laws_FnPushed.l3 kj128 t467 t468 t469 t472 x212_2 t477 t466 (t466.length : Int) x212_2 (t477.length : Int) 0) = some r := by rw [if_neg (show ¬ (false = true) by decide)] at H; exact H
              clear H
              have H := H1
              clear H1
              have H' := Aside0.mk H
              clear H
              obtain ⟨Ao136, co136, eo136⟩ := Kd.R_slice HO_33.out
              subst eo136
              go_wp2
              repeat (go_quiet (fail); try go_wp2)
              go_loopg [239] kj128 (fun kq v239 w' => ∃ (x239_4 : Int), v239 = .int .i64 x239_4 ∧ Aside0 (laws_FnPushed.l3 kq t467 t468 t469 t472 x212_2 t477 t466 (t466.length : Int) x212_2 (t477.length : Int) x239_4 = some r) ∧ Aside0 (kq ≤ kj128) ∧ Aside0 (Kd.S (Kd.slice 33 k33) 23 w' w.heap.size (fun k_ => some k_ ≠ ((.slice Ao136 t477.length co136) : Value).ownBlock ∧ some k_ ≠ ((.slice (some ad476) t466.length co123) : Value).ownBlock) v474 t472) ∧ Aside0 (Kd.R k33 33 w' w.heap.size (fun _ => True) (.slice Ao136 t477.length co136) t477) ∧ Aside0 (Kd.S (Kd.slice 33 k33) 23 w' w.heap.size (fun k_ => some k_ ≠ (v474 : Value).ownBlock ∧ some k_ ≠ ((.slice Ao136 t477.length co136) : Value).ownBlock) (.slice (some ad476) t466.length co123) t466) ∧ Aside0 (Kd.C k33 w' A476_0 (rd_L3 t466 x212_2).length (rd_L3 t466 x212_2)) ∧ Aside0 (Below w.heap.size w w'))
              case atStart => exact ⟨(0), tE, H', ⟨Nat.le_refl _⟩, ⟨by (with_reducible repeat (first | apply Kd.S_alloc | apply Kd.S_drewN | apply Kd.S_drew)); exact HO_29.out⟩, ⟨by (with_reducible repeat (first | apply Kd.R_alloc | apply Kd.R_drewN | apply Kd.R_drew)); exact HO_33.out⟩, ⟨by (with_reducible repeat (first | apply Kd.S_alloc | apply Kd.S_drewN | apply Kd.S_drew)); exact HO_210.out⟩, ⟨by repeat (first | (with_reducible exact HR476_0.out) | (with_reducible refine Kd.C_alloc ?_ _) | (with_reducible refine Kd.C_drewN ?_ _) | (with_reducible refine Kd.C_drew ?_) | exact HR476_0.out)⟩, ⟨by repeat (first | (with_reducible first | exact HB.out | apply below_alloc | apply pw_below_drewN | apply below_drew1) | exact HB.out)⟩⟩
              case round => as_aux_lemma =>
               clear H'
               try clear c1; try clear c3; try clear c3b0; try clear c7; try clear c7b0; try clear c7b1; try clear c7b2; try clear c121; try clear c125; try clear c125b0; try clear c126; try clear c126b0; try clear c127; try clear c127b0; try clear c135; try clear hx476_0; try clear p476; try clear q476
               obtain ⟨x239_4, rfl, HA, HK4, HO_29, HO_33, HO_210, HR476_0, HB⟩ := hrel
               cases gk with
               | zero => exact absurd HA.out (by simp [laws_FnPushed.l3])
               | succ k4 =>
                have H := HA.out
                clear HA
                simp only [laws_FnPushed.l3] at H
                by_cases c137 : x239_4 < (t477.length : Int)
                ·rw [if_pos c137] at H
                 have c137b0 : decide (x239_4 < (t477.length : Int)) = true := decide_eq_true c137
                 clear c137
                 by_cases c138 : 0 ≤ x239_4
                 ·rw [if_pos c138] at H
                  have c138b0 : decide (0 ≤ x239_4) = true := decide_eq_true c138
                  clear c138
                  by_cases c139 : x239_4 < (t477.length : Int)
                  ·rw [if_pos c139] at H
                   have c139b0 : decide (x239_4 < (t477.length : Int)) = true := decide_eq_true c139
                   clear c139
                   by_cases c140 : 0 ≤ x212_2
                   ·rw [if_pos c140] at H
                    have c140b0 : decide (0 ≤ x212_2) = true := decide_eq_true c140
                    clear c140
                    by_cases c141 : x212_2 < (t472.length : Int)
                    ·rw [if_pos c141] at H
                     have c141b0 : decide (x212_2 < (t472.length : Int)) = true := decide_eq_true c141
                     clear c141
                     by_cases c142 : x239_4 < ((rd_L3 t472 x212_2).length : Int)
                     ·rw [if_pos c142] at H
                      have c142b0 : decide (x239_4 < ((rd_L3 t472 x212_2).length : Int)) = true := decide_eq_true c142
                      clear c142
                      by_cases c143 : (!(((rd_T33 t477 x239_4).f0) == ((rd_T33 (rd_L3 t472 x212_2) x239_4).f0)) || (!(((rd_T33 t477 x239_4).f1) == ((rd_T33 (rd_L3 t472 x212_2) x239_4).f1)) || (!(((rd_T33 t477 x239_4).f2) == ((rd_T33 (rd_L3 t472 x212_2) x239_4).f2)) || (!(((rd_T33 t477 x239_4).f3) == ((rd_T33 (rd_L3 t472 x212_2) x239_4).f3)))))) = true
                      ·rw [if_pos c143] at H
                       have c143b0 : (!(((rd_T33 t477 x239_4).f0) == ((rd_T33 (rd_L3 t472 x212_2) x239_4).f0)) || (!(((rd_T33 t477 x239_4).f1) == ((rd_T33 (rd_L3 t472 x212_2) x239_4).f1)) || (!(((rd_T33 t477 x239_4).f2) == ((rd_T33 (rd_L3 t472 x212_2) x239_4).f2)) || (!(((rd_T33 t477 x239_4).f3) == ((rd_T33 (rd_L3 t472 x212_2) x239_4).f3)))))) = true := c143
                       clear c143
                       obtain rfl := Option.some.inj H
                       have p482 : 0 ≤ (x239_4 : Int) := of_decide_eq_true hE
                       have q482 : x239_4 < (t477.length : Int) := of_decide_eq_true hE
                       obtain ⟨ad482, e482, hx482_0, hx482_1, hx482_2, hx482_3⟩ := at_T33 (Kd.R_reads' HO_33.out).2.2 x239_4 p482 q482
                       cases e482
                       replace p482 := eq_true p482
                       replace q482 := eq_true q482
                       obtain ⟨Ao144, co144, eo144⟩ := Kd.S_slice HO_29.out
                       subst eo144
                       have p483 : 0 ≤ (x212_2 : Int) := of_decide_eq_true hE
                       have q483 : x212_2 < (t472.length : Int) := of_decide_eq_true hE
                       obtain ⟨ad483, A483_0, c483_0, e483, hx483_0, hl483_0, hi483_0⟩ := at_L3 (Kd.S_reads' HO_29.out).2.2 x212_2 p483 q483
                       cases e483
                       obtain ⟨ce483, hce483, hMe483, hcc483⟩ := Kd.S_get HO_29.out [] x212_2 p483 (by first | exact q483 | exact of_decide_eq_true hE | (have e_ := (Kd.S_reads' HO_29.out).1; omega))
                       obtain ⟨ve483_0, rfl, ge483_0⟩ := hMe483
                       have hv483_0 := hcc483 0 _ rfl
                       rw [Nat.add_zero, show ((Kd.slice 33 k33)).sz = 1 from rfl, Nat.mul_one] at hv483_0
                       replace hv483_0 := Option.some.inj (hv483_0.symm.trans hx483_0)
                       rw [hv483_0] at ge483_0
                       have HL483_0 := Aside0.mk (show Kd.R k33 33 _ _ _ _ (rd_L3 t472 x212_2) from ge483_0)
                       clear hv483_0 ge483_0
                       (try clear hcc483)
                       (try clear hce483)
                       have HR483_0 := Aside0.mk hi483_0
                       have HC483_0 := Aside0.mk hl483_0
                       clear hi483_0 hl483_0
                       replace p483 := eq_true p483
                       replace q483 := eq_true q483
                       have p484 : 0 ≤ (x239_4 : Int) := of_decide_eq_true hE
                       have q484 : x239_4 < ((rd_L3 t472 x212_2).length : Int) := of_decide_eq_true hE
                       obtain ⟨ad484, e484, hx484_0, hx484_1, hx484_2, hx484_3⟩ := at_T33 (by repeat (first | (with_reducible exact HR483_0.out) | (with_reducible refine Kd.C_alloc ?_ _) | (with_reducible refine Kd.C_drewN ?_ _) | (with_reducible refine Kd.C_drew ?_) | exact HR483_0.out)) x239_4 p484 q484
                       cases e484
                       replace p484 := eq_true p484
                       replace q484 := eq_true q484
                       go_wp2
                       repeat (go_quiet (fail); try go_wp2)
                       go_ret
                       exact ⟨eE, lU⟩
                      ·rw [if_neg c143] at H
                       have c143b0 : (!(((rd_T33 t477 x239_4).f0) == ((rd_T33 (rd_L3 t472 x212_2) x239_4).f0)) || (!(((rd_T33 t477 x239_4).f1) == ((rd_T33 (rd_L3 t472 x212_2) x239_4).f1)) || (!(((rd_T33 t477 x239_4).f2) == ((rd_T33 (rd_L3 t472 x212_2) x239_4).f2)) || (!(((rd_T33 t477 x239_4).f3) == ((rd_T33 (rd_L3 t472 x212_2) x239_4).f3)))))) = false := by simpa using c143
                       clear c143
                       have H' := Aside0.mk H
                       clear H
                       have p482 : 0 ≤ (x239_4 : Int) := of_decide_eq_true hE
                       have q482 : x239_4 < (t477.length : Int) := of_decide_eq_true hE
                       obtain ⟨ad482, e482, hx482_0, hx482_1, hx482_2, hx482_3⟩ := at_T33 (Kd.R_reads' HO_33.out).2.2 x239_4 p482 q482
                       cases e482
                       replace p482 := eq_true p482
                       replace q482 := eq_true q482
                       obtain ⟨Ao145, co145, eo145⟩ := Kd.S_slice HO_29.out
                       subst eo145
                       have p483 : 0 ≤ (x212_2 : Int) := of_decide_eq_true hE
                       have q483 : x212_2 < (t472.length : Int) := of_decide_eq_true hE
                       obtain ⟨ad483, A483_0, c483_0, e483, hx483_0, hl483_0, hi483_0⟩ := at_L3 (Kd.S_reads' HO_29.out).2.2 x212_2 p483 q483
                       cases e483
                       obtain ⟨ce483, hce483, hMe483, hcc483⟩ := Kd.S_get HO_29.out [] x212_2 p483 (by first | exact q483 | exact of_decide_eq_true hE | (have e_ := (Kd.S_reads' HO_29.out).1; omega))
                       obtain ⟨ve483_0, rfl, ge483_0⟩ := hMe483
                       have hv483_0 := hcc483 0 _ rfl
                       rw [Nat.add_zero, show ((Kd.slice 33 k33)).sz = 1 from rfl, Nat.mul_one] at hv483_0
                       replace hv483_0 := Option.some.inj (hv483_0.symm.trans hx483_0)
                       rw [hv483_0] at ge483_0
                       have HL483_0 := Aside0.mk (show Kd.R k33 33 _ _ _ _ (rd_L3 t472 x212_2) from ge483_0)
                       clear hv483_0 ge483_0
                       (try clear hcc483)
                       (try clear hce483)
                       have HR483_0 := Aside0.mk hi483_0
                       have HC483_0 := Aside0.mk hl483_0
                       clear hi483_0 hl483_0
                       replace p483 := eq_true p483
                       replace q483 := eq_true q483
                       have p484 : 0 ≤ (x239_4 : Int) := of_decide_eq_true hE
                       have q484 : x239_4 < ((rd_L3 t472 x212_2).length : Int) := of_decide_eq_true hE
                       obtain ⟨ad484, e484, hx484_0, hx484_1, hx484_2, hx484_3⟩ := at_T33 (by repeat (first | (with_reducible exact HR483_0.out) | (with_reducible refine Kd.C_alloc ?_ _) | (with_reducible refine Kd.C_drewN ?_ _) | (with_reducible refine Kd.C_drew ?_) | exact HR483_0.out)) x239_4 p484 q484
                       cases e484
                       replace p484 := eq_true p484
                       replace q484 := eq_true q484
                       go_wp2
                       repeat (go_quiet (fail); try go_wp2)
                       go_roundg k4
                       case measure => have := HJ11.out; have := HK2.out; have := HJ128.out; have := HK4.out; omega
                       case rel => exact ⟨(wrap64 (x239_4 + 1)), tE, H', ⟨by have := HJ11.out; have := HK2.out; have := HJ128.out; have := HK4.out; omega⟩, ⟨by (with_reducible repeat (first | apply Kd.S_alloc | apply Kd.S_drewN | apply Kd.S_drew)); exact HO_29.out⟩, ⟨by (with_reducible repeat (first | apply Kd.R_alloc | apply Kd.R_drewN | apply Kd.R_drew)); exact HO_33.out⟩, ⟨by (with_reducible repeat (first | apply Kd.S_alloc | apply Kd.S_drewN | apply Kd.S_drew)); exact HO_210.out⟩, ⟨by repeat (first | (with_reducible exact HR476_0.out) | (with_reducible refine Kd.C_alloc ?_ _) | (with_reducible refine Kd.C_drewN ?_ _) | (with_reducible refine Kd.C_drew ?_) | exact HR476_0.out)⟩, ⟨by repeat (first | (with_reducible first | exact HB.out | apply below_alloc | apply pw_below_drewN | apply below_drew1) | exact HB.out)⟩⟩
                     ·rw [if_neg c142] at H
                      exact absurd H (by simp)
                    ·rw [if_neg c141] at H
                     exact absurd H (by simp)
                   ·rw [if_neg c140] at H
                    exact absurd H (by simp)
                  ·rw [if_neg c139] at H
                   exact absurd H (by simp)
                 ·rw [if_neg c138] at H
                  exact absurd H (by simp)
                ·rw [if_neg c137] at H
                 have c137b0 : decide (x239_4 < (t477.length : Int)) = false := decide_eq_false c137
                 clear c137
                 have H' := Aside0.mk H
                 clear H
                 go_wp2
                 repeat (go_quiet (fail); try go_wp2)
                 go_roundg k4
                 case measure => have := HJ11.out; have := HK2.out; have := HJ128.out; have := HK4.out; omega
                 case rel => exact ⟨(wrap64 (x212_2 + 1)), tE, H', ⟨by have := HJ11.out; have := HK2.out; have := HJ128.out; have := HK4.out; omega⟩, ⟨by (with_reducible repeat (first | apply Kd.S_alloc | apply Kd.S_drewN | apply Kd.S_drew)); exact Kd.S_mono HO_29.out (fun _ hk => hk.2)⟩, ⟨by (with_reducible repeat (first | apply Kd.S_alloc | apply Kd.S_drewN | apply Kd.S_drew)); exact Kd.S_mono HO_210.out (fun _ hk => hk.1)⟩, ⟨by repeat (first | (with_reducible first | exact HB.out | apply below_alloc | apply pw_below_drewN | apply below_drew1) | exact HB.out)⟩⟩
          ·rw [if_neg c127] at H
           exact absurd H (by simp)
         ·rw [if_neg c126] at H
          exact absurd H (by simp)
        ·rw [if_neg c125] at H
         have c125b0 : decide (x212_2 < (t466.length : Int)) = false := decide_eq_false c125
         clear c125
         obtain rfl := Option.some.inj H
         go_wp2
         repeat (go_quiet (fail); try go_wp2)
         go_ret
         exact ⟨eE, lU⟩
     ·replace c121 := Bool.eq_false_iff.mpr c121
      subst c121
      have H1 : (some ((t472.length : Int) == 0)) = some r := by rw [if_neg (show ¬ (false = true) by decide)] at H; exact H
      clear H
      have H := H1
      clear H1
      obtain rfl := Option.some.inj H
      go_wp2_with (first | (go_at_call 10; (with_reducible refine (spec_DrawStepIslands.calls kj11 _ _ l1 t466 t467 t468 t469 _ ?side1 ?side2 A119.out).mono ?_); (case side1 => exact cU (Kd.C_below HR1.out HB.out)); (case side2 => exact HC1.out); rintro e w146 ⟨v470, rfl, ho0, hb⟩; have HO471 := Aside0.mk (Kd.S_lower ho0 (below_size (lU))); replace HB := bH (lU) hb; (try clear hb); (try clear ho0); obtain ⟨Ao147, co147, eo147⟩ := Kd.S_slice HO471.out; subst eo147) | (go_at_call 11; (with_reducible refine (impl_StepIslands.calls kj11 _ _ t466 t467 t468 t469 t472 false _ ?side1 ?side2 A120.out).mono ?_); (case side1 => exact cU (Kd.S_reads' HO471.out).2.2); (case side2 => exact (Kd.S_reads' HO471.out).2.1); rintro e w148 ⟨v474, rfl, ho0, hb⟩; have HO475 := Aside0.mk (Kd.S_lower (Kd.S_new' ho0 (Kd.S_lt (by (with_reducible repeat (first | apply Kd.S_alloc | apply Kd.S_drewN | apply Kd.S_drew)); exact HO471.out))) (below_size (lU))); replace HO471 := Aside0.mk (Kd.S_elder' (by (with_reducible repeat (first | apply Kd.S_alloc | apply Kd.S_drewN | apply Kd.S_drew)); exact HO471.out) (Kd.S_base ho0) hb); replace HB := bH (lU) hb; (try clear hb); (try clear ho0); obtain ⟨Ao149, co149, eo149⟩ := Kd.S_slice HO475.out; subst eo149))
      go_ret
      exact ⟨eE, lU⟩
def laws_FnPushed.Pure : Prop := ∀ (l0 : List Int) (l1 : List Int), l0.length ≤ maxLen → l0.length * 1 ≤ 140737488351232 → (∀ x ∈ l0, (Lit.int .u8 x).wf = true) → l1.length ≤ maxLen → l1.length * 1 ≤ 140737488351232 → (∀ x ∈ l1, (Lit.int .u8 x).wf = true) → ∃ k, laws_FnPushed.f k l0 l1 = some true
end Go.Proofs.Ytnacjhgpanedoab.PFnPushed
namespace Go.Proofs.YtnacjhgpanedoabO
open Go.ChangeShapes Go.WideShapes Go.Proofs.YtnacjhgpanedoabW.PrintWords Go.RowKit
def InU8 (n : Int) : Prop := 0 ≤ n ∧ n ≤ 255
def Opens {α : Type} (P : Program) (t : TypeId) (d : Kd α) (g : α → Prop) : Prop :=
  ∀ {H : Type} (enc : TypeId × Value → H) (w : World) (fuel : Nat) (cs : List Value) (y : DataW H) (ps : List MemPlace),
    DataW.trod enc P w 0 (fun _ => true) true fuel t cs = some (y, ps) → (∀ n ∈ y.weights P t, n ≤ reachBytes) → ∃ x, d.K w x cs ∧ g x
theorem Opens.imp {α : Type} {P : Program} {t : TypeId} {d : Kd α} {g g' : α → Prop} (h : Opens P t d g) (k : ∀ x, g x → g' x) : Opens P t d g' := by
  intro H enc w fuel cs y ps ht hw
  obtain ⟨x, hx, hg⟩ := h enc w fuel cs y ps ht hw
  exact ⟨x, hx, k x hg⟩
theorem opens_int {P : Program} {t : TypeId} {k : IntKind} (ht : P.underlying t = some (.int k)) : Opens P t (Kd.int k) (fun n => (Lit.int k n).wf = true) := by
  intro H enc w fuel cs y ps h _
  obtain ⟨n, rfl, _, hw⟩ := DataW.trod_int ht h
  exact ⟨n, rfl, hw⟩
theorem wf_u8 {n : Int} (h : (Lit.int .u8 n).wf = true) : InU8 n := bounds_u8 h
theorem opens_u8 {P : Program} {t : TypeId} (ht : P.underlying t = some (.int .u8)) : Opens P t (Kd.int .u8) InU8 := Opens.imp (opens_int ht) fun _ h => wf_u8 h
theorem exists_list {α : Type} (p : Nat → α → Prop) : ∀ n : Nat, (∀ i, i < n → ∃ x, p i x) → ∃ xs : List α, xs.length = n ∧ ∀ i x, xs[i]? = some x → p i x
  | 0, _ => ⟨[], rfl, fun i x h => by simp at h⟩
  | n + 1, h => by
    obtain ⟨xs, hl, hx⟩ := exists_list p n (fun i hi => h i (by omega))
    obtain ⟨x, hp⟩ := h n (by omega)
    refine ⟨xs ++ [x], by simp [hl], fun i y hy => ?_⟩
    rcases Nat.lt_or_ge i xs.length with hi | hi
    · rw [List.getElem?_append_left hi] at hy
      exact hx i y hy
    · have : i = n := by
        have := (List.getElem?_eq_some_iff.1 hy).1
        rw [List.length_append, List.length_singleton] at this
        omega
      subst this
      rw [List.getElem?_append_right hi] at hy
      rw [hl] at hy
      simp at hy
      subst hy
      exact hp
theorem add_add (ad : Addr) (i j : Nat) : (ad.add i).add j = ad.add (i + j) := by
  unfold Addr.add
  by_cases h1 : i = 0 <;> by_cases h2 : j = 0 <;> simp [h1, h2, Nat.add_assoc]
theorem weightsAll_mem {H : Type} {P : Program} {e : TypeId} : ∀ {l : List (DataW H)} {d : DataW H}, d ∈ l → ∀ n ∈ d.weights P e, n ∈ DataW.weightsAll P e l
  | [], d, h, _, _ => by simp at h
  | x :: r, d, h, n, hn => by
    simp only [DataW.weightsAll, List.mem_append]
    rcases List.mem_cons.1 h with rfl | h
    · exact .inl hn
    · exact .inr (weightsAll_mem h n hn)
theorem opens_slice {α : Type} {P : Program} {t e : TypeId} {d : Kd α} {g : α → Prop} {B : Nat} (ht : P.underlying t = some (.slice e)) (hs : P.cellsOf e = d.sz) (hB : P.bytesOf e = B) (h : Opens P e d g) :
    Opens P t (Kd.slice e d) (fun xs => xs.length * B ≤ 140737488351232 ∧ ∀ x ∈ xs, g x) := by
  intro H enc w fuel cs y ps hy hw
  rcases DataW.trod_slice ht hy with ⟨rfl, _⟩ | ⟨a, len, cap, elems, rest, n, rfl, rfl, hx, _, hlc, hcm, hel, hget, _, _⟩
  · exact ⟨[], ⟨none, 0, rfl, Nat.le_refl _, Kd.C_nil d w⟩, by simp⟩
  · obtain ⟨rfl, _⟩ := Prod.mk.inj hx
    simp only [DataW.weights, ht] at hw
    have hlen : len * B ≤ 140737488351232 := by
      have := hw _ List.mem_cons_self
      simp only [List.length_map, hB] at this
      have h2 : len * B ≤ (elems.length + rest.length) * B := Nat.mul_le_mul_right _ (by omega)
      exact Nat.le_trans h2 this
    have key : ∀ i, i < len → ∃ x, (∃ c, c.length = d.sz ∧ d.K w x c ∧ ∀ j u, c[j]? = some u → w.cell? (a.add (i * d.sz + j)) = some u) ∧ g x := by
      intro i hi
      have hg := hget i hi
      rw [List.getElem?_eq_getElem (by omega), Option.bind_eq_some_iff] at hg
      obtain ⟨c, hc, hd⟩ := hg
      obtain ⟨_, hcl, hcell⟩ := World.cells?_some hc
      obtain ⟨x, hK, hgx⟩ := h enc w n c _ _ hd (fun m hm => hw m (List.mem_cons_of_mem _ (List.mem_append_left _ (weightsAll_mem (List.mem_map_of_mem (List.getElem_mem _)) m hm))))
      refine ⟨x, ⟨c, hcl.trans hs, hK, fun j u hj => ?_⟩, hgx⟩
      have hjl : j < P.cellsOf e := by
        have := (List.getElem?_eq_some_iff.1 hj).1
        omega
      have := hcell j hjl
      rw [add_add, hj, hs] at this
      exact this
    obtain ⟨xs, hxl, hxs⟩ := exists_list _ len key
    refine ⟨xs, ⟨some a, cap, by rw [hxl], by omega, hxl ▸ ⟨hxl, by simp only [maxLen] at hcm; omega, fun _ => ⟨a, rfl, fun j p hp => (hxs j p hp).1⟩⟩⟩, by rw [hxl]; exact hlen, fun x hx => ?_⟩
    obtain ⟨i, hi, rfl⟩ := List.getElem_of_mem hx
    exact (hxs i _ (List.getElem?_eq_getElem hi)).2
theorem weights_of {H : Type} {P : Program} {ts : List TypeId} {ds : List (DataW H)} {j : Nat} {t : TypeId} {d : DataW H} (hsz : (DataW.weightsEach P ts ds).all (· ≤ reachBytes) = true) (ht : ts[j]? = some t) (hd : ds[j]? = some d) : ∀ n ∈ d.weights P t, n ≤ reachBytes := by
  intro n hn
  have := List.all_eq_true.1 hsz n (DataW.weights_mem_each ht hd n hn)
  simpa using this
theorem open_slice {α H : Type} {enc : TypeId × Value → H} {P : Program} {W : World} {t e : TypeId} {d : Kd α} {g : List α → Prop} {a : Option Addr} {len cap : Nat} {y : DataW H} {ps : List MemPlace} (h : Opens P t (Kd.slice e d) g)
    (hy : DataW.Trod enc P W 0 (fun _ => true) true t (.slice a len cap) y ps) (hw : ∀ n ∈ y.weights P t, n ≤ reachBytes) : ∃ xs : List α, len = xs.length ∧ xs.length ≤ cap ∧ d.C W a xs.length xs ∧ g xs := by
  obtain ⟨fuel, hf⟩ := hy
  obtain ⟨xs, ⟨A, c, he, hl, hC⟩, hg⟩ := h enc W fuel _ y ps hf hw
  have he' : Value.slice a len cap = .slice A xs.length c := by simpa [Value.cells] using he
  injection he' with h1 h2 h3
  subst h1 h2 h3
  exact ⟨xs, rfl, hl, hC, hg⟩
end Go.Proofs.YtnacjhgpanedoabO
namespace Go.Proofs.Ytnacjhgpanedoab.OFnPushed
open Go.RowKit Go.Proofs.Ytnacjhgpanedoab.PFnPushed Go.Proofs.YtnacjhgpanedoabW.PrintWords Go.Proofs.YtnacjhgpanedoabO
end Go.Proofs.Ytnacjhgpanedoab.OFnPushed
namespace Go.Proofs.YtnacjhgpanedoabO
open Go.RowKit Go.Proofs.YtnacjhgpanedoabW.PrintWords Go.Proofs.YtnacjhgpanedoabW.PrintLast Go.Proofs.YtnacjhgpanedoabW.PrintMore
theorem w64 {n : Int} (h : -9223372036854775808 ≤ n) (k : n ≤ 9223372036854775807) : wrap64 n = n := by unfold wrap64; omega
theorem w64s (i : Nat) (h : i < 4611686018427387904) : wrap64 ((i : Int) + 1) = ((i + 1 : Nat) : Int) := by unfold wrap64; omega
theorem ev_eq {α : Type} {x : Option α} {r : α} (h : x = some r) : Ev (fun _ => x) r := ⟨0, fun _ _ => h⟩
theorem ev_some {α : Type} {x r : α} (h : x = r) : Ev (fun _ => some x) r := ⟨0, fun _ _ => by rw [h]⟩
theorem ev_pos {α : Type} {c : Prop} [Decidable c] {f g : Nat → Option α} {r : α} (h : c) (k : Ev f r) : Ev (fun n => if c then f n else g n) r := by
  obtain ⟨K, hK⟩ := k
  exact ⟨K, fun n hn => (if_pos h).trans (hK n hn)⟩
theorem ev_neg {α : Type} {c : Prop} [Decidable c] {f g : Nat → Option α} {r : α} (h : ¬ c) (k : Ev g r) : Ev (fun n => if c then f n else g n) r := by
  obtain ⟨K, hK⟩ := k
  exact ⟨K, fun n hn => (if_neg h).trans (hK n hn)⟩
theorem ev_bindc {α β : Type} {x : Option α} {f : Nat → α → Option β} {a : α} {r : β} (h : x = some a) (k : Ev (fun n => f n a) r) : Ev (fun n => x.bind (f n)) r := by
  subst h; exact k
theorem ev_unique {α : Type} {f : Nat → Option α} {a b : α} (h : Ev f a) (k : Ev f b) : a = b := by
  obtain ⟨K, hK⟩ := h
  obtain ⟨K', hK'⟩ := k
  have h1 := hK (max K K') (Nat.le_max_left _ _)
  have h2 := hK' (max K K') (Nat.le_max_right _ _)
  rw [h1] at h2
  exact Option.some.inj h2
theorem ev_for {σ ρ : Type} (n : Nat) (L : Nat → Nat → σ → Option ρ) (I : Nat → σ → Prop) (Q : ρ → Prop)
    (hend : ∀ s, I n s → ∃ r, Ev (fun k => L k n s) r ∧ Q r)
    (hstep : ∀ i s, i < n → I i s → (∃ r, Ev (fun k => L k i s) r ∧ Q r) ∨ ∃ s', I (i + 1) s' ∧ ∀ r, Ev (fun k => L k (i + 1) s') r → Ev (fun k => L k i s) r) :
    ∀ i s, i ≤ n → I i s → ∃ r, Ev (fun k => L k i s) r ∧ Q r := by
  have key : ∀ d i s, i + d = n → I i s → ∃ r, Ev (fun k => L k i s) r ∧ Q r := by
    intro d
    induction d with
    | zero => intro i s hi h; obtain rfl : i = n := by omega
              exact hend s h
    | succ d ih =>
      intro i s hi h
      rcases hstep i s (by omega) h with h' | ⟨s', hI, hr⟩
      · exact h'
      · obtain ⟨r, hr', hQ⟩ := ih (i + 1) s' (by omega) hI
        exact ⟨r, hr r hr', hQ⟩
  intro i s hi h
  exact key (n - i) i s (by omega) h
theorem ev_for1 {σ ρ : Type} (n : Nat) (L : Nat → Nat → σ → Option ρ) (I : Nat → σ → Prop) (a : ρ)
    (hend : ∀ s, I n s → Ev (fun k => L k n s) a)
    (hstep : ∀ i s, i < n → I i s → Ev (fun k => L k i s) a ∨ ∃ s', I (i + 1) s' ∧ ∀ r, Ev (fun k => L k (i + 1) s') r → Ev (fun k => L k i s) r) :
    ∀ i s, i ≤ n → I i s → Ev (fun k => L k i s) a := by
  intro i s hi h
  obtain ⟨r, hr, rfl⟩ := ev_for n L I (fun r => r = a) (fun s hs => ⟨a, hend s hs, rfl⟩) (fun i s hi hs => (hstep i s hi hs).imp (fun h => ⟨a, h, rfl⟩) id) i s hi h
  exact hr
theorem rd_get {xs : List Int} {i : Nat} (h : i < xs.length) : rd xs (i : Int) = xs[i] := by simp [rd, List.getD_eq_getElem?_getD, h]
theorem rdOf_get {α : Type} {d : α} {xs : List α} {i : Nat} (h : i < xs.length) : rdOf d xs (i : Int) = xs[i] := by simp [rdOf, List.getD_eq_getElem?_getD, h]
theorem bool_of (P : Prop) : ∃ b : Bool, b = true ↔ P := ⟨@decide P (Classical.propDecidable P), by simp⟩
theorem bool_false {P : Prop} {b : Bool} (h : b = true ↔ P) (k : ¬ P) : b = false := by
  cases b with
  | false => rfl
  | true => exact absurd (h.1 rfl) k
theorem ev_all (n : Nat) (L : Nat → Nat → Option Bool) (ok : Nat → Prop) (e b : Bool) (hb : b = true ↔ e = true ∧ ∀ i, i < n → ok i) (hend : Ev (fun k => L k n) e)
    (hyes : ∀ i, i < n → (∀ j, j < i → ok j) → ok i → ∀ r, Ev (fun k => L k (i + 1)) r → Ev (fun k => L k i) r) (hno : ∀ i, i < n → (∀ j, j < i → ok j) → ¬ ok i → Ev (fun k => L k i) false) : Ev (fun k => L k 0) b := by
  refine ev_for1 n (fun k i (_ : Unit) => L k i) (fun i _ => ∀ j, j < i → ok j) b ?_ ?_ 0 () (Nat.zero_le _) (fun j hj => by omega)
  · intro _ h
    have : b = e := by
      cases e with
      | false => exact bool_false hb (fun h => by simp at h)
      | true => exact hb.2 ⟨rfl, h⟩
    rw [this]
    exact hend
  · intro i _ hi h
    by_cases ho : ok i
    · refine .inr ⟨(), fun j hj => ?_, hyes i hi h ho⟩
      rcases Nat.lt_or_ge j i with h1 | h1
      · exact h j h1
      · obtain rfl : j = i := by omega
        exact ho
    · have : b = false := bool_false hb (fun h => ho (h.2 i hi))
      rw [this]
      exact .inl (hno i hi h ho)
theorem wrap_u64 {n : Int} (h0 : 0 ≤ n) (h1 : n ≤ 18446744073709551615) : IntKind.u64.wrap n = n := by
  have e : IntKind.u64.wrap n = n % 18446744073709551616 := by simp only [IntKind.wrap, IntKind.bits, IntKind.signed]; rfl
  rw [e]; omega
def Chain {α : Type} (E : α → Int → Int → Prop) : List α → Int → Int → Prop
  | [], c, d => c = d
  | x :: r, c, d => ∃ m, E x c m ∧ Chain E r m d
theorem Chain.snoc {α : Type} {E : α → Int → Int → Prop} : ∀ {l : List α} {c m d : Int} {x : α}, Chain E l c m → E x m d → Chain E (l ++ [x]) c d
  | [], _, _, _, _, h, k => by cases h; exact ⟨_, k, rfl⟩
  | _ :: _, _, _, _, _, ⟨q, h1, h2⟩, k => ⟨q, h1, Chain.snoc h2 k⟩
theorem ev_index {α : Type} (L : Nat → List α → Int → Int → Option Int) (p : Nat → List α → Int → Option Bool)
    (hL : ∀ k xs n i, L (k + 1) xs n i = if i < n then (if 0 ≤ i then (if i < (xs.length : Int) then ((p k xs i).bind fun t => if t = true then some i else L k xs n (wrap64 (i + 1))) else none) else none) else some (-1))
    (xs : List α) (hx : xs.length < 4611686018427387904) (P : Nat → Bool) (he : ∀ i : Nat, i < xs.length → Ev (fun k => p k xs (i : Int)) (P i)) :
    ∃ r, Ev (fun k => L k xs (xs.length : Int) 0) r ∧ ((r = -1 ∧ ∀ i, i < xs.length → P i = false) ∨ ∃ i : Nat, i < xs.length ∧ r = (i : Int) ∧ P i = true ∧ ∀ j, j < i → P j = false) := by
  refine ev_for xs.length (fun k i (_ : Unit) => L k xs (xs.length : Int) (i : Int)) (fun i _ => ∀ j, j < i → P j = false) (fun r => (r = -1 ∧ ∀ i, i < xs.length → P i = false) ∨ ∃ i : Nat, i < xs.length ∧ r = (i : Int) ∧ P i = true ∧ ∀ j, j < i → P j = false) ?_ ?_ 0 () (Nat.zero_le _) (fun j hj => by omega)
  · intro _ h
    exact ⟨-1, Ev.step (fun k => hL k xs _ _) (ev_neg (by omega) (ev_some rfl)), .inl ⟨rfl, h⟩⟩
  · intro i _ hi h
    cases hP : P i with
    | true =>
      refine .inl ⟨(i : Int), Ev.step (fun k => hL k xs _ _) (ev_pos (by omega) (ev_pos (by omega) (ev_pos (by omega) (Ev.bind (he i hi) (ev_pos hP (ev_some rfl)))))), .inr ⟨i, hi, rfl, hP, h⟩⟩
    | false =>
      refine .inr ⟨(), fun j hj => ?_, fun r hr => Ev.step (fun k => hL k xs _ _) (ev_pos (by omega) (ev_pos (by omega) (ev_pos (by omega) (Ev.bind (he i hi) (ev_neg (by rw [hP]; decide) ?_)))))⟩
      · rcases Nat.lt_or_ge j i with h1 | h1
        · exact h j h1
        · obtain rfl : j = i := by omega
          exact hP
      · rw [w64s i (by omega)]
        exact hr
theorem ev_contains {α : Type} (L : Nat → List α → Int → Int → Option Int) (p : Nat → List α → Int → Option Bool)
    (hL : ∀ k xs n i, L (k + 1) xs n i = if i < n then (if 0 ≤ i then (if i < (xs.length : Int) then ((p k xs i).bind fun t => if t = true then some i else L k xs n (wrap64 (i + 1))) else none) else none) else some (-1))
    (xs : List α) (hx : xs.length < 4611686018427387904) (P : Nat → Bool) (he : ∀ i : Nat, i < xs.length → Ev (fun k => p k xs (i : Int)) (P i)) (b : Bool) (hb : b = true ↔ ∃ i, i < xs.length ∧ P i = true) :
    Ev (fun k => (L k xs (xs.length : Int) 0).bind fun t => some (decide (t ≥ 0))) b := by
  obtain ⟨r, hr, h⟩ := ev_index L p hL xs hx P he
  refine Ev.bind hr (ev_some ?_)
  rw [Bool.eq_iff_iff, decide_eq_true_eq, hb]
  rcases h with ⟨rfl, h⟩ | ⟨i, hi, rfl, hP, _⟩
  · constructor
    · intro h'; omega
    · rintro ⟨i, hi, hP⟩; rw [h i hi] at hP; cases hP
  · exact ⟨fun _ => ⟨i, hi, hP⟩, fun _ => by omega⟩
end Go.Proofs.YtnacjhgpanedoabO
