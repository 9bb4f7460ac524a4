/- Texts of the row of the law FnExactRunCloud, laid together. -/
import Derived.Test.YthgfobcckoedaaaZFnExactRunCloud3
import Derived.Test.YthgfobcckoedaaaZFnExactRunCloud5
import Derived.Test.YthgfobcckoedaaaZFnExactRunCloud7
import Derived.Test.YthgfobcckoedaaaZFnExactRunCloud0
import Derived.SizedLaws
import Derived.ChangeArms
import Derived.OpenShut
import Derived.WideShapes
import Derived.WalkKit
import Derived.KernelRfl
import Derived.Laws.BitsLemmas
namespace Go.Proofs.Ythgfobcckoedaaa.PFnExactRunCloud
open Go.RowKit Go.Proofs.YthgfobcckoedaaaW.PrintWords Go.Proofs.YthgfobcckoedaaaW.PrintLast Go.Proofs.YthgfobcckoedaaaW.PrintMore
attribute [local go_sem] max2_int min2_int max_two min_two max_three min_three max_four min_four   -- for this text's walks alone
set_option linter.unusedVariables false
set_option linter.unusedSimpArgs false
mutual
def laws_FnExactRunCloud.j0 : Nat → Int → Bool → Bool → Bool → Int → Int → Int → Int → Int → Int → Int → Int → Int → List (S68) → Int → Int → List (S48) → Int → Int → List (S48) → Int → Int → List (S48) → Option (Bool)
 | 0, _, _, _, _, _, _, _, _, _, _, _, _, _, _, _, _, _, _, _, _, _, _, _ => none
 | k + 1, x2, x9, x12, x50, x341000, x341001, x341002, x341003, x341004, x341005, x341006, x342000, x342001, x342002, x362000, x362001, x362002, x368000, x368001, x368002, x382000, x382001, x382002 => if x50 = true then (some false) else ((laws_toCloud.f k x342000 x342001 x342002).bind fun bt383 => ((laws_eqCloud.f k x368000 x368001 x368002 bt383.1 bt383.2.1 bt383.2.2).bind fun t388 => (if t388 = true then ((laws_markCloud.f k x368000 x368001 x368002 1).bind fun bt389 => (if bt389.1 < 0 then (laws_FnExactRunCloud.j1 k x2 x9 true x341000 x341001 x341002 x341003 x341004 x341005 x341006 x342000 x342001 x342002 x362000 x362001 x362002 x382000 x382001 x382002) else ((laws_eqCloud.f k x382000 x382001 x382002 x362000 x362001 x362002).bind fun t391 => (if t391 = true then (laws_FnExactRunCloud.j1 k x2 x9 (x12 != x9) x341000 x341001 x341002 x341003 x341004 x341005 x341006 x342000 x342001 x342002 x362000 x362001 x362002 x382000 x382001 x382002) else (laws_FnExactRunCloud.j1 k x2 x9 true x341000 x341001 x341002 x341003 x341004 x341005 x341006 x342000 x342001 x342002 x362000 x362001 x362002 x382000 x382001 x382002))))) else (some false))))
def laws_FnExactRunCloud.j1 : Nat → Int → Bool → Bool → Int → Int → Int → Int → Int → Int → Int → Int → Int → List (S68) → Int → Int → List (S48) → Int → Int → List (S48) → Option (Bool)
 | 0, _, _, _, _, _, _, _, _, _, _, _, _, _, _, _, _, _, _, _ => none
 | k + 1, x2, x9, x71, x341000, x341001, x341002, x341003, x341004, x341005, x341006, x342000, x342001, x342002, x362000, x362001, x362002, x382000, x382001, x382002 => if x71 = true then (some false) else ((laws_markCloud.f k x382000 x382001 x382002 1).bind fun bt392 => ((laws_heldCloud.f k x382000 x382001 bt392.2 1).bind fun t394 => (if t394 < 0 then (some false) else (if t394 = bt392.1 then ((laws_toEmitter.f x341000 x341001 x341002 x341003 x341004 x341005 x341006).bind fun bt395 => ((laws_toCloud.f k x342000 x342001 x342002).bind fun bt402 => ((impl_RunCloud.f k bt395.1 bt395.2.1 bt395.2.2.1 bt395.2.2.2.1 bt395.2.2.2.2.1 bt395.2.2.2.2.2.1 bt395.2.2.2.2.2.2 bt402.1 bt402.2.1 bt402.2.2 x2).bind fun bt407 => ((laws_eqCloud.f k bt407.1 bt407.2.1 bt407.2.2.1 x362000 x362001 x362002).bind fun t414 => (if t414 = true then (laws_FnExactRunCloud.j2 k bt392.1 (bt407.2.2.2 != x9) x382000 x382001 bt392.2) else (laws_FnExactRunCloud.j2 k bt392.1 true x382000 x382001 bt392.2)))))) else (some false)))))
def laws_FnExactRunCloud.j2 : Nat → Int → Bool → Int → Int → List (S48) → Option (Bool)
 | 0, _, _, _, _, _ => none
 | k + 1, x14, x100, x382000, x382001, x382002 => if x100 = true then (some false) else ((laws_heldCloud.f k x382000 x382001 x382002 1).bind fun t415 => (if t415 < 0 then (some false) else (if t415 = x14 then (some true) else (some false))))
end
def laws_FnExactRunCloud.f (k : Nat) (a0_0 : Int) (a0_1 : Int) (a0_2 : Int) (a0_3 : Int) (a0_4 : Int) (a0_5 : Int) (a0_6 : Int) (a1_0 : Int) (a1_1 : Int) (l1_2 : List (S68)) (a2 : Int) : Option (Bool) := (laws_szCloud.f a1_0 a1_1 l1_2 1048576).bind fun t342 => (if t342 < 0 then (some true) else ((laws_toEmitter.f a0_0 a0_1 a0_2 a0_3 a0_4 a0_5 a0_6).bind fun bt343 => ((laws_toCloud.f k a1_0 a1_1 l1_2).bind fun bt350 => ((spec_RunCloud.f k bt343.1 bt343.2.1 bt343.2.2.1 bt343.2.2.2.1 bt343.2.2.2.2.1 bt343.2.2.2.2.2.1 bt343.2.2.2.2.2.2 bt350.1 bt350.2.1 bt350.2.2 a2).bind fun bt355 => ((laws_toCloud.f k a1_0 a1_1 l1_2).bind fun bt362 => ((laws_toEmitter.f a0_0 a0_1 a0_2 a0_3 a0_4 a0_5 a0_6).bind fun bt368 => ((impl_RunCloud.f k bt368.1 bt368.2.1 bt368.2.2.1 bt368.2.2.2.1 bt368.2.2.2.2.1 bt368.2.2.2.2.2.1 bt368.2.2.2.2.2.2 bt362.1 bt362.2.1 bt362.2.2 a2).bind fun bt375 => ((laws_eqCloud.f k bt375.1 bt375.2.1 bt375.2.2.1 bt355.1 bt355.2.1 bt355.2.2.1).bind fun t382 => (if t382 = true then (laws_FnExactRunCloud.j0 k a2 bt355.2.2.2 bt375.2.2.2 (bt375.2.2.2 != bt355.2.2.2) a0_0 a0_1 a0_2 a0_3 a0_4 a0_5 a0_6 a1_0 a1_1 l1_2 bt355.1 bt355.2.1 bt355.2.2.1 bt362.1 bt362.2.1 bt362.2.2 bt375.1 bt375.2.1 bt375.2.2.1) else (laws_FnExactRunCloud.j0 k a2 bt355.2.2.2 bt375.2.2.2 true a0_0 a0_1 a0_2 a0_3 a0_4 a0_5 a0_6 a1_0 a1_1 l1_2 bt355.1 bt355.2.1 bt355.2.2.1 bt362.1 bt362.2.1 bt362.2.2 bt375.1 bt375.2.1 bt375.2.2.1))))))))))
theorem laws_FnExactRunCloud.mono_l : ∀ k, (∀ y0 y1 y2 y3 y4 y5 y6 y7 y8 y9 y10 y11 y12 y13 y14 y15 y16 y17 y18 y19 y20 y21 y22, LeO (laws_FnExactRunCloud.j0 k y0 y1 y2 y3 y4 y5 y6 y7 y8 y9 y10 y11 y12 y13 y14 y15 y16 y17 y18 y19 y20 y21 y22) (laws_FnExactRunCloud.j0 (k + 1) y0 y1 y2 y3 y4 y5 y6 y7 y8 y9 y10 y11 y12 y13 y14 y15 y16 y17 y18 y19 y20 y21 y22)) ∧ (∀ y0 y1 y2 y3 y4 y5 y6 y7 y8 y9 y10 y11 y12 y13 y14 y15 y16 y17 y18, LeO (laws_FnExactRunCloud.j1 k y0 y1 y2 y3 y4 y5 y6 y7 y8 y9 y10 y11 y12 y13 y14 y15 y16 y17 y18) (laws_FnExactRunCloud.j1 (k + 1) y0 y1 y2 y3 y4 y5 y6 y7 y8 y9 y10 y11 y12 y13 y14 y15 y16 y17 y18)) ∧ (∀ y0 y1 y2 y3 y4, LeO (laws_FnExactRunCloud.j2 k y0 y1 y2 y3 y4) (laws_FnExactRunCloud.j2 (k + 1) y0 y1 y2 y3 y4))
 | 0 => ⟨fun _ _ _ _ _ _ _ _ _ _ _ _ _ _ _ _ _ _ _ _ _ _ _ r h => by simp [laws_FnExactRunCloud.j0] at h, fun _ _ _ _ _ _ _ _ _ _ _ _ _ _ _ _ _ _ _ r h => by simp [laws_FnExactRunCloud.j1] at h, fun _ _ _ _ _ r h => by simp [laws_FnExactRunCloud.j2] at h⟩
 | k + 1 => by
  obtain ⟨ih0, ih1, ih2⟩ := laws_FnExactRunCloud.mono_l k
  refine ⟨?_, ?_, ?_⟩
  ·intro y0 y1 y2 y3 y4 y5 y6 y7 y8 y9 y10 y11 y12 y13 y14 y15 y16 y17 y18 y19 y20 y21 y22
   unfold laws_FnExactRunCloud.j0
   repeat' first
   | (with_reducible exact ih0 _ _ _ _ _ _ _ _ _ _ _ _ _ _ _ _ _ _ _ _ _ _ _)
   | (with_reducible exact ih1 _ _ _ _ _ _ _ _ _ _ _ _ _ _ _ _ _ _ _)
   | (with_reducible exact ih2 _ _ _ _ _)
   | (with_reducible exact impl_RunCloud.mono _ _ _ _ _ _ _ _ _ _ _ _)
   | (with_reducible exact laws_eqCloud.mono _ _ _ _ _ _ _)
   | (with_reducible exact laws_heldCloud.mono _ _ _ _ _)
   | (with_reducible exact laws_markCloud.mono _ _ _ _ _)
   | (with_reducible exact laws_toCloud.mono _ _ _ _)
   | (with_reducible exact spec_RunCloud.mono _ _ _ _ _ _ _ _ _ _ _ _)
   | (with_reducible exact LeO.refl _)
   | (with_reducible exact LeO.none _)
   | (with_reducible refine LeO.ite ?_ ?_)
   | (with_reducible refine LeO.bind ?_ (fun _ => ?_))
   | exact ih0 _ _ _ _ _ _ _ _ _ _ _ _ _ _ _ _ _ _ _ _ _ _ _
   | exact ih1 _ _ _ _ _ _ _ _ _ _ _ _ _ _ _ _ _ _ _
   | exact ih2 _ _ _ _ _
   | exact impl_RunCloud.mono _ _ _ _ _ _ _ _ _ _ _ _
   | exact laws_eqCloud.mono _ _ _ _ _ _ _
   | exact laws_heldCloud.mono _ _ _ _ _
   | exact laws_markCloud.mono _ _ _ _ _
   | exact laws_toCloud.mono _ _ _ _
   | exact spec_RunCloud.mono _ _ _ _ _ _ _ _ _ _ _ _
   | exact LeO.none _
   | refine LeO.ite ?_ ?_
   | refine LeO.bind ?_ (fun _ => ?_)
  ·intro y0 y1 y2 y3 y4 y5 y6 y7 y8 y9 y10 y11 y12 y13 y14 y15 y16 y17 y18
   unfold laws_FnExactRunCloud.j1
   repeat' first
   | (with_reducible exact ih0 _ _ _ _ _ _ _ _ _ _ _ _ _ _ _ _ _ _ _ _ _ _ _)
   | (with_reducible exact ih1 _ _ _ _ _ _ _ _ _ _ _ _ _ _ _ _ _ _ _)
   | (with_reducible exact ih2 _ _ _ _ _)
   | (with_reducible exact impl_RunCloud.mono _ _ _ _ _ _ _ _ _ _ _ _)
   | (with_reducible exact laws_eqCloud.mono _ _ _ _ _ _ _)
   | (with_reducible exact laws_heldCloud.mono _ _ _ _ _)
   | (with_reducible exact laws_markCloud.mono _ _ _ _ _)
   | (with_reducible exact laws_toCloud.mono _ _ _ _)
   | (with_reducible exact spec_RunCloud.mono _ _ _ _ _ _ _ _ _ _ _ _)
   | (with_reducible exact LeO.refl _)
   | (with_reducible exact LeO.none _)
   | (with_reducible refine LeO.ite ?_ ?_)
   | (with_reducible refine LeO.bind ?_ (fun _ => ?_))
   | exact ih0 _ _ _ _ _ _ _ _ _ _ _ _ _ _ _ _ _ _ _ _ _ _ _
   | exact ih1 _ _ _ _ _ _ _ _ _ _ _ _ _ _ _ _ _ _ _
   | exact ih2 _ _ _ _ _
   | exact impl_RunCloud.mono _ _ _ _ _ _ _ _ _ _ _ _
   | exact laws_eqCloud.mono _ _ _ _ _ _ _
   | exact laws_heldCloud.mono _ _ _ _ _
   | exact laws_markCloud.mono _ _ _ _ _
   | exact laws_toCloud.mono _ _ _ _
   | exact spec_RunCloud.mono _ _ _ _ _ _ _ _ _ _ _ _
   | exact LeO.none _
   | refine LeO.ite ?_ ?_
   | refine LeO.bind ?_ (fun _ => ?_)
  ·intro y0 y1 y2 y3 y4
   unfold laws_FnExactRunCloud.j2
   repeat' first
   | (with_reducible exact ih0 _ _ _ _ _ _ _ _ _ _ _ _ _ _ _ _ _ _ _ _ _ _ _)
   | (with_reducible exact ih1 _ _ _ _ _ _ _ _ _ _ _ _ _ _ _ _ _ _ _)
   | (with_reducible exact ih2 _ _ _ _ _)
   | (with_reducible exact impl_RunCloud.mono _ _ _ _ _ _ _ _ _ _ _ _)
   | (with_reducible exact laws_eqCloud.mono _ _ _ _ _ _ _)
   | (with_reducible exact laws_heldCloud.mono _ _ _ _ _)
   | (with_reducible exact laws_markCloud.mono _ _ _ _ _)
   | (with_reducible exact laws_toCloud.mono _ _ _ _)
   | (with_reducible exact spec_RunCloud.mono _ _ _ _ _ _ _ _ _ _ _ _)
   | (with_reducible exact LeO.refl _)
   | (with_reducible exact LeO.none _)
   | (with_reducible refine LeO.ite ?_ ?_)
   | (with_reducible refine LeO.bind ?_ (fun _ => ?_))
   | exact ih0 _ _ _ _ _ _ _ _ _ _ _ _ _ _ _ _ _ _ _ _ _ _ _
   | exact ih1 _ _ _ _ _ _ _ _ _ _ _ _ _ _ _ _ _ _ _
   | exact ih2 _ _ _ _ _
   | exact impl_RunCloud.mono _ _ _ _ _ _ _ _ _ _ _ _
   | exact laws_eqCloud.mono _ _ _ _ _ _ _
   | exact laws_heldCloud.mono _ _ _ _ _
   | exact laws_markCloud.mono _ _ _ _ _
   | exact laws_toCloud.mono _ _ _ _
   | exact spec_RunCloud.mono _ _ _ _ _ _ _ _ _ _ _ _
   | exact LeO.none _
   | refine LeO.ite ?_ ?_
   | refine LeO.bind ?_ (fun _ => ?_)
theorem laws_FnExactRunCloud.mono : ∀ a0 a1 a2 a3 a4 a5 a6 a7 a8 a9 a10 k, LeO (laws_FnExactRunCloud.f k a0 a1 a2 a3 a4 a5 a6 a7 a8 a9 a10) (laws_FnExactRunCloud.f (k + 1) a0 a1 a2 a3 a4 a5 a6 a7 a8 a9 a10) := by
 intro a0 a1 a2 a3 a4 a5 a6 a7 a8 a9 a10 k
 obtain ⟨ih0, ih1, ih2⟩ := laws_FnExactRunCloud.mono_l k
 unfold laws_FnExactRunCloud.f
 repeat' first
   | (with_reducible exact ih0 _ _ _ _ _ _ _ _ _ _ _ _ _ _ _ _ _ _ _ _ _ _ _)
   | (with_reducible exact ih1 _ _ _ _ _ _ _ _ _ _ _ _ _ _ _ _ _ _ _)
   | (with_reducible exact ih2 _ _ _ _ _)
   | (with_reducible exact impl_RunCloud.mono _ _ _ _ _ _ _ _ _ _ _ _)
   | (with_reducible exact laws_eqCloud.mono _ _ _ _ _ _ _)
   | (with_reducible exact laws_heldCloud.mono _ _ _ _ _)
   | (with_reducible exact laws_markCloud.mono _ _ _ _ _)
   | (with_reducible exact laws_toCloud.mono _ _ _ _)
   | (with_reducible exact spec_RunCloud.mono _ _ _ _ _ _ _ _ _ _ _ _)
   | (with_reducible exact LeO.refl _)
   | (with_reducible exact LeO.none _)
   | (with_reducible refine LeO.ite ?_ ?_)
   | (with_reducible refine LeO.bind ?_ (fun _ => ?_))
   | exact ih0 _ _ _ _ _ _ _ _ _ _ _ _ _ _ _ _ _ _ _ _ _ _ _
   | exact ih1 _ _ _ _ _ _ _ _ _ _ _ _ _ _ _ _ _ _ _
   | exact ih2 _ _ _ _ _
   | exact impl_RunCloud.mono _ _ _ _ _ _ _ _ _ _ _ _
   | exact laws_eqCloud.mono _ _ _ _ _ _ _
   | exact laws_heldCloud.mono _ _ _ _ _
   | exact laws_markCloud.mono _ _ _ _ _
   | exact laws_toCloud.mono _ _ _ _
   | exact spec_RunCloud.mono _ _ _ _ _ _ _ _ _ _ _ _
   | exact LeO.none _
   | refine LeO.ite ?_ ?_
   | refine LeO.bind ?_ (fun _ => ?_)
def laws_FnExactRunCloud.T5 : Bool × List (List Nat × List Nat) := (true, [([], []), ([0], [0]), ([], []), ([2, 1], [2]), ([], []), ([1, 3, 4, 3], [1, 3, 4]), ([5], [5]), ([6], [6]), ([6], [6]), ([], []), ([9, 7, 5, 0, 1, 2, 3, 4, 5, 6, 7, 9], [7, 9]), ([8, 10, 0, 1, 2, 3, 4, 5, 6, 7, 8, 9, 10], [8])])
def laws_FnExactRunCloud.B5 : List Nat := [0, 1, 0, 7, 0, 31, 63, 127, 127, 0, 767, 2047]
theorem laws_FnExactRunCloud.tab5 : rtab .any (opsOf Try.f5 5) = laws_FnExactRunCloud.T5 := by kernel_rfl
theorem laws_FnExactRunCloud.bits5 : waitsOk laws_FnExactRunCloud.T5.2 laws_FnExactRunCloud.B5 = true := by kernel_rfl
def laws_FnExactRunCloud.T7 : Bool × List (List Nat × List Nat) := (true, [([], []), ([0], [0]), ([], []), ([], []), ([1, 2, 3, 1], [1, 2, 3]), ([4], [4]), ([5], [5]), ([5], [5]), ([], []), ([8, 6, 4, 0, 1, 2, 3, 4, 5, 6, 8], [6, 8]), ([7, 9, 0, 1, 2, 3, 4, 5, 6, 7, 8, 9], [7])])
def laws_FnExactRunCloud.B7 : List Nat := [0, 1, 0, 0, 15, 31, 63, 63, 0, 383, 1023]
theorem laws_FnExactRunCloud.tab7 : rtab .any (opsOf Try.f5 7) = laws_FnExactRunCloud.T7 := by kernel_rfl
theorem laws_FnExactRunCloud.bits7 : waitsOk laws_FnExactRunCloud.T7.2 laws_FnExactRunCloud.B7 = true := by kernel_rfl
def laws_FnExactRunCloud.T24 : Bool × List (List Nat × List Nat) := (true, [([], []), ([0], [0]), ([], []), ([2, 1], [2]), ([], []), ([1, 3, 4, 3], [1, 3, 4]), ([5], [5]), ([6], [6]), ([6], [6]), ([], []), ([9, 7, 5, 0, 1, 2, 3, 4, 5, 6, 7, 9], [7, 9]), ([8, 10, 0, 1, 2, 3, 4, 5, 6, 7, 8, 9, 10], [8])])
def laws_FnExactRunCloud.B24 : List Nat := [0, 1, 0, 7, 0, 31, 63, 127, 127, 0, 767, 2047]
theorem laws_FnExactRunCloud.tab24 : rtab .any (opsOf Try.f5 24) = laws_FnExactRunCloud.T24 := by kernel_rfl
theorem laws_FnExactRunCloud.bits24 : waitsOk laws_FnExactRunCloud.T24.2 laws_FnExactRunCloud.B24 = true := by kernel_rfl
set_option maxHeartbeats 8000000 in
set_option maxRecDepth 100000 in
theorem laws_FnExactRunCloud.calls (k : Nat) (a0_0 : Int) (a0_1 : Int) (a0_2 : Int) (a0_3 : Int) (a0_4 : Int) (a0_5 : Int) (a0_6 : Int) (a1_0 : Int) (a1_1 : Int) (A1_2 : Option Addr) (c1_2 : Nat) (l1_2 : List (S68)) (a2 : Int) (r : Bool) (w : World) (hr1_2 : Kd.C k68 w A1_2 l1_2.length l1_2) (hc1_2 : l1_2.length ≤ c1_2) (h : laws_FnExactRunCloud.f k a0_0 a0_1 a0_2 a0_3 a0_4 a0_5 a0_6 a1_0 a1_1 l1_2 a2 = some r) :
  Calls Try.prog 5 #[.agg #[.int .i64 a0_0, .int .i64 a0_1, .int .i64 a0_2, .int .i64 a0_3, .int .i64 a0_4, .int .i64 a0_5, .int .i64 a0_6], .agg #[.int .i64 a1_0, .int .i64 a1_1, .slice A1_2 l1_2.length c1_2], .int .i64 a2] w fun e w' => e = .returned (.bool r) ∧ Below w.heap.size w w' := by
 have hu23 := Try.underlying23
 have hu31 := Try.underlying31
 have hu35 := Try.underlying35
 have HR1_2 := Aside0.mk hr1_2
 have HC1_2 := Aside0.mk hc1_2
 clear hr1_2 hc1_2
 have HB := Aside0.mk (Below.refl w.heap.size w)
 have H : ((laws_szCloud.f a1_0 a1_1 l1_2 1048576).bind fun t342 => (if t342 < 0 then (some true) else ((laws_toEmitter.f a0_0 a0_1 a0_2 a0_3 a0_4 a0_5 a0_6).bind fun bt343 => ((laws_toCloud.f k a1_0 a1_1 l1_2).bind fun bt350 => ((spec_RunCloud.f k bt343.1 bt343.2.1 bt343.2.2.1 bt343.2.2.2.1 bt343.2.2.2.2.1 bt343.2.2.2.2.2.1 bt343.2.2.2.2.2.2 bt350.1 bt350.2.1 bt350.2.2 a2).bind fun bt355 => ((laws_toCloud.f k a1_0 a1_1 l1_2).bind fun bt362 => ((laws_toEmitter.f a0_0 a0_1 a0_2 a0_3 a0_4 a0_5 a0_6).bind fun bt368 => ((impl_RunCloud.f k bt368.1 bt368.2.1 bt368.2.2.1 bt368.2.2.2.1 bt368.2.2.2.2.1 bt368.2.2.2.2.2.1 bt368.2.2.2.2.2.2 bt362.1 bt362.2.1 bt362.2.2 a2).bind fun bt375 => ((laws_eqCloud.f k bt375.1 bt375.2.1 bt375.2.2.1 bt355.1 bt355.2.1 bt355.2.2.1).bind fun t382 => (if t382 = true then (laws_FnExactRunCloud.j0 k a2 bt355.2.2.2 bt375.2.2.2 (bt375.2.2.2 != bt355.2.2.2) a0_0 a0_1 a0_2 a0_3 a0_4 a0_5 a0_6 a1_0 a1_1 l1_2 bt355.1 bt355.2.1 bt355.2.2.1 bt362.1 bt362.2.1 bt362.2.2 bt375.1 bt375.2.1 bt375.2.2.1) else (laws_FnExactRunCloud.j0 k a2 bt355.2.2.2 bt375.2.2.2 true a0_0 a0_1 a0_2 a0_3 a0_4 a0_5 a0_6 a1_0 a1_1 l1_2 bt355.1 bt355.2.1 bt355.2.2.1 bt362.1 bt362.2.1 bt362.2.2 bt375.1 bt375.2.1 bt375.2.2.1))))))))))) = some r := h
 clear h
 replace H := Option.bind_eq_some_iff.mp H
 obtain ⟨t342, A40, H⟩ := H
 replace H : (if t342 < 0 then (some true) else ((laws_toEmitter.f a0_0 a0_1 a0_2 a0_3 a0_4 a0_5 a0_6).bind fun bt343 => ((laws_toCloud.f k a1_0 a1_1 l1_2).bind fun bt350 => ((spec_RunCloud.f k bt343.1 bt343.2.1 bt343.2.2.1 bt343.2.2.2.1 bt343.2.2.2.2.1 bt343.2.2.2.2.2.1 bt343.2.2.2.2.2.2 bt350.1 bt350.2.1 bt350.2.2 a2).bind fun bt355 => ((laws_toCloud.f k a1_0 a1_1 l1_2).bind fun bt362 => ((laws_toEmitter.f a0_0 a0_1 a0_2 a0_3 a0_4 a0_5 a0_6).bind fun bt368 => ((impl_RunCloud.f k bt368.1 bt368.2.1 bt368.2.2.1 bt368.2.2.2.1 bt368.2.2.2.2.1 bt368.2.2.2.2.2.1 bt368.2.2.2.2.2.2 bt362.1 bt362.2.1 bt362.2.2 a2).bind fun bt375 => ((laws_eqCloud.f k bt375.1 bt375.2.1 bt375.2.2.1 bt355.1 bt355.2.1 bt355.2.2.1).bind fun t382 => (if t382 = true then (laws_FnExactRunCloud.j0 k a2 bt355.2.2.2 bt375.2.2.2 (bt375.2.2.2 != bt355.2.2.2) a0_0 a0_1 a0_2 a0_3 a0_4 a0_5 a0_6 a1_0 a1_1 l1_2 bt355.1 bt355.2.1 bt355.2.2.1 bt362.1 bt362.2.1 bt362.2.2 bt375.1 bt375.2.1 bt375.2.2.1) else (laws_FnExactRunCloud.j0 k a2 bt355.2.2.2 bt375.2.2.2 true a0_0 a0_1 a0_2 a0_3 a0_4 a0_5 a0_6 a1_0 a1_1 l1_2 bt355.1 bt355.2.1 bt355.2.2.1 bt362.1 bt362.2.1 bt362.2.2 bt375.1 bt375.2.1 bt375.2.2.1)))))))))) = some r := H
 have A4 := Aside0.mk A40
 clear A40
 by_cases c5 : t342 < 0
 ·rw [if_pos c5] at H
  have c5b0 : decide (t342 < 0) = true := decide_eq_true c5
  clear c5
  obtain rfl := Option.some.inj H
  go_enter Try.func5, Try.ntmps5
  go_wp2_with (first | ((with_reducible refine gate_dst (N := 3) rfl ?_); refine box_event rfl (N := 3) rfl (cs := #[.int .i64 a0_0, .int .i64 a0_1, .int .i64 a0_2, .int .i64 a0_3, .int .i64 a0_4, .int .i64 a0_5, .int .i64 a0_6]) (t := 23) sE ?_; intro gb340 hg w6 hbox hb; have BK340 := Aside0.mk hbox; have GW340 := gS w hg (lU); have GE340 := GW340; replace HB := bH (lU) hb; clear hb hbox hg) | ((with_reducible refine gate_dst (N := 4) rfl ?_); refine box_event rfl (N := 4) rfl (cs := #[.int .i64 a1_0, .int .i64 a1_1, .slice A1_2 l1_2.length c1_2]) (t := 31) sE ?_; intro gb341 hg w7 hbox hb; have BK341 := Aside0.mk hbox; have GW341 := gS w hg (lV1 GE340); have GE341 := GW341; replace HB := bH (lV1 GE340) hb; have NB340_341 := nL hg (bV BK340); have NB341_340 := nG hg (bV BK340); replace BK340 := bB (bV BK340) hb; clear hb hbox hg; have hnb8 := NB341_340.out; have hnc8 := NB340_341.out; have hcz9_0 := cz BK341 0 (.int .i64 a1_0); have hcz9_1 := cz BK341 1 (.int .i64 a1_1); have hcz9_2 := cz BK341 2 (.slice A1_2 l1_2.length c1_2); have hfz9_0 := fz BK341 0; have hfz9_1 := fz BK341 1; have hfz9_2 := fz BK341 2) | ((with_reducible refine gate_callee (f := 9) rfl ?_); refine goesL_ (some 20) rfl rfl Try.func9 (by kernel_rfl) rfl #[.agg #[.int .i64 a1_0, .int .i64 a1_1, .slice A1_2 l1_2.length c1_2], .int .i64 1048576] rfl aE ?_; (with_reducible refine (laws_szCloud.calls a1_0 a1_1 _ _ l1_2 1048576 t342 _ ?side1 ?side2 A4.out).mono ?_); (case side1 => exact cU (Kd.C_below HR1_2.out HB.out)); (case side2 => exact HC1_2.out); rintro e w10 ⟨rfl, hb⟩; refine ⟨_, rfl, ?_⟩; replace BK340 := bB (bV BK340) hb; replace BK341 := bB (bV BK341) hb; replace HB := bH (lV2 GE340 GE341) hb; (try clear hb)))
  go_ret
  exact ⟨eE, lV2 GE340 GE341⟩
 ·rw [if_neg c5] at H
  have c5b0 : decide (t342 < 0) = false := decide_eq_false c5
  clear c5
  replace H := Option.bind_eq_some_iff.mp H
  obtain ⟨⟨t343, t344, t345, t346, t347, t348, t349⟩, A110, H⟩ := H
  replace H : ((laws_toCloud.f k a1_0 a1_1 l1_2).bind fun bt350 => ((spec_RunCloud.f k t343 t344 t345 t346 t347 t348 t349 bt350.1 bt350.2.1 bt350.2.2 a2).bind fun bt355 => ((laws_toCloud.f k a1_0 a1_1 l1_2).bind fun bt362 => ((laws_toEmitter.f a0_0 a0_1 a0_2 a0_3 a0_4 a0_5 a0_6).bind fun bt368 => ((impl_RunCloud.f k bt368.1 bt368.2.1 bt368.2.2.1 bt368.2.2.2.1 bt368.2.2.2.2.1 bt368.2.2.2.2.2.1 bt368.2.2.2.2.2.2 bt362.1 bt362.2.1 bt362.2.2 a2).bind fun bt375 => ((laws_eqCloud.f k bt375.1 bt375.2.1 bt375.2.2.1 bt355.1 bt355.2.1 bt355.2.2.1).bind fun t382 => (if t382 = true then (laws_FnExactRunCloud.j0 k a2 bt355.2.2.2 bt375.2.2.2 (bt375.2.2.2 != bt355.2.2.2) a0_0 a0_1 a0_2 a0_3 a0_4 a0_5 a0_6 a1_0 a1_1 l1_2 bt355.1 bt355.2.1 bt355.2.2.1 bt362.1 bt362.2.1 bt362.2.2 bt375.1 bt375.2.1 bt375.2.2.1) else (laws_FnExactRunCloud.j0 k a2 bt355.2.2.2 bt375.2.2.2 true a0_0 a0_1 a0_2 a0_3 a0_4 a0_5 a0_6 a1_0 a1_1 l1_2 bt355.1 bt355.2.1 bt355.2.2.1 bt362.1 bt362.2.1 bt362.2.2 bt375.1 bt375.2.1 bt375.2.2.1)))))))) = some r := H
  have A11 := Aside0.mk A110
  clear A110
  replace H := Option.bind_eq_some_iff.mp H
  obtain ⟨⟨t350, t351, t352⟩, A120, H⟩ := H
  replace H : ((spec_RunCloud.f k t343 t344 t345 t346 t347 t348 t349 t350 t351 t352 a2).bind fun bt355 => ((laws_toCloud.f k a1_0 a1_1 l1_2).bind fun bt362 => ((laws_toEmitter.f a0_0 a0_1 a0_2 a0_3 a0_4 a0_5 a0_6).bind fun bt368 => ((impl_RunCloud.f k bt368.1 bt368.2.1 bt368.2.2.1 bt368.2.2.2.1 bt368.2.2.2.2.1 bt368.2.2.2.2.2.1 bt368.2.2.2.2.2.2 bt362.1 bt362.2.1 bt362.2.2 a2).bind fun bt375 => ((laws_eqCloud.f k bt375.1 bt375.2.1 bt375.2.2.1 bt355.1 bt355.2.1 bt355.2.2.1).bind fun t382 => (if t382 = true then (laws_FnExactRunCloud.j0 k a2 bt355.2.2.2 bt375.2.2.2 (bt375.2.2.2 != bt355.2.2.2) a0_0 a0_1 a0_2 a0_3 a0_4 a0_5 a0_6 a1_0 a1_1 l1_2 bt355.1 bt355.2.1 bt355.2.2.1 bt362.1 bt362.2.1 bt362.2.2 bt375.1 bt375.2.1 bt375.2.2.1) else (laws_FnExactRunCloud.j0 k a2 bt355.2.2.2 bt375.2.2.2 true a0_0 a0_1 a0_2 a0_3 a0_4 a0_5 a0_6 a1_0 a1_1 l1_2 bt355.1 bt355.2.1 bt355.2.2.1 bt362.1 bt362.2.1 bt362.2.2 bt375.1 bt375.2.1 bt375.2.2.1))))))) = some r := H
  have A12 := Aside0.mk A120
  clear A120
  replace H := Option.bind_eq_some_iff.mp H
  obtain ⟨⟨t355, t356, t357, t360⟩, A130, H⟩ := H
  replace H : ((laws_toCloud.f k a1_0 a1_1 l1_2).bind fun bt362 => ((laws_toEmitter.f a0_0 a0_1 a0_2 a0_3 a0_4 a0_5 a0_6).bind fun bt368 => ((impl_RunCloud.f k bt368.1 bt368.2.1 bt368.2.2.1 bt368.2.2.2.1 bt368.2.2.2.2.1 bt368.2.2.2.2.2.1 bt368.2.2.2.2.2.2 bt362.1 bt362.2.1 bt362.2.2 a2).bind fun bt375 => ((laws_eqCloud.f k bt375.1 bt375.2.1 bt375.2.2.1 t355 t356 t357).bind fun t382 => (if t382 = true then (laws_FnExactRunCloud.j0 k a2 t360 bt375.2.2.2 (bt375.2.2.2 != t360) a0_0 a0_1 a0_2 a0_3 a0_4 a0_5 a0_6 a1_0 a1_1 l1_2 t355 t356 t357 bt362.1 bt362.2.1 bt362.2.2 bt375.1 bt375.2.1 bt375.2.2.1) else (laws_FnExactRunCloud.j0 k a2 t360 bt375.2.2.2 true a0_0 a0_1 a0_2 a0_3 a0_4 a0_5 a0_6 a1_0 a1_1 l1_2 t355 t356 t357 bt362.1 bt362.2.1 bt362.2.2 bt375.1 bt375.2.1 bt375.2.2.1)))))) = some r := H
  have A13 := Aside0.mk A130
  clear A130
  replace H := Option.bind_eq_some_iff.mp H
  obtain ⟨⟨t362, t363, t364⟩, A140, H⟩ := H
  replace H : ((laws_toEmitter.f a0_0 a0_1 a0_2 a0_3 a0_4 a0_5 a0_6).bind fun bt368 => ((impl_RunCloud.f k bt368.1 bt368.2.1 bt368.2.2.1 bt368.2.2.2.1 bt368.2.2.2.2.1 bt368.2.2.2.2.2.1 bt368.2.2.2.2.2.2 t362 t363 t364 a2).bind fun bt375 => ((laws_eqCloud.f k bt375.1 bt375.2.1 bt375.2.2.1 t355 t356 t357).bind fun t382 => (if t382 = true then (laws_FnExactRunCloud.j0 k a2 t360 bt375.2.2.2 (bt375.2.2.2 != t360) a0_0 a0_1 a0_2 a0_3 a0_4 a0_5 a0_6 a1_0 a1_1 l1_2 t355 t356 t357 t362 t363 t364 bt375.1 bt375.2.1 bt375.2.2.1) else (laws_FnExactRunCloud.j0 k a2 t360 bt375.2.2.2 true a0_0 a0_1 a0_2 a0_3 a0_4 a0_5 a0_6 a1_0 a1_1 l1_2 t355 t356 t357 t362 t363 t364 bt375.1 bt375.2.1 bt375.2.2.1))))) = some r := H
  have A14 := Aside0.mk A140
  clear A140
  replace H := Option.bind_eq_some_iff.mp H
  obtain ⟨⟨t368, t369, t370, t371, t372, t373, t374⟩, A150, H⟩ := H
  replace H : ((impl_RunCloud.f k t368 t369 t370 t371 t372 t373 t374 t362 t363 t364 a2).bind fun bt375 => ((laws_eqCloud.f k bt375.1 bt375.2.1 bt375.2.2.1 t355 t356 t357).bind fun t382 => (if t382 = true then (laws_FnExactRunCloud.j0 k a2 t360 bt375.2.2.2 (bt375.2.2.2 != t360) a0_0 a0_1 a0_2 a0_3 a0_4 a0_5 a0_6 a1_0 a1_1 l1_2 t355 t356 t357 t362 t363 t364 bt375.1 bt375.2.1 bt375.2.2.1) else (laws_FnExactRunCloud.j0 k a2 t360 bt375.2.2.2 true a0_0 a0_1 a0_2 a0_3 a0_4 a0_5 a0_6 a1_0 a1_1 l1_2 t355 t356 t357 t362 t363 t364 bt375.1 bt375.2.1 bt375.2.2.1)))) = some r := H
  have A15 := Aside0.mk A150
  clear A150
  replace H := Option.bind_eq_some_iff.mp H
  obtain ⟨⟨t375, t376, t377, t380⟩, A160, H⟩ := H
  replace H : ((laws_eqCloud.f k t375 t376 t377 t355 t356 t357).bind fun t382 => (if t382 = true then (laws_FnExactRunCloud.j0 k a2 t360 t380 (t380 != t360) a0_0 a0_1 a0_2 a0_3 a0_4 a0_5 a0_6 a1_0 a1_1 l1_2 t355 t356 t357 t362 t363 t364 t375 t376 t377) else (laws_FnExactRunCloud.j0 k a2 t360 t380 true a0_0 a0_1 a0_2 a0_3 a0_4 a0_5 a0_6 a1_0 a1_1 l1_2 t355 t356 t357 t362 t363 t364 t375 t376 t377))) = some r := H
  have A16 := Aside0.mk A160
  clear A160
  have HC17 := Aside0.mk H
  clear H
  go_enter Try.func5, Try.ntmps5
  try go_wp2_with (first | ((with_reducible refine gate_dst (N := 3) rfl ?_); refine box_event rfl (N := 3) rfl (cs := #[.int .i64 a0_0, .int .i64 a0_1, .int .i64 a0_2, .int .i64 a0_3, .int .i64 a0_4, .int .i64 a0_5, .int .i64 a0_6]) (t := 23) sE ?_; intro gb340 hg w18 hbox hb; have BK340 := Aside0.mk hbox; have GW340 := gS w hg (lU); have GE340 := GW340; replace HB := bH (lU) hb; clear hb hbox hg) | ((with_reducible refine gate_dst (N := 4) rfl ?_); refine box_event rfl (N := 4) rfl (cs := #[.int .i64 a1_0, .int .i64 a1_1, .slice A1_2 l1_2.length c1_2]) (t := 31) sE ?_; intro gb341 hg w19 hbox hb; have BK341 := Aside0.mk hbox; have GW341 := gS w hg (lV1 GE340); have GE341 := GW341; replace HB := bH (lV1 GE340) hb; have NB340_341 := nL hg (bV BK340); have NB341_340 := nG hg (bV BK340); replace BK340 := bB (bV BK340) hb; clear hb hbox hg; have hnb20 := NB341_340.out; have hnc20 := NB340_341.out; have hcz21_0 := cz BK341 0 (.int .i64 a1_0); have hcz21_1 := cz BK341 1 (.int .i64 a1_1); have hcz21_2 := cz BK341 2 (.slice A1_2 l1_2.length c1_2); have hfz21_0 := fz BK341 0; have hfz21_1 := fz BK341 1; have hfz21_2 := fz BK341 2) | ((with_reducible refine gate_callee (f := 9) rfl ?_); refine goesL_ (some 20) rfl rfl Try.func9 (by kernel_rfl) rfl #[.agg #[.int .i64 a1_0, .int .i64 a1_1, .slice A1_2 l1_2.length c1_2], .int .i64 1048576] rfl aE ?_; (with_reducible refine (laws_szCloud.calls a1_0 a1_1 _ _ l1_2 1048576 t342 _ ?side1 ?side2 A4.out).mono ?_); (case side1 => exact cU (Kd.C_below HR1_2.out HB.out)); (case side2 => exact HC1_2.out); rintro e w22 ⟨rfl, hb⟩; refine ⟨_, rfl, ?_⟩; replace BK340 := bB (bV BK340) hb; replace BK341 := bB (bV BK341) hb; replace HB := bH (lV2 GE340 GE341) hb; (try clear hb)))
  replace BK340 := Aside0.mk (blk_drew BK340.out)
  replace BK341 := Aside0.mk (blk_drew BK341.out)
  replace HB := Aside0.mk (below_drew1 HB.out)
  refine start_ (n := 12) (S := fun w' => w'.cell? ⟨gb340, 0, none⟩ = some (.int .i64 a0_0) ∧ w'.cell? ⟨gb340, 1, none⟩ = some (.int .i64 a0_1) ∧ w'.cell? ⟨gb340, 2, none⟩ = some (.int .i64 a0_2) ∧ w'.cell? ⟨gb340, 3, none⟩ = some (.int .i64 a0_3) ∧ w'.cell? ⟨gb340, 4, none⟩ = some (.int .i64 a0_4) ∧ w'.cell? ⟨gb340, 5, none⟩ = some (.int .i64 a0_5) ∧ w'.cell? ⟨gb340, 6, none⟩ = some (.int .i64 a0_6) ∧ w'.cell? ⟨gb341, 0, none⟩ = some (.int .i64 a1_0) ∧ w'.cell? ⟨gb341, 1, none⟩ = some (.int .i64 a1_1) ∧ w'.cell? ⟨gb341, 2, none⟩ = some (.slice A1_2 l1_2.length c1_2)) (ds := []) #[false, false, false, false, false, false, false, false, false, false, false, false] (by kernel_rfl) rfl rfl ⟨cz BK340 0 _, cz BK340 1 _, cz BK340 2 _, cz BK340 3 _, cz BK340 4 _, cz BK340 5 _, cz BK340 6 _, cz BK341 0 _, cz BK341 1 _, cz BK341 2 _⟩ (fun hHeld => ?_); refine with_tabW laws_FnExactRunCloud.tab5 laws_FnExactRunCloud.bits5 (fun HT_ HW_ => ?_)
  generalize w22.drew = w23 at BK340 BK341 HB hHeld ⊢
  refine pureA 4 28 (bz 12 16) rfl rfl (any_of HT_.out (by kernel_rfl)) ?_
  refine takeA 0 24 (bz 12 17) rfl rfl (take_ofW HT_.out HW_.out (by kernel_rfl)) hHeld (by rintro w' ⟨s0, s1, s2, s3, s4, s5, s6, s7, s8, s9⟩; go_simp; with_reducible rfl) ?_
  refine takeA 2 26 (bz 12 21) rfl rfl (take_ofW HT_.out HW_.out (by kernel_rfl)) hHeld (by rintro w' ⟨s0, s1, s2, s3, s4, s5, s6, s7, s8, s9⟩; go_simp; with_reducible rfl) ?_
  refine join_ (σ := Value × Value × Nat) 2 #[true, true, true, true, true, true, true, true, true, true, false, false] (fun s_ => [(25, .agg #[.int .i64 t343, .int .i64 t344, .int .i64 t345, .int .i64 t346, .int .i64 t347, .int .i64 t348, .int .i64 t349]), (27, .agg #[.int .i64 t350, .int .i64 t351, s_.1]), (29, .tuple #[.agg #[.int .i64 t355, .int .i64 t356, s_.2.1], .bool t360]), (8, .pointer (some ⟨s_.2.2, 0, none⟩)), (23, .tuple #[.agg #[.int .i64 t355, .int .i64 t356, s_.2.1], .bool t360]), (30, .agg #[.int .i64 t355, .int .i64 t356, s_.2.1]), (31, .bool t360)]) (fun s_ w' => (w'.cell? ⟨gb340, 0, none⟩ = some (.int .i64 a0_0) ∧ w'.cell? ⟨gb340, 1, none⟩ = some (.int .i64 a0_1) ∧ w'.cell? ⟨gb340, 2, none⟩ = some (.int .i64 a0_2) ∧ w'.cell? ⟨gb340, 3, none⟩ = some (.int .i64 a0_3) ∧ w'.cell? ⟨gb340, 4, none⟩ = some (.int .i64 a0_4) ∧ w'.cell? ⟨gb340, 5, none⟩ = some (.int .i64 a0_5) ∧ w'.cell? ⟨gb340, 6, none⟩ = some (.int .i64 a0_6) ∧ w'.cell? ⟨gb341, 0, none⟩ = some (.int .i64 a1_0) ∧ w'.cell? ⟨gb341, 1, none⟩ = some (.int .i64 a1_1) ∧ w'.cell? ⟨gb341, 2, none⟩ = some (.slice A1_2 l1_2.length c1_2)) ∧ (Kd.R k48 48 w' w.heap.size (fun k_ => some k_ ≠ (s_.2.1 : Value).ownBlock) s_.1 t352) ∧ (Kd.R k48 48 w' w.heap.size (fun k_ => some k_ ≠ (s_.1 : Value).ownBlock) s_.2.1 t357) ∧ (w'.heap[gb340]? = some (.cells #[.int .i64 a0_0, .int .i64 a0_1, .int .i64 a0_2, .int .i64 a0_3, .int .i64 a0_4, .int .i64 a0_5, .int .i64 a0_6] 23 (0, 0))) ∧ (w'.heap[gb341]? = some (.cells #[.int .i64 a1_0, .int .i64 a1_1, .slice A1_2 l1_2.length c1_2] 31 (0, 0))) ∧ (w'.heap[s_.2.2]? = some (.cells #[.int .i64 0, .int .i64 0, .slice none 0 0] 35 (0, 0))) ∧ (w.heap.size ≤ s_.2.2) ∧ (w.heap.size ≤ s_.2.2) ∧ (gb340 ≠ s_.2.2) ∧ (s_.2.2 ≠ gb340) ∧ (gb341 ≠ s_.2.2) ∧ (s_.2.2 ≠ gb341) ∧ (Below w.heap.size w w')) ?_ ?_
  rotate_left
  ·intro hCont
   refine two_ (i := 1) (j := 9) (Ni := some 25) (Nj := some 8) #[true, true, true, false, true, false, false, false, false, false, false, false] #[true, false, true, false, true, false, false, false, false, true, false, false] rfl rfl rfl rfl (two_of HT_.out (by kernel_rfl)) (by decide) (by decide) (fun K hK => ?_) (fun K hK => ?_)
   ·skip
    refine goes_ Try.func7 (by kernel_rfl) rfl #[.agg #[.int .i64 a0_0, .int .i64 a0_1, .int .i64 a0_2, .int .i64 a0_3, .int .i64 a0_4, .int .i64 a0_5, .int .i64 a0_6]] (by rfl) rfl rfl aE ?_
    with_reducible refine (laws_toEmitter.calls a0_0 a0_1 a0_2 a0_3 a0_4 a0_5 a0_6 t343 t344 t345 t346 t347 t348 t349 _ A11.out).mono ?_
    rintro e w24 ⟨rfl, hb⟩
    refine ⟨_, rfl, ?_⟩
    replace BK340 := bB (bV BK340) hb
    replace BK341 := bB (bV BK341) hb
    replace HB := bH (lV2 GE340 GE341) hb
    (try clear hb)
    (try clear hb2)
    (try clear hk)
    (try clear hi)
    refine hK.out _ _ ⟨cz BK340 0 _, cz BK340 1 _, cz BK340 2 _, cz BK340 3 _, cz BK340 4 _, cz BK340 5 _, cz BK340 6 _, cz BK341 0 _, cz BK341 1 _, cz BK341 2 _⟩ (fun hHeld => ?_)
    clear hK K
    refine norm_ (a' := ?_) ?_ ?_
    rotate_left
    ·show Act.put _ (some 25) _ = _
     simp only [Act.put, List.setIfInBounds_toArray, List.set_cons_zero, List.set_cons_succ, i64_w, i32_w]
     rfl
    refine two_ (i := 3) (j := 9) (Ni := some 27) (Nj := some 8) #[true, true, true, true, true, false, false, false, false, false, false, false] #[true, true, true, false, true, false, false, false, false, true, false, false] rfl rfl rfl rfl (two_of HT_.out (by kernel_rfl)) (by decide) (by decide) (fun K hK => ?_) (fun K hK => ?_)
    ·skip
     refine goes_ Try.func11 (by kernel_rfl) rfl #[.agg #[.int .i64 a1_0, .int .i64 a1_1, .slice A1_2 l1_2.length c1_2]] (by rfl) rfl rfl aE ?_
     with_reducible refine (laws_toCloud.calls k a1_0 a1_1 _ _ l1_2 t350 t351 t352 _ ?side1 ?side2 A12.out).mono ?_
     (case side1 => exact cU (Kd.C_below HR1_2.out HB.out))
     (case side2 => exact HC1_2.out)
     rintro e w25 ⟨v353, rfl, ho0, hb⟩
     refine ⟨_, rfl, ?_⟩
     have HO354 := Aside0.mk (Kd.R_lower ho0 (below_size (lV2 GE340 GE341)))
     replace BK340 := bB (bV BK340) hb
     replace BK341 := bB (bV BK341) hb
     replace HB := bH (lV2 GE340 GE341) hb
     (try clear hb)
     (try clear hb2)
     (try clear hk)
     (try clear hi)
     (try clear ho0)
     obtain ⟨Ao26, co26, eo26⟩ := Kd.R_slice HO354.out
     (first | subst eo26 | (injection eo26 with f1_ f2_ f3_; have f4_ := f1_.symm; have f5_ := f3_.symm; clear f1_ f2_ f3_; subst f4_; subst f5_))
     refine hK.out _ _ ⟨cz BK340 0 _, cz BK340 1 _, cz BK340 2 _, cz BK340 3 _, cz BK340 4 _, cz BK340 5 _, cz BK340 6 _, cz BK341 0 _, cz BK341 1 _, cz BK341 2 _⟩ (fun hHeld => ?_)
     clear hK K
     refine norm_ (a' := ?_) ?_ ?_
     rotate_left
     ·show Act.put _ (some 27) _ = _
      simp only [Act.put, List.setIfInBounds_toArray, List.set_cons_zero, List.set_cons_succ, i64_w, i32_w]
      rfl
     refine two_ (i := 5) (j := 9) (Ni := some 29) (Nj := some 8) #[true, true, true, true, true, true, false, false, false, false, false, false] #[true, true, true, true, true, false, false, false, false, true, false, false] rfl rfl rfl rfl (two_of HT_.out (by kernel_rfl)) (by decide) (by decide) (fun K hK => ?_) (fun K hK => ?_)
     ·skip
      refine goes_ Try.func16 (by kernel_rfl) rfl #[.agg #[.int .i64 t343, .int .i64 t344, .int .i64 t345, .int .i64 t346, .int .i64 t347, .int .i64 t348, .int .i64 t349], .agg #[.int .i64 t350, .int .i64 t351, .slice Ao26 t352.length co26], .int .i64 a2] (by rfl) rfl rfl aE ?_
      with_reducible refine (spec_RunCloud.calls k t343 t344 t345 t346 t347 t348 t349 t350 t351 _ _ t352 a2 t355 t356 t357 t360 _ ?side1 ?side2 A13.out).mono ?_
      (case side1 => exact cU (Kd.R_reads' HO354.out).2.2)
      (case side2 => exact (Kd.R_reads' HO354.out).2.1)
      rintro e w27 ⟨v358, rfl, ho0, hb⟩
      refine ⟨_, rfl, ?_⟩
      have HO359 := Aside0.mk (Kd.R_lower (Kd.R_new' ho0 (Kd.R_lt (rU HO354.out))) (below_size (lV2 GE340 GE341)))
      replace HO354 := Aside0.mk (Kd.R_elder' (rU HO354.out) (Kd.R_base ho0) hb)
      replace BK340 := bB (bV BK340) hb
      replace BK341 := bB (bV BK341) hb
      replace HB := bH (lV2 GE340 GE341) hb
      (try clear hb)
      (try clear hb2)
      (try clear hk)
      (try clear hi)
      (try clear ho0)
      refine hK.out _ _ ⟨cz BK340 0 _, cz BK340 1 _, cz BK340 2 _, cz BK340 3 _, cz BK340 4 _, cz BK340 5 _, cz BK340 6 _, cz BK341 0 _, cz BK341 1 _, cz BK341 2 _⟩ (fun hHeld => ?_)
      clear hK K
      refine norm_ (a' := ?_) ?_ ?_
      rotate_left
      ·show Act.put _ (some 29) _ = _
       simp only [Act.put, List.setIfInBounds_toArray, List.set_cons_zero, List.set_cons_succ, i64_w, i32_w]
       rfl
      refine pureA 6 23 (bz 12 127) rfl rfl (any_of HT_.out (by kernel_rfl)) ?_
      refine pureA 7 30 (bz 12 255) rfl rfl (any_of HT_.out (by kernel_rfl)) ?_
      refine pureA 8 31 (bz 12 511) rfl rfl (any_of HT_.out (by kernel_rfl)) ?_
      refine one_ (i := 9) (N := some 8) (bz 12 1023) rfl rfl (one_of HT_.out (by kernel_rfl)) (by decide) (fun K hK => ?_)
      refine box_step ?hg (N := 8) ?hd (cs := #[.int .i64 0, .int .i64 0, .slice none 0 0]) (t := 35) ?hr ?_; (case hd => rfl); (case hg => rfl); (case hr => exact sE)
      intro gb361 hg w28 hbox hb
      replace HO354 := Aside0.mk (Kd.R_below (rU HO354.out) hb)
      replace HO359 := Aside0.mk (Kd.R_below (rU HO359.out) hb)
      have BK361 := Aside0.mk hbox
      have GW361 := gS w hg (lV2 GE340 GE341)
      have GE361 := gS w hg (lV2 GE340 GE341)
      replace HB := bH (lV2 GE340 GE341) hb
      have NB340_361 := nL hg (bV BK340)
      have NB361_340 := nG hg (bV BK340)
      replace BK340 := bB (bV BK340) hb
      have NB341_361 := nL hg (bV BK341)
      have NB361_341 := nG hg (bV BK341)
      replace BK341 := bB (bV BK341) hb
      clear hb hbox hg
      refine hK.out _ _ ⟨cz BK340 0 _, cz BK340 1 _, cz BK340 2 _, cz BK340 3 _, cz BK340 4 _, cz BK340 5 _, cz BK340 6 _, cz BK341 0 _, cz BK341 1 _, cz BK341 2 _⟩ (fun hHeld => ?_)
      clear hK K
      refine norm_ (a' := ?_) ?_ ?_
      rotate_left
      ·show Act.put _ (some 8) _ = _
       simp only [Act.put, List.setIfInBounds_toArray, List.set_cons_zero, List.set_cons_succ, i64_w, i32_w]
       rfl
      exact norm_ (by simp only [putAll, Act.put, List.setIfInBounds_toArray, List.set_cons_zero, List.set_cons_succ]) (hCont (.slice Ao26 t352.length co26, v358, gb361) _ ⟨hHeld, (by (with_reducible repeat (first | apply Kd.R_alloc | apply Kd.R_drewN | apply Kd.R_drew)); exact Kd.R_mono HO354.out (fun _ hk => hk.2)), (by (with_reducible repeat (first | apply Kd.R_alloc | apply Kd.R_drewN | apply Kd.R_drew)); exact Kd.R_mono HO359.out (fun _ hk => hk.2)), (bV BK340), (bV BK341), (bV BK361), GW361.out, GE361.out, NB340_361.out, NB361_340.out, NB341_361.out, NB361_341.out, (lV3 GE340 GE341 GE361)⟩)
     ·skip
      refine box_step ?hg (N := 8) ?hd (cs := #[.int .i64 0, .int .i64 0, .slice none 0 0]) (t := 35) ?hr ?_; (case hd => rfl); (case hg => rfl); (case hr => exact sE)
      intro gb361 hg w26 hbox hb
      replace HO354 := Aside0.mk (Kd.R_below (rU HO354.out) hb)
      have BK361 := Aside0.mk hbox
      have GW361 := gS w hg (lV2 GE340 GE341)
      have GE361 := gS w hg (lV2 GE340 GE341)
      replace HB := bH (lV2 GE340 GE341) hb
      have NB340_361 := nL hg (bV BK340)
      have NB361_340 := nG hg (bV BK340)
      replace BK340 := bB (bV BK340) hb
      have NB341_361 := nL hg (bV BK341)
      have NB361_341 := nG hg (bV BK341)
      replace BK341 := bB (bV BK341) hb
      clear hb hbox hg
      obtain ⟨Ao27, co27, eo27⟩ := Kd.R_slice HO354.out
      (first | subst eo27 | (injection eo27 with f1_ f2_ f3_; have f4_ := f1_.symm; have f5_ := f3_.symm; clear f1_ f2_ f3_; subst f4_; subst f5_))
      refine hK.out _ _ ⟨cz BK340 0 _, cz BK340 1 _, cz BK340 2 _, cz BK340 3 _, cz BK340 4 _, cz BK340 5 _, cz BK340 6 _, cz BK341 0 _, cz BK341 1 _, cz BK341 2 _⟩ (fun hHeld => ?_)
      clear hK K
      refine norm_ (a' := ?_) ?_ ?_
      rotate_left
      ·show Act.put _ (some 8) _ = _
       simp only [Act.put, List.setIfInBounds_toArray, List.set_cons_zero, List.set_cons_succ, i64_w, i32_w]
       rfl
      refine one_ (i := 5) (N := some 29) (bz 12 575) rfl rfl (one_of HT_.out (by kernel_rfl)) (by decide) (fun K hK => ?_)
      refine goes_ Try.func16 (by kernel_rfl) rfl #[.agg #[.int .i64 t343, .int .i64 t344, .int .i64 t345, .int .i64 t346, .int .i64 t347, .int .i64 t348, .int .i64 t349], .agg #[.int .i64 t350, .int .i64 t351, .slice Ao27 t352.length co27], .int .i64 a2] (by rfl) rfl rfl aE ?_
      with_reducible refine (spec_RunCloud.calls k t343 t344 t345 t346 t347 t348 t349 t350 t351 _ _ t352 a2 t355 t356 t357 t360 _ ?side1 ?side2 A13.out).mono ?_
      (case side1 => exact cU (Kd.R_reads' HO354.out).2.2)
      (case side2 => exact (Kd.R_reads' HO354.out).2.1)
      rintro e w28 ⟨v358, rfl, ho0, hb⟩
      refine ⟨_, rfl, ?_⟩
      have HO359 := Aside0.mk (Kd.R_lower (Kd.R_new' ho0 (Kd.R_lt (rU HO354.out))) (below_size (lV3 GE340 GE341 GE361)))
      replace HO354 := Aside0.mk (Kd.R_elder' (rU HO354.out) (Kd.R_base ho0) hb)
      replace BK340 := bB (bV BK340) hb
      replace BK341 := bB (bV BK341) hb
      replace BK361 := bB (bV BK361) hb
      replace HB := bH (lV3 GE340 GE341 GE361) hb
      (try clear hb)
      (try clear hb2)
      (try clear hk)
      (try clear hi)
      (try clear ho0)
      refine hK.out _ _ ⟨cz BK340 0 _, cz BK340 1 _, cz BK340 2 _, cz BK340 3 _, cz BK340 4 _, cz BK340 5 _, cz BK340 6 _, cz BK341 0 _, cz BK341 1 _, cz BK341 2 _⟩ (fun hHeld => ?_)
      clear hK K
      refine norm_ (a' := ?_) ?_ ?_
      rotate_left
      ·show Act.put _ (some 29) _ = _
       simp only [Act.put, List.setIfInBounds_toArray, List.set_cons_zero, List.set_cons_succ, i64_w, i32_w]
       rfl
      refine pureA 6 23 (bz 12 639) rfl rfl (any_of HT_.out (by kernel_rfl)) ?_
      refine pureA 7 30 (bz 12 767) rfl rfl (any_of HT_.out (by kernel_rfl)) ?_
      refine pureA 8 31 (bz 12 1023) rfl rfl (any_of HT_.out (by kernel_rfl)) ?_
      exact norm_ (by simp only [putAll, Act.put, List.setIfInBounds_toArray, List.set_cons_zero, List.set_cons_succ]) (hCont (.slice Ao27 t352.length co27, v358, gb361) _ ⟨hHeld, (by (with_reducible repeat (first | apply Kd.R_alloc | apply Kd.R_drewN | apply Kd.R_drew)); exact Kd.R_mono HO354.out (fun _ hk => hk.2)), (by (with_reducible repeat (first | apply Kd.R_alloc | apply Kd.R_drewN | apply Kd.R_drew)); exact Kd.R_mono HO359.out (fun _ hk => hk.2)), (bV BK340), (bV BK341), (bV BK361), GW361.out, GE361.out, NB340_361.out, NB361_340.out, NB341_361.out, NB361_341.out, (lV3 GE340 GE341 GE361)⟩)
    ·skip
     refine box_step ?hg (N := 8) ?hd (cs := #[.int .i64 0, .int .i64 0, .slice none 0 0]) (t := 35) ?hr ?_; (case hd => rfl); (case hg => rfl); (case hr => exact sE)
     intro gb361 hg w25 hbox hb
     have BK361 := Aside0.mk hbox
     have GW361 := gS w hg (lV2 GE340 GE341)
     have GE361 := gS w hg (lV2 GE340 GE341)
     replace HB := bH (lV2 GE340 GE341) hb
     have NB340_361 := nL hg (bV BK340)
     have NB361_340 := nG hg (bV BK340)
     replace BK340 := bB (bV BK340) hb
     have NB341_361 := nL hg (bV BK341)
     have NB361_341 := nG hg (bV BK341)
     replace BK341 := bB (bV BK341) hb
     clear hb hbox hg
     refine hK.out _ _ ⟨cz BK340 0 _, cz BK340 1 _, cz BK340 2 _, cz BK340 3 _, cz BK340 4 _, cz BK340 5 _, cz BK340 6 _, cz BK341 0 _, cz BK341 1 _, cz BK341 2 _⟩ (fun hHeld => ?_)
     clear hK K
     refine norm_ (a' := ?_) ?_ ?_
     rotate_left
     ·show Act.put _ (some 8) _ = _
      simp only [Act.put, List.setIfInBounds_toArray, List.set_cons_zero, List.set_cons_succ, i64_w, i32_w]
      rfl
     refine one_ (i := 3) (N := some 27) (bz 12 543) rfl rfl (one_of HT_.out (by kernel_rfl)) (by decide) (fun K hK => ?_)
     refine goes_ Try.func11 (by kernel_rfl) rfl #[.agg #[.int .i64 a1_0, .int .i64 a1_1, .slice A1_2 l1_2.length c1_2]] (by rfl) rfl rfl aE ?_
     with_reducible refine (laws_toCloud.calls k a1_0 a1_1 _ _ l1_2 t350 t351 t352 _ ?side1 ?side2 A12.out).mono ?_
     (case side1 => exact cU (Kd.C_below HR1_2.out HB.out))
     (case side2 => exact HC1_2.out)
     rintro e w26 ⟨v353, rfl, ho0, hb⟩
     refine ⟨_, rfl, ?_⟩
     have HO354 := Aside0.mk (Kd.R_lower ho0 (below_size (lV3 GE340 GE341 GE361)))
     replace BK340 := bB (bV BK340) hb
     replace BK341 := bB (bV BK341) hb
     replace BK361 := bB (bV BK361) hb
     replace HB := bH (lV3 GE340 GE341 GE361) hb
     (try clear hb)
     (try clear hb2)
     (try clear hk)
     (try clear hi)
     (try clear ho0)
     obtain ⟨Ao27, co27, eo27⟩ := Kd.R_slice HO354.out
     (first | subst eo27 | (injection eo27 with f1_ f2_ f3_; have f4_ := f1_.symm; have f5_ := f3_.symm; clear f1_ f2_ f3_; subst f4_; subst f5_))
     refine hK.out _ _ ⟨cz BK340 0 _, cz BK340 1 _, cz BK340 2 _, cz BK340 3 _, cz BK340 4 _, cz BK340 5 _, cz BK340 6 _, cz BK341 0 _, cz BK341 1 _, cz BK341 2 _⟩ (fun hHeld => ?_)
     clear hK K
     refine norm_ (a' := ?_) ?_ ?_
     rotate_left
     ·show Act.put _ (some 27) _ = _
      simp only [Act.put, List.setIfInBounds_toArray, List.set_cons_zero, List.set_cons_succ, i64_w, i32_w]
      rfl
     refine one_ (i := 5) (N := some 29) (bz 12 575) rfl rfl (one_of HT_.out (by kernel_rfl)) (by decide) (fun K hK => ?_)
     refine goes_ Try.func16 (by kernel_rfl) rfl #[.agg #[.int .i64 t343, .int .i64 t344, .int .i64 t345, .int .i64 t346, .int .i64 t347, .int .i64 t348, .int .i64 t349], .agg #[.int .i64 t350, .int .i64 t351, .slice Ao27 t352.length co27], .int .i64 a2] (by rfl) rfl rfl aE ?_
     with_reducible refine (spec_RunCloud.calls k t343 t344 t345 t346 t347 t348 t349 t350 t351 _ _ t352 a2 t355 t356 t357 t360 _ ?side1 ?side2 A13.out).mono ?_
     (case side1 => exact cU (Kd.R_reads' HO354.out).2.2)
     (case side2 => exact (Kd.R_reads' HO354.out).2.1)
     rintro e w28 ⟨v358, rfl, ho0, hb⟩
     refine ⟨_, rfl, ?_⟩
     have HO359 := Aside0.mk (Kd.R_lower (Kd.R_new' ho0 (Kd.R_lt (rU HO354.out))) (below_size (lV3 GE340 GE341 GE361)))
     replace HO354 := Aside0.mk (Kd.R_elder' (rU HO354.out) (Kd.R_base ho0) hb)
     replace BK340 := bB (bV BK340) hb
     replace BK341 := bB (bV BK341) hb
     replace BK361 := bB (bV BK361) hb
     replace HB := bH (lV3 GE340 GE341 GE361) hb
     (try clear hb)
     (try clear hb2)
     (try clear hk)
     (try clear hi)
     (try clear ho0)
     refine hK.out _ _ ⟨cz BK340 0 _, cz BK340 1 _, cz BK340 2 _, cz BK340 3 _, cz BK340 4 _, cz BK340 5 _, cz BK340 6 _, cz BK341 0 _, cz BK341 1 _, cz BK341 2 _⟩ (fun hHeld => ?_)
     clear hK K
     refine norm_ (a' := ?_) ?_ ?_
     rotate_left
     ·show Act.put _ (some 29) _ = _
      simp only [Act.put, List.setIfInBounds_toArray, List.set_cons_zero, List.set_cons_succ, i64_w, i32_w]
      rfl
     refine pureA 6 23 (bz 12 639) rfl rfl (any_of HT_.out (by kernel_rfl)) ?_
     refine pureA 7 30 (bz 12 767) rfl rfl (any_of HT_.out (by kernel_rfl)) ?_
     refine pureA 8 31 (bz 12 1023) rfl rfl (any_of HT_.out (by kernel_rfl)) ?_
     exact norm_ (by simp only [putAll, Act.put, List.setIfInBounds_toArray, List.set_cons_zero, List.set_cons_succ]) (hCont (.slice Ao27 t352.length co27, v358, gb361) _ ⟨hHeld, (by (with_reducible repeat (first | apply Kd.R_alloc | apply Kd.R_drewN | apply Kd.R_drew)); exact Kd.R_mono HO354.out (fun _ hk => hk.2)), (by (with_reducible repeat (first | apply Kd.R_alloc | apply Kd.R_drewN | apply Kd.R_drew)); exact Kd.R_mono HO359.out (fun _ hk => hk.2)), (bV BK340), (bV BK341), (bV BK361), GW361.out, GE361.out, NB340_361.out, NB361_340.out, NB341_361.out, NB361_341.out, (lV3 GE340 GE341 GE361)⟩)
   ·skip
    refine box_step ?hg (N := 8) ?hd (cs := #[.int .i64 0, .int .i64 0, .slice none 0 0]) (t := 35) ?hr ?_; (case hd => rfl); (case hg => rfl); (case hr => exact sE)
    intro gb361 hg w24 hbox hb
    have BK361 := Aside0.mk hbox
    have GW361 := gS w hg (lV2 GE340 GE341)
    have GE361 := gS w hg (lV2 GE340 GE341)
    replace HB := bH (lV2 GE340 GE341) hb
    have NB340_361 := nL hg (bV BK340)
    have NB361_340 := nG hg (bV BK340)
    replace BK340 := bB (bV BK340) hb
    have NB341_361 := nL hg (bV BK341)
    have NB361_341 := nG hg (bV BK341)
    replace BK341 := bB (bV BK341) hb
    clear hb hbox hg
    refine hK.out _ _ ⟨cz BK340 0 _, cz BK340 1 _, cz BK340 2 _, cz BK340 3 _, cz BK340 4 _, cz BK340 5 _, cz BK340 6 _, cz BK341 0 _, cz BK341 1 _, cz BK341 2 _⟩ (fun hHeld => ?_)
    clear hK K
    refine norm_ (a' := ?_) ?_ ?_
    rotate_left
    ·show Act.put _ (some 8) _ = _
     simp only [Act.put, List.setIfInBounds_toArray, List.set_cons_zero, List.set_cons_succ, i64_w, i32_w]
     rfl
    refine one_ (i := 1) (N := some 25) (bz 12 535) rfl rfl (one_of HT_.out (by kernel_rfl)) (by decide) (fun K hK => ?_)
    refine goes_ Try.func7 (by kernel_rfl) rfl #[.agg #[.int .i64 a0_0, .int .i64 a0_1, .int .i64 a0_2, .int .i64 a0_3, .int .i64 a0_4, .int .i64 a0_5, .int .i64 a0_6]] (by rfl) rfl rfl aE ?_
    with_reducible refine (laws_toEmitter.calls a0_0 a0_1 a0_2 a0_3 a0_4 a0_5 a0_6 t343 t344 t345 t346 t347 t348 t349 _ A11.out).mono ?_
    rintro e w25 ⟨rfl, hb⟩
    refine ⟨_, rfl, ?_⟩
    replace BK340 := bB (bV BK340) hb
    replace BK341 := bB (bV BK341) hb
    replace BK361 := bB (bV BK361) hb
    replace HB := bH (lV3 GE340 GE341 GE361) hb
    (try clear hb)
    (try clear hb2)
    (try clear hk)
    (try clear hi)
    refine hK.out _ _ ⟨cz BK340 0 _, cz BK340 1 _, cz BK340 2 _, cz BK340 3 _, cz BK340 4 _, cz BK340 5 _, cz BK340 6 _, cz BK341 0 _, cz BK341 1 _, cz BK341 2 _⟩ (fun hHeld => ?_)
    clear hK K
    refine norm_ (a' := ?_) ?_ ?_
    rotate_left
    ·show Act.put _ (some 25) _ = _
     simp only [Act.put, List.setIfInBounds_toArray, List.set_cons_zero, List.set_cons_succ, i64_w, i32_w]
     rfl
    refine one_ (i := 3) (N := some 27) (bz 12 543) rfl rfl (one_of HT_.out (by kernel_rfl)) (by decide) (fun K hK => ?_)
    refine goes_ Try.func11 (by kernel_rfl) rfl #[.agg #[.int .i64 a1_0, .int .i64 a1_1, .slice A1_2 l1_2.length c1_2]] (by rfl) rfl rfl aE ?_
    with_reducible refine (laws_toCloud.calls k a1_0 a1_1 _ _ l1_2 t350 t351 t352 _ ?side1 ?side2 A12.out).mono ?_
    (case side1 => exact cU (Kd.C_below HR1_2.out HB.out))
    (case side2 => exact HC1_2.out)
    rintro e w26 ⟨v353, rfl, ho0, hb⟩
    refine ⟨_, rfl, ?_⟩
    have HO354 := Aside0.mk (Kd.R_lower ho0 (below_size (lV3 GE340 GE341 GE361)))
    replace BK340 := bB (bV BK340) hb
    replace BK341 := bB (bV BK341) hb
    replace BK361 := bB (bV BK361) hb
    replace HB := bH (lV3 GE340 GE341 GE361) hb
    (try clear hb)
    (try clear hb2)
    (try clear hk)
    (try clear hi)
    (try clear ho0)
    obtain ⟨Ao27, co27, eo27⟩ := Kd.R_slice HO354.out
    (first | subst eo27 | (injection eo27 with f1_ f2_ f3_; have f4_ := f1_.symm; have f5_ := f3_.symm; clear f1_ f2_ f3_; subst f4_; subst f5_))
    refine hK.out _ _ ⟨cz BK340 0 _, cz BK340 1 _, cz BK340 2 _, cz BK340 3 _, cz BK340 4 _, cz BK340 5 _, cz BK340 6 _, cz BK341 0 _, cz BK341 1 _, cz BK341 2 _⟩ (fun hHeld => ?_)
    clear hK K
    refine norm_ (a' := ?_) ?_ ?_
    rotate_left
    ·show Act.put _ (some 27) _ = _
     simp only [Act.put, List.setIfInBounds_toArray, List.set_cons_zero, List.set_cons_succ, i64_w, i32_w]
     rfl
    refine one_ (i := 5) (N := some 29) (bz 12 575) rfl rfl (one_of HT_.out (by kernel_rfl)) (by decide) (fun K hK => ?_)
    refine goes_ Try.func16 (by kernel_rfl) rfl #[.agg #[.int .i64 t343, .int .i64 t344, .int .i64 t345, .int .i64 t346, .int .i64 t347, .int .i64 t348, .int .i64 t349], .agg #[.int .i64 t350, .int .i64 t351, .slice Ao27 t352.length co27], .int .i64 a2] (by rfl) rfl rfl aE ?_
    with_reducible refine (spec_RunCloud.calls k t343 t344 t345 t346 t347 t348 t349 t350 t351 _ _ t352 a2 t355 t356 t357 t360 _ ?side1 ?side2 A13.out).mono ?_
    (case side1 => exact cU (Kd.R_reads' HO354.out).2.2)
    (case side2 => exact (Kd.R_reads' HO354.out).2.1)
    rintro e w28 ⟨v358, rfl, ho0, hb⟩
    refine ⟨_, rfl, ?_⟩
    have HO359 := Aside0.mk (Kd.R_lower (Kd.R_new' ho0 (Kd.R_lt (rU HO354.out))) (below_size (lV3 GE340 GE341 GE361)))
    replace HO354 := Aside0.mk (Kd.R_elder' (rU HO354.out) (Kd.R_base ho0) hb)
    replace BK340 := bB (bV BK340) hb
    replace BK341 := bB (bV BK341) hb
    replace BK361 := bB (bV BK361) hb
    replace HB := bH (lV3 GE340 GE341 GE361) hb
    (try clear hb)
    (try clear hb2)
    (try clear hk)
    (try clear hi)
    (try clear ho0)
    refine hK.out _ _ ⟨cz BK340 0 _, cz BK340 1 _, cz BK340 2 _, cz BK340 3 _, cz BK340 4 _, cz BK340 5 _, cz BK340 6 _, cz BK341 0 _, cz BK341 1 _, cz BK341 2 _⟩ (fun hHeld => ?_)
    clear hK K
    refine norm_ (a' := ?_) ?_ ?_
    rotate_left
    ·show Act.put _ (some 29) _ = _
     simp only [Act.put, List.setIfInBounds_toArray, List.set_cons_zero, List.set_cons_succ, i64_w, i32_w]
     rfl
    refine pureA 6 23 (bz 12 639) rfl rfl (any_of HT_.out (by kernel_rfl)) ?_
    refine pureA 7 30 (bz 12 767) rfl rfl (any_of HT_.out (by kernel_rfl)) ?_
    refine pureA 8 31 (bz 12 1023) rfl rfl (any_of HT_.out (by kernel_rfl)) ?_
    exact norm_ (by simp only [putAll, Act.put, List.setIfInBounds_toArray, List.set_cons_zero, List.set_cons_succ]) (hCont (.slice Ao27 t352.length co27, v358, gb361) _ ⟨hHeld, (by (with_reducible repeat (first | apply Kd.R_alloc | apply Kd.R_drewN | apply Kd.R_drew)); exact Kd.R_mono HO354.out (fun _ hk => hk.2)), (by (with_reducible repeat (first | apply Kd.R_alloc | apply Kd.R_drewN | apply Kd.R_drew)); exact Kd.R_mono HO359.out (fun _ hk => hk.2)), (bV BK340), (bV BK341), (bV BK361), GW361.out, GE361.out, NB340_361.out, NB361_340.out, NB341_361.out, NB361_341.out, (lV3 GE340 GE341 GE361)⟩)
  rintro ⟨v353, v358, gb361⟩ w29 ⟨hS_, h0_, h1_, h2_, h3_, h4_, h5_, h6_, h7_, h8_, h9_, h10_, h11_⟩
  have HO354 : Aside0 (Kd.R k48 48 w29 w.heap.size (fun k_ => some k_ ≠ (v358 : Value).ownBlock) v353 t352) := ⟨h0_⟩
  have HO359 : Aside0 (Kd.R k48 48 w29 w.heap.size (fun k_ => some k_ ≠ (v353 : Value).ownBlock) v358 t357) := ⟨h1_⟩
  replace BK340 : Aside0 (w29.heap[gb340]? = some (.cells #[.int .i64 a0_0, .int .i64 a0_1, .int .i64 a0_2, .int .i64 a0_3, .int .i64 a0_4, .int .i64 a0_5, .int .i64 a0_6] 23 (0, 0))) := ⟨h2_⟩
  replace BK341 : Aside0 (w29.heap[gb341]? = some (.cells #[.int .i64 a1_0, .int .i64 a1_1, .slice A1_2 l1_2.length c1_2] 31 (0, 0))) := ⟨h3_⟩
  have BK361 : Aside0 (w29.heap[gb361]? = some (.cells #[.int .i64 0, .int .i64 0, .slice none 0 0] 35 (0, 0))) := ⟨h4_⟩
  have GW361 : Aside0 (w.heap.size ≤ gb361) := ⟨h5_⟩
  have GE361 : Aside0 (w.heap.size ≤ gb361) := ⟨h6_⟩
  have NB340_361 : Aside0 (gb340 ≠ gb361) := ⟨h7_⟩
  have NB361_340 : Aside0 (gb361 ≠ gb340) := ⟨h8_⟩
  have NB341_361 : Aside0 (gb341 ≠ gb361) := ⟨h9_⟩
  have NB361_341 : Aside0 (gb361 ≠ gb341) := ⟨h10_⟩
  replace HB : Aside0 (Below w.heap.size w w29) := ⟨h11_⟩
  clear h0_ h1_ h2_ h3_ h4_ h5_ h6_ h7_ h8_ h9_ h10_ h11_
  have hHeld : w29.cell? ⟨gb340, 0, none⟩ = some (.int .i64 a0_0) ∧ w29.cell? ⟨gb340, 1, none⟩ = some (.int .i64 a0_1) ∧ w29.cell? ⟨gb340, 2, none⟩ = some (.int .i64 a0_2) ∧ w29.cell? ⟨gb340, 3, none⟩ = some (.int .i64 a0_3) ∧ w29.cell? ⟨gb340, 4, none⟩ = some (.int .i64 a0_4) ∧ w29.cell? ⟨gb340, 5, none⟩ = some (.int .i64 a0_5) ∧ w29.cell? ⟨gb340, 6, none⟩ = some (.int .i64 a0_6) ∧ w29.cell? ⟨gb341, 0, none⟩ = some (.int .i64 a1_0) ∧ w29.cell? ⟨gb341, 1, none⟩ = some (.int .i64 a1_1) ∧ w29.cell? ⟨gb341, 2, none⟩ = some (.slice A1_2 l1_2.length c1_2) := hS_
  obtain ⟨Ao32, co32, eo32⟩ := Kd.R_slice HO359.out
  (first | subst eo32 | (injection eo32 with f1_ f2_ f3_; have f4_ := f1_.symm; have f5_ := f3_.symm; clear f1_ f2_ f3_; subst f4_; subst f5_))
  refine norm_ (a' := ?_) ?_ ?_
  rotate_left
  ·simp only [putAll, Act.put, List.setIfInBounds_toArray, List.set_cons_zero, List.set_cons_succ]
   rfl
  refine one_ (i := 10) (N := none) (bz 12 2047) rfl rfl (one_of HT_.out (by kernel_rfl)) (by decide) (fun K hK => ?_)
  have hs30 : w29.cell? ⟨gb361, 0, none⟩ = some (.int .i64 0) := (blk_cell BK361.out 0).trans rfl
  have hfs30 := blk_frozen BK361.out 0
  have hns30_0 := NB340_361.out
  have hns30_1 := NB341_361.out
  have hms30_0 := NB361_340.out
  have hms30_1 := NB361_341.out
  have hs31 : w29.cell? ⟨gb361, 1, none⟩ = some (.int .i64 0) := (blk_cell BK361.out 1).trans rfl
  have hfs31 := blk_frozen BK361.out 1
  have hns31_0 := NB340_361.out
  have hns31_1 := NB341_361.out
  have hms31_0 := NB361_340.out
  have hms31_1 := NB361_341.out
  have hs33 : w29.cell? ⟨gb361, 2, none⟩ = some (.slice none 0 0) := (blk_cell BK361.out 2).trans rfl
  have hfs33 := blk_frozen BK361.out 2
  have hns33_0 := NB340_361.out
  have hns33_1 := NB341_361.out
  have hms33_0 := NB361_340.out
  have hms33_1 := NB361_341.out
  refine skip_ (w1 := ?_) (by rfl) rfl ?_ ?_
  rotate_left
  ·go_simp
   rfl
  refine hK.out _ _ ⟨((cell_far (p := ⟨gb361, _, none⟩) NB340_361.out _).trans (((cell_far (p := ⟨gb361, _, none⟩) NB340_361.out _).trans (((cell_far (p := ⟨gb361, _, none⟩) NB340_361.out _).trans (hHeld.1)))))), ((cell_far (p := ⟨gb361, _, none⟩) NB340_361.out _).trans (((cell_far (p := ⟨gb361, _, none⟩) NB340_361.out _).trans (((cell_far (p := ⟨gb361, _, none⟩) NB340_361.out _).trans (hHeld.2.1)))))), ((cell_far (p := ⟨gb361, _, none⟩) NB340_361.out _).trans (((cell_far (p := ⟨gb361, _, none⟩) NB340_361.out _).trans (((cell_far (p := ⟨gb361, _, none⟩) NB340_361.out _).trans (hHeld.2.2.1)))))), ((cell_far (p := ⟨gb361, _, none⟩) NB340_361.out _).trans (((cell_far (p := ⟨gb361, _, none⟩) NB340_361.out _).trans (((cell_far (p := ⟨gb361, _, none⟩) NB340_361.out _).trans (hHeld.2.2.2.1)))))), ((cell_far (p := ⟨gb361, _, none⟩) NB340_361.out _).trans (((cell_far (p := ⟨gb361, _, none⟩) NB340_361.out _).trans (((cell_far (p := ⟨gb361, _, none⟩) NB340_361.out _).trans (hHeld.2.2.2.2.1)))))), ((cell_far (p := ⟨gb361, _, none⟩) NB340_361.out _).trans (((cell_far (p := ⟨gb361, _, none⟩) NB340_361.out _).trans (((cell_far (p := ⟨gb361, _, none⟩) NB340_361.out _).trans (hHeld.2.2.2.2.2.1)))))), ((cell_far (p := ⟨gb361, _, none⟩) NB340_361.out _).trans (((cell_far (p := ⟨gb361, _, none⟩) NB340_361.out _).trans (((cell_far (p := ⟨gb361, _, none⟩) NB340_361.out _).trans (hHeld.2.2.2.2.2.2.1)))))), ((cell_far (p := ⟨gb361, _, none⟩) NB341_361.out _).trans (((cell_far (p := ⟨gb361, _, none⟩) NB341_361.out _).trans (((cell_far (p := ⟨gb361, _, none⟩) NB341_361.out _).trans (hHeld.2.2.2.2.2.2.2.1)))))), ((cell_far (p := ⟨gb361, _, none⟩) NB341_361.out _).trans (((cell_far (p := ⟨gb361, _, none⟩) NB341_361.out _).trans (((cell_far (p := ⟨gb361, _, none⟩) NB341_361.out _).trans (hHeld.2.2.2.2.2.2.2.2.1)))))), ((cell_far (p := ⟨gb361, _, none⟩) NB341_361.out _).trans (((cell_far (p := ⟨gb361, _, none⟩) NB341_361.out _).trans (((cell_far (p := ⟨gb361, _, none⟩) NB341_361.out _).trans (hHeld.2.2.2.2.2.2.2.2.2))))))⟩ (fun hHeld => ?_)
  clear hK K
  refine pureA 11 9 (bz 12 4095) rfl rfl (any_of HT_.out (by kernel_rfl)) ?_
  refine done_ (done_of HT_.out (by kernel_rfl)) ?_
  have hnb34 := NB341_361.out
  have hnc34 := NB361_341.out
  have hcz35_0 := cz BK341 0 (.int .i64 a1_0)
  have hcz35_1 := cz BK341 1 (.int .i64 a1_1)
  have hcz35_2 := cz BK341 2 (.slice A1_2 l1_2.length c1_2)
  have hfz35_0 := fz BK341 0
  have hfz35_1 := fz BK341 1
  have hfz35_2 := fz BK341 2
  try go_wp2_with (first | ((with_reducible refine gate_callee (f := 11) rfl ?_); refine goesL_ (some 33) rfl rfl Try.func11 (by kernel_rfl) rfl #[.agg #[.int .i64 a1_0, .int .i64 a1_1, .slice A1_2 l1_2.length c1_2]] rfl aE ?_; (with_reducible refine (laws_toCloud.calls k a1_0 a1_1 _ _ l1_2 t362 t363 t364 _ ?side1 ?side2 A14.out).mono ?_); (case side1 => exact Kd.C_below HR1_2.out (lV3 GE340 GE341 GE361)); (case side2 => exact HC1_2.out); rintro e w36 ⟨v365, rfl, ho0, hb⟩; refine ⟨_, rfl, ?_⟩; have HO366 := Aside0.mk (Kd.R_lower (Kd.R_new' (Kd.R_new' ho0 (Kd.R_lt (rU (Kd.R_mono (Kd.R_far (p := ⟨gb361, 2, none⟩) (Kd.R_far (p := ⟨gb361, 1, none⟩) (Kd.R_far (p := ⟨gb361, 0, none⟩) (Kd.R_types HO354.out BK361.out (by decide)) (fun _ hk => hk.2) (.int .i64 t355)) (fun _ hk => hk.2) (.int .i64 t356)) (fun _ hk => hk.2) (.slice Ao32 t357.length co32)) (fun _ h_ => h_.1))))) (Kd.R_lt (rU (Kd.R_mono (Kd.R_far (p := ⟨gb361, 2, none⟩) (Kd.R_far (p := ⟨gb361, 1, none⟩) (Kd.R_far (p := ⟨gb361, 0, none⟩) (Kd.R_types HO359.out BK361.out (by decide)) (fun _ hk => hk.2) (.int .i64 t355)) (fun _ hk => hk.2) (.int .i64 t356)) (fun _ hk => hk.2) (.slice Ao32 t357.length co32)) (fun _ h_ => h_.1))))) (below_size (lV3 GE340 GE341 GE361))); replace HO354 := Aside0.mk (Kd.R_elder' (rU (Kd.R_mono (Kd.R_far (p := ⟨gb361, 2, none⟩) (Kd.R_far (p := ⟨gb361, 1, none⟩) (Kd.R_far (p := ⟨gb361, 0, none⟩) (Kd.R_types HO354.out BK361.out (by decide)) (fun _ hk => hk.2) (.int .i64 t355)) (fun _ hk => hk.2) (.int .i64 t356)) (fun _ hk => hk.2) (.slice Ao32 t357.length co32)) (fun _ h_ => h_.1))) (Kd.R_base ho0) hb); replace HO359 := Aside0.mk (Kd.R_elder' (rU (Kd.R_mono (Kd.R_far (p := ⟨gb361, 2, none⟩) (Kd.R_far (p := ⟨gb361, 1, none⟩) (Kd.R_far (p := ⟨gb361, 0, none⟩) (Kd.R_types HO359.out BK361.out (by decide)) (fun _ hk => hk.2) (.int .i64 t355)) (fun _ hk => hk.2) (.int .i64 t356)) (fun _ hk => hk.2) (.slice Ao32 t357.length co32)) (fun _ h_ => h_.1))) (Kd.R_base ho0) hb); replace BK340 := bB (bG NB340_361 BK340) hb; replace BK341 := bB (bG NB341_361 BK341) hb; replace BK361 := Aside0.mk (blk_below (g := gb361) (o := .cells #[.int .i64 t355, .int .i64 t356, .slice Ao32 t357.length co32] 35 (0, 0)) (by refine bU ?_; refine blk_put (cs := #[.int .i64 t355, .int .i64 t356, .slice none 0 0]) ?_ 2 _ rfl; refine bU ?_; refine blk_put (cs := #[.int .i64 t355, .int .i64 0, .slice none 0 0]) ?_ 1 _ rfl; refine bU ?_; refine blk_put (cs := #[.int .i64 0, .int .i64 0, .slice none 0 0]) ?_ 0 _ rfl; refine bU ?_; exact BK361.out) hb); replace HB := bH (lV3 GE340 GE341 GE361) hb; (try clear hb); (try clear ho0)) | ((with_reducible refine gate_dst (N := 10) rfl ?_); refine box_event rfl (N := 10) rfl (cs := #[.int .i64 0, .int .i64 0, .slice none 0 0]) (t := 35) sE ?_; intro gb367 hg w37 hbox hb; replace HO354 := Aside0.mk (Kd.R_below (rU HO354.out) hb); replace HO359 := Aside0.mk (Kd.R_below (rU HO359.out) hb); replace HO366 := Aside0.mk (Kd.R_below (rU HO366.out) hb); have BK367 := Aside0.mk hbox; have GW367 := gS w hg (lV3 GE340 GE341 GE361); have GE367 := GW367; replace HB := bH (lV3 GE340 GE341 GE361) hb; have NB340_367 := nL hg (bV BK340); have NB367_340 := nG hg (bV BK340); replace BK340 := bB (bV BK340) hb; have NB341_367 := nL hg (bV BK341); have NB367_341 := nG hg (bV BK341); replace BK341 := bB (bV BK341) hb; have NB361_367 := nL hg (bV BK361); have NB367_361 := nG hg (bV BK361); replace BK361 := bB (bV BK361) hb; clear hb hbox hg; have hnb38 := NB367_340.out; have hnc38 := NB340_367.out; have hnb39 := NB367_341.out; have hnc39 := NB341_367.out; have hnb40 := NB367_361.out; have hnc40 := NB361_367.out; have hcz41_0 := cz BK367 0 (.int .i64 0); have hcz41_1 := cz BK367 1 (.int .i64 0); have hcz41_2 := cz BK367 2 (.slice none 0 0); have hfz41_0 := fz BK367 0; have hfz41_1 := fz BK367 1; have hfz41_2 := fz BK367 2; obtain ⟨Ao42, co42, eo42⟩ := Kd.R_slice HO366.out; subst eo42) | ((with_reducible refine gate_store (t := 35) (p := 10) rfl ?_); refine store_event (t := 35) (p := 10) (v := ?vo_w43) (w1 := (((w37.setCell ⟨gb367, 0, none⟩ (.int .i64 t362)).setCell ⟨gb367, 1, none⟩ (.int .i64 t363)).setCell ⟨gb367, 2, none⟩ (.slice Ao42 t364.length co42))) ?hg ?ho ?hn ?hr ?_; (case ho => rfl); (case hg => rfl); (case hn => rfl); (case hr => first | (go_simp; done) | (go_simp; rfl) | (have hq0_ := (blk_cell BK367.out 0).trans (show _ = some _ from rfl); have hf0_ := blk_frozen BK367.out 0; have hq1_ := (blk_cell BK367.out 1).trans (show _ = some _ from rfl); have hf1_ := blk_frozen BK367.out 1; have hq2_ := (blk_cell BK367.out 2).trans (show _ = some _ from rfl); have hf2_ := blk_frozen BK367.out 2; first | (go_simp; done) | (go_simp; rfl))); intro w43 hw; replace HO354 : Aside0 (Kd.R k48 48 w43 w.heap.size (fun k_ => some k_ ≠ (.slice Ao32 t357.length co32 : Value).ownBlock ∧ some k_ ≠ (.slice Ao42 t364.length co42 : Value).ownBlock) v353 t352) := ⟨(by rw [hw]; exact (by (with_reducible repeat (first | apply Kd.R_alloc | apply Kd.R_drewN | apply Kd.R_drew)); exact Kd.R_mono (Kd.R_far (p := ⟨gb367, 2, none⟩) (Kd.R_far (p := ⟨gb367, 1, none⟩) (Kd.R_far (p := ⟨gb367, 0, none⟩) (Kd.R_types HO354.out BK367.out (by decide)) (fun _ hk => hk.2) (.int .i64 t362)) (fun _ hk => hk.2) (.int .i64 t363)) (fun _ hk => hk.2) (.slice Ao42 t364.length co42)) (fun _ hk => ⟨hk.1.1, hk.1.2⟩)))⟩; replace HO359 : Aside0 (Kd.R k48 48 w43 w.heap.size (fun k_ => some k_ ≠ (v353 : Value).ownBlock ∧ some k_ ≠ (.slice Ao42 t364.length co42 : Value).ownBlock) (.slice Ao32 t357.length co32) t357) := ⟨(by rw [hw]; exact (by (with_reducible repeat (first | apply Kd.R_alloc | apply Kd.R_drewN | apply Kd.R_drew)); exact Kd.R_mono (Kd.R_far (p := ⟨gb367, 2, none⟩) (Kd.R_far (p := ⟨gb367, 1, none⟩) (Kd.R_far (p := ⟨gb367, 0, none⟩) (Kd.R_types HO359.out BK367.out (by decide)) (fun _ hk => hk.2) (.int .i64 t362)) (fun _ hk => hk.2) (.int .i64 t363)) (fun _ hk => hk.2) (.slice Ao42 t364.length co42)) (fun _ hk => ⟨hk.1.1, hk.1.2⟩)))⟩; replace HO366 : Aside0 (Kd.R k48 48 w43 w.heap.size (fun k_ => some k_ ≠ (v353 : Value).ownBlock ∧ some k_ ≠ (.slice Ao32 t357.length co32 : Value).ownBlock) (.slice Ao42 t364.length co42) t364) := ⟨(by rw [hw]; exact (by (with_reducible repeat (first | apply Kd.R_alloc | apply Kd.R_drewN | apply Kd.R_drew)); exact Kd.R_mono (Kd.R_far (p := ⟨gb367, 2, none⟩) (Kd.R_far (p := ⟨gb367, 1, none⟩) (Kd.R_far (p := ⟨gb367, 0, none⟩) (Kd.R_types HO366.out BK367.out (by decide)) (fun _ hk => hk.2) (.int .i64 t362)) (fun _ hk => hk.2) (.int .i64 t363)) (fun _ hk => hk.2) (.slice Ao42 t364.length co42)) (fun _ hk => ⟨hk.1.1.2, hk.1.2⟩)))⟩; replace BK340 : Aside0 (w43.heap[gb340]? = some (.cells #[.int .i64 a0_0, .int .i64 a0_1, .int .i64 a0_2, .int .i64 a0_3, .int .i64 a0_4, .int .i64 a0_5, .int .i64 a0_6] 23 (0, 0))) := ⟨(by rw [hw]; exact (bG NB340_367 BK340))⟩; replace BK341 : Aside0 (w43.heap[gb341]? = some (.cells #[.int .i64 a1_0, .int .i64 a1_1, .slice A1_2 l1_2.length c1_2] 31 (0, 0))) := ⟨(by rw [hw]; exact (bG NB341_367 BK341))⟩; replace BK361 : Aside0 (w43.heap[gb361]? = some (.cells #[.int .i64 t355, .int .i64 t356, .slice Ao32 t357.length co32] 35 (0, 0))) := ⟨(by rw [hw]; exact (bG NB361_367 BK361))⟩; replace BK367 : Aside0 (w43.heap[gb367]? = some (.cells #[.int .i64 t362, .int .i64 t363, .slice Ao42 t364.length co42] 35 (0, 0))) := ⟨(by rw [hw]; exact (by refine bU ?_; refine blk_put (cs := #[.int .i64 t362, .int .i64 t363, .slice none 0 0]) ?_ 2 _ rfl; refine bU ?_; refine blk_put (cs := #[.int .i64 t362, .int .i64 0, .slice none 0 0]) ?_ 1 _ rfl; refine bU ?_; refine blk_put (cs := #[.int .i64 0, .int .i64 0, .slice none 0 0]) ?_ 0 _ rfl; refine bU ?_; exact BK367.out))⟩; replace HB : Aside0 (Below w.heap.size w w43) := ⟨(by rw [hw]; exact (lV4 GE340 GE341 GE361 GE367))⟩; clear hw))
  replace HO354 := Aside0.mk (Kd.R_drew HO354.out)
  replace HO359 := Aside0.mk (Kd.R_drew HO359.out)
  replace HO366 := Aside0.mk (Kd.R_drew HO366.out)
  replace BK340 := Aside0.mk (blk_drew BK340.out)
  replace BK341 := Aside0.mk (blk_drew BK341.out)
  replace BK361 := Aside0.mk (blk_drew BK361.out)
  replace BK367 := Aside0.mk (blk_drew BK367.out)
  replace HB := Aside0.mk (below_drew1 HB.out)
  refine start_ (n := 11) (S := fun w' => w'.cell? ⟨gb340, 0, none⟩ = some (.int .i64 a0_0) ∧ w'.cell? ⟨gb340, 1, none⟩ = some (.int .i64 a0_1) ∧ w'.cell? ⟨gb340, 2, none⟩ = some (.int .i64 a0_2) ∧ w'.cell? ⟨gb340, 3, none⟩ = some (.int .i64 a0_3) ∧ w'.cell? ⟨gb340, 4, none⟩ = some (.int .i64 a0_4) ∧ w'.cell? ⟨gb340, 5, none⟩ = some (.int .i64 a0_5) ∧ w'.cell? ⟨gb340, 6, none⟩ = some (.int .i64 a0_6) ∧ w'.cell? ⟨gb367, 0, none⟩ = some (.int .i64 t362) ∧ w'.cell? ⟨gb367, 1, none⟩ = some (.int .i64 t363) ∧ w'.cell? ⟨gb367, 2, none⟩ = some (.slice Ao42 t364.length co42)) (ds := []) #[false, false, false, false, false, false, false, false, false, false, false] (by kernel_rfl) rfl rfl ⟨cz BK340 0 _, cz BK340 1 _, cz BK340 2 _, cz BK340 3 _, cz BK340 4 _, cz BK340 5 _, cz BK340 6 _, cz BK367 0 _, cz BK367 1 _, cz BK367 2 _⟩ (fun hHeld => ?_); refine with_tabW laws_FnExactRunCloud.tab7 laws_FnExactRunCloud.bits7 (fun HT_ HW_ => ?_)
  generalize w43.drew = w44 at HO354 HO359 HO366 BK340 BK341 BK361 BK367 HB hHeld ⊢
  refine pureA 3 38 (bz 11 8) rfl rfl (any_of HT_.out (by kernel_rfl)) ?_
  refine takeA 0 35 (bz 11 9) rfl rfl (take_ofW HT_.out HW_.out (by kernel_rfl)) hHeld (by rintro w' ⟨s0, s1, s2, s3, s4, s5, s6, s7, s8, s9⟩; go_simp; with_reducible rfl) ?_
  refine takeA 2 37 (bz 11 13) rfl rfl (take_ofW HT_.out HW_.out (by kernel_rfl)) hHeld (by rintro w' ⟨s0, s1, s2, s3, s4, s5, s6, s7, s8, s9⟩; go_simp; with_reducible rfl) ?_
  refine join_ (σ := Value × Nat) 2 #[true, true, true, true, true, true, true, true, true, false, false] (fun s_ => [(36, .agg #[.int .i64 t368, .int .i64 t369, .int .i64 t370, .int .i64 t371, .int .i64 t372, .int .i64 t373, .int .i64 t374]), (39, .tuple #[.agg #[.int .i64 t375, .int .i64 t376, s_.1], .bool t380]), (11, .pointer (some ⟨s_.2, 0, none⟩)), (34, .tuple #[.agg #[.int .i64 t375, .int .i64 t376, s_.1], .bool t380]), (40, .agg #[.int .i64 t375, .int .i64 t376, s_.1]), (41, .bool t380)]) (fun s_ w' => (w'.cell? ⟨gb340, 0, none⟩ = some (.int .i64 a0_0) ∧ w'.cell? ⟨gb340, 1, none⟩ = some (.int .i64 a0_1) ∧ w'.cell? ⟨gb340, 2, none⟩ = some (.int .i64 a0_2) ∧ w'.cell? ⟨gb340, 3, none⟩ = some (.int .i64 a0_3) ∧ w'.cell? ⟨gb340, 4, none⟩ = some (.int .i64 a0_4) ∧ w'.cell? ⟨gb340, 5, none⟩ = some (.int .i64 a0_5) ∧ w'.cell? ⟨gb340, 6, none⟩ = some (.int .i64 a0_6) ∧ w'.cell? ⟨gb367, 0, none⟩ = some (.int .i64 t362) ∧ w'.cell? ⟨gb367, 1, none⟩ = some (.int .i64 t363) ∧ w'.cell? ⟨gb367, 2, none⟩ = some (.slice Ao42 t364.length co42)) ∧ (Kd.R k48 48 w' w.heap.size (fun k_ => some k_ ≠ (.slice Ao32 t357.length co32 : Value).ownBlock ∧ some k_ ≠ (.slice Ao42 t364.length co42 : Value).ownBlock ∧ some k_ ≠ (s_.1 : Value).ownBlock) v353 t352) ∧ (Kd.R k48 48 w' w.heap.size (fun k_ => some k_ ≠ (v353 : Value).ownBlock ∧ some k_ ≠ (.slice Ao42 t364.length co42 : Value).ownBlock ∧ some k_ ≠ (s_.1 : Value).ownBlock) (.slice Ao32 t357.length co32) t357) ∧ (Kd.R k48 48 w' w.heap.size (fun k_ => some k_ ≠ (v353 : Value).ownBlock ∧ some k_ ≠ (.slice Ao32 t357.length co32 : Value).ownBlock ∧ some k_ ≠ (s_.1 : Value).ownBlock) (.slice Ao42 t364.length co42) t364) ∧ (Kd.R k48 48 w' w.heap.size (fun k_ => some k_ ≠ (v353 : Value).ownBlock ∧ some k_ ≠ (.slice Ao32 t357.length co32 : Value).ownBlock ∧ some k_ ≠ (.slice Ao42 t364.length co42 : Value).ownBlock) s_.1 t377) ∧ (w'.heap[gb340]? = some (.cells #[.int .i64 a0_0, .int .i64 a0_1, .int .i64 a0_2, .int .i64 a0_3, .int .i64 a0_4, .int .i64 a0_5, .int .i64 a0_6] 23 (0, 0))) ∧ (w'.heap[gb341]? = some (.cells #[.int .i64 a1_0, .int .i64 a1_1, .slice A1_2 l1_2.length c1_2] 31 (0, 0))) ∧ (w'.heap[gb361]? = some (.cells #[.int .i64 t355, .int .i64 t356, .slice Ao32 t357.length co32] 35 (0, 0))) ∧ (w'.heap[gb367]? = some (.cells #[.int .i64 t362, .int .i64 t363, .slice Ao42 t364.length co42] 35 (0, 0))) ∧ (w'.heap[s_.2]? = some (.cells #[.int .i64 0, .int .i64 0, .slice none 0 0] 35 (0, 0))) ∧ (w.heap.size ≤ s_.2) ∧ (w.heap.size ≤ s_.2) ∧ (gb340 ≠ s_.2) ∧ (s_.2 ≠ gb340) ∧ (gb341 ≠ s_.2) ∧ (s_.2 ≠ gb341) ∧ (gb361 ≠ s_.2) ∧ (s_.2 ≠ gb361) ∧ (gb367 ≠ s_.2) ∧ (s_.2 ≠ gb367) ∧ (Below w.heap.size w w')) ?_ ?_
  rotate_left
  ·intro hCont
   refine two_ (i := 1) (j := 8) (Ni := some 36) (Nj := some 11) #[true, true, true, true, false, false, false, false, false, false, false] #[true, false, true, true, false, false, false, false, true, false, false] rfl rfl rfl rfl (two_of HT_.out (by kernel_rfl)) (by decide) (by decide) (fun K hK => ?_) (fun K hK => ?_)
   ·skip
    refine goes_ Try.func7 (by kernel_rfl) rfl #[.agg #[.int .i64 a0_0, .int .i64 a0_1, .int .i64 a0_2, .int .i64 a0_3, .int .i64 a0_4, .int .i64 a0_5, .int .i64 a0_6]] (by rfl) rfl rfl aE ?_
    with_reducible refine (laws_toEmitter.calls a0_0 a0_1 a0_2 a0_3 a0_4 a0_5 a0_6 t368 t369 t370 t371 t372 t373 t374 _ A15.out).mono ?_
    rintro e w45 ⟨rfl, hb⟩
    refine ⟨_, rfl, ?_⟩
    replace HO354 := Aside0.mk (Kd.R_below (rU HO354.out) hb)
    replace HO359 := Aside0.mk (Kd.R_below (rU HO359.out) hb)
    replace HO366 := Aside0.mk (Kd.R_below (rU HO366.out) hb)
    replace BK340 := bB (bV BK340) hb
    replace BK341 := bB (bV BK341) hb
    replace BK361 := bB (bV BK361) hb
    replace BK367 := bB (bV BK367) hb
    replace HB := bH (lV4 GE340 GE341 GE361 GE367) hb
    (try clear hb)
    (try clear hb2)
    (try clear hk)
    (try clear hi)
    refine hK.out _ _ ⟨cz BK340 0 _, cz BK340 1 _, cz BK340 2 _, cz BK340 3 _, cz BK340 4 _, cz BK340 5 _, cz BK340 6 _, cz BK367 0 _, cz BK367 1 _, cz BK367 2 _⟩ (fun hHeld => ?_)
    clear hK K
    refine norm_ (a' := ?_) ?_ ?_
    rotate_left
    ·show Act.put _ (some 36) _ = _
     simp only [Act.put, List.setIfInBounds_toArray, List.set_cons_zero, List.set_cons_succ, i64_w, i32_w]
     rfl
    refine two_ (i := 4) (j := 8) (Ni := some 39) (Nj := some 11) #[true, true, true, true, true, false, false, false, false, false, false] #[true, true, true, true, false, false, false, false, true, false, false] rfl rfl rfl rfl (two_of HT_.out (by kernel_rfl)) (by decide) (by decide) (fun K hK => ?_) (fun K hK => ?_)
    ·skip
     refine goes_ Try.func17 (by kernel_rfl) rfl #[.agg #[.int .i64 t368, .int .i64 t369, .int .i64 t370, .int .i64 t371, .int .i64 t372, .int .i64 t373, .int .i64 t374], .agg #[.int .i64 t362, .int .i64 t363, .slice Ao42 t364.length co42], .int .i64 a2] (by rfl) rfl rfl aE ?_
     with_reducible refine (impl_RunCloud.calls k t368 t369 t370 t371 t372 t373 t374 t362 t363 _ _ t364 a2 t375 t376 t377 t380 _ ?side1 ?side2 A16.out).mono ?_
     (case side1 => exact cU (Kd.R_reads' HO366.out).2.2)
     (case side2 => exact (Kd.R_reads' HO366.out).2.1)
     rintro e w46 ⟨v378, rfl, ho0, hb⟩
     refine ⟨_, rfl, ?_⟩
     have HO379 := Aside0.mk (Kd.R_lower (Kd.R_new' (Kd.R_new' (Kd.R_new' ho0 (Kd.R_lt (rU HO354.out))) (Kd.R_lt (rU HO359.out))) (Kd.R_lt (rU HO366.out))) (below_size (lV4 GE340 GE341 GE361 GE367)))
     replace HO354 := Aside0.mk (Kd.R_elder' (rU HO354.out) (Kd.R_base ho0) hb)
     replace HO359 := Aside0.mk (Kd.R_elder' (rU HO359.out) (Kd.R_base ho0) hb)
     replace HO366 := Aside0.mk (Kd.R_elder' (rU HO366.out) (Kd.R_base ho0) hb)
     replace BK340 := bB (bV BK340) hb
     replace BK341 := bB (bV BK341) hb
     replace BK361 := bB (bV BK361) hb
     replace BK367 := bB (bV BK367) hb
     replace HB := bH (lV4 GE340 GE341 GE361 GE367) hb
     (try clear hb)
     (try clear hb2)
     (try clear hk)
     (try clear hi)
     (try clear ho0)
     refine hK.out _ _ ⟨cz BK340 0 _, cz BK340 1 _, cz BK340 2 _, cz BK340 3 _, cz BK340 4 _, cz BK340 5 _, cz BK340 6 _, cz BK367 0 _, cz BK367 1 _, cz BK367 2 _⟩ (fun hHeld => ?_)
     clear hK K
     refine norm_ (a' := ?_) ?_ ?_
     rotate_left
     ·show Act.put _ (some 39) _ = _
      simp only [Act.put, List.setIfInBounds_toArray, List.set_cons_zero, List.set_cons_succ, i64_w, i32_w]
      rfl
     refine pureA 5 34 (bz 11 63) rfl rfl (any_of HT_.out (by kernel_rfl)) ?_
     refine pureA 6 40 (bz 11 127) rfl rfl (any_of HT_.out (by kernel_rfl)) ?_
     refine pureA 7 41 (bz 11 255) rfl rfl (any_of HT_.out (by kernel_rfl)) ?_
     refine one_ (i := 8) (N := some 11) (bz 11 511) rfl rfl (one_of HT_.out (by kernel_rfl)) (by decide) (fun K hK => ?_)
     refine box_step ?hg (N := 11) ?hd (cs := #[.int .i64 0, .int .i64 0, .slice none 0 0]) (t := 35) ?hr ?_; (case hd => rfl); (case hg => rfl); (case hr => exact sE)
     intro gb381 hg w47 hbox hb
     replace HO354 := Aside0.mk (Kd.R_below (rU HO354.out) hb)
     replace HO359 := Aside0.mk (Kd.R_below (rU HO359.out) hb)
     replace HO366 := Aside0.mk (Kd.R_below (rU HO366.out) hb)
     replace HO379 := Aside0.mk (Kd.R_below (rU HO379.out) hb)
     have BK381 := Aside0.mk hbox
     have GW381 := gS w hg (lV4 GE340 GE341 GE361 GE367)
     have GE381 := gS w hg (lV4 GE340 GE341 GE361 GE367)
     replace HB := bH (lV4 GE340 GE341 GE361 GE367) hb
     have NB340_381 := nL hg (bV BK340)
     have NB381_340 := nG hg (bV BK340)
     replace BK340 := bB (bV BK340) hb
     have NB341_381 := nL hg (bV BK341)
     have NB381_341 := nG hg (bV BK341)
     replace BK341 := bB (bV BK341) hb
     have NB361_381 := nL hg (bV BK361)
     have NB381_361 := nG hg (bV BK361)
     replace BK361 := bB (bV BK361) hb
     have NB367_381 := nL hg (bV BK367)
     have NB381_367 := nG hg (bV BK367)
     replace BK367 := bB (bV BK367) hb
     clear hb hbox hg
     refine hK.out _ _ ⟨cz BK340 0 _, cz BK340 1 _, cz BK340 2 _, cz BK340 3 _, cz BK340 4 _, cz BK340 5 _, cz BK340 6 _, cz BK367 0 _, cz BK367 1 _, cz BK367 2 _⟩ (fun hHeld => ?_)
     clear hK K
     refine norm_ (a' := ?_) ?_ ?_
     rotate_left
     ·show Act.put _ (some 11) _ = _
      simp only [Act.put, List.setIfInBounds_toArray, List.set_cons_zero, List.set_cons_succ, i64_w, i32_w]
      rfl
     exact norm_ (by simp only [putAll, Act.put, List.setIfInBounds_toArray, List.set_cons_zero, List.set_cons_succ]) (hCont (v378, gb381) _ ⟨hHeld, (by (with_reducible repeat (first | apply Kd.R_alloc | apply Kd.R_drewN | apply Kd.R_drew)); exact Kd.R_mono HO354.out (fun _ hk => ⟨hk.1.1, ⟨hk.1.2, hk.2⟩⟩)), (by (with_reducible repeat (first | apply Kd.R_alloc | apply Kd.R_drewN | apply Kd.R_drew)); exact Kd.R_mono HO359.out (fun _ hk => ⟨hk.1.1, ⟨hk.1.2, hk.2⟩⟩)), (by (with_reducible repeat (first | apply Kd.R_alloc | apply Kd.R_drewN | apply Kd.R_drew)); exact Kd.R_mono HO366.out (fun _ hk => ⟨hk.1.1, ⟨hk.1.2, hk.2⟩⟩)), (by (with_reducible repeat (first | apply Kd.R_alloc | apply Kd.R_drewN | apply Kd.R_drew)); exact Kd.R_mono HO379.out (fun _ hk => ⟨hk.1.1.2, ⟨hk.1.2, hk.2⟩⟩)), (bV BK340), (bV BK341), (bV BK361), (bV BK367), (bV BK381), GW381.out, GE381.out, NB340_381.out, NB381_340.out, NB341_381.out, NB381_341.out, NB361_381.out, NB381_361.out, NB367_381.out, NB381_367.out, (lV5 GE340 GE341 GE361 GE367 GE381)⟩)
    ·skip
     refine box_step ?hg (N := 11) ?hd (cs := #[.int .i64 0, .int .i64 0, .slice none 0 0]) (t := 35) ?hr ?_; (case hd => rfl); (case hg => rfl); (case hr => exact sE)
     intro gb381 hg w46 hbox hb
     replace HO354 := Aside0.mk (Kd.R_below (rU HO354.out) hb)
     replace HO359 := Aside0.mk (Kd.R_below (rU HO359.out) hb)
     replace HO366 := Aside0.mk (Kd.R_below (rU HO366.out) hb)
     have BK381 := Aside0.mk hbox
     have GW381 := gS w hg (lV4 GE340 GE341 GE361 GE367)
     have GE381 := gS w hg (lV4 GE340 GE341 GE361 GE367)
     replace HB := bH (lV4 GE340 GE341 GE361 GE367) hb
     have NB340_381 := nL hg (bV BK340)
     have NB381_340 := nG hg (bV BK340)
     replace BK340 := bB (bV BK340) hb
     have NB341_381 := nL hg (bV BK341)
     have NB381_341 := nG hg (bV BK341)
     replace BK341 := bB (bV BK341) hb
     have NB361_381 := nL hg (bV BK361)
     have NB381_361 := nG hg (bV BK361)
     replace BK361 := bB (bV BK361) hb
     have NB367_381 := nL hg (bV BK367)
     have NB381_367 := nG hg (bV BK367)
     replace BK367 := bB (bV BK367) hb
     clear hb hbox hg
     refine hK.out _ _ ⟨cz BK340 0 _, cz BK340 1 _, cz BK340 2 _, cz BK340 3 _, cz BK340 4 _, cz BK340 5 _, cz BK340 6 _, cz BK367 0 _, cz BK367 1 _, cz BK367 2 _⟩ (fun hHeld => ?_)
     clear hK K
     refine norm_ (a' := ?_) ?_ ?_
     rotate_left
     ·show Act.put _ (some 11) _ = _
      simp only [Act.put, List.setIfInBounds_toArray, List.set_cons_zero, List.set_cons_succ, i64_w, i32_w]
      rfl
     refine one_ (i := 4) (N := some 39) (bz 11 287) rfl rfl (one_of HT_.out (by kernel_rfl)) (by decide) (fun K hK => ?_)
     refine goes_ Try.func17 (by kernel_rfl) rfl #[.agg #[.int .i64 t368, .int .i64 t369, .int .i64 t370, .int .i64 t371, .int .i64 t372, .int .i64 t373, .int .i64 t374], .agg #[.int .i64 t362, .int .i64 t363, .slice Ao42 t364.length co42], .int .i64 a2] (by rfl) rfl rfl aE ?_
     with_reducible refine (impl_RunCloud.calls k t368 t369 t370 t371 t372 t373 t374 t362 t363 _ _ t364 a2 t375 t376 t377 t380 _ ?side1 ?side2 A16.out).mono ?_
     (case side1 => exact cU (Kd.R_reads' HO366.out).2.2)
     (case side2 => exact (Kd.R_reads' HO366.out).2.1)
     rintro e w47 ⟨v378, rfl, ho0, hb⟩
     refine ⟨_, rfl, ?_⟩
     have HO379 := Aside0.mk (Kd.R_lower (Kd.R_new' (Kd.R_new' (Kd.R_new' ho0 (Kd.R_lt (rU HO354.out))) (Kd.R_lt (rU HO359.out))) (Kd.R_lt (rU HO366.out))) (below_size (lV5 GE340 GE341 GE361 GE367 GE381)))
     replace HO354 := Aside0.mk (Kd.R_elder' (rU HO354.out) (Kd.R_base ho0) hb)
     replace HO359 := Aside0.mk (Kd.R_elder' (rU HO359.out) (Kd.R_base ho0) hb)
     replace HO366 := Aside0.mk (Kd.R_elder' (rU HO366.out) (Kd.R_base ho0) hb)
     replace BK340 := bB (bV BK340) hb
     replace BK341 := bB (bV BK341) hb
     replace BK361 := bB (bV BK361) hb
     replace BK367 := bB (bV BK367) hb
     replace BK381 := bB (bV BK381) hb
     replace HB := bH (lV5 GE340 GE341 GE361 GE367 GE381) hb
     (try clear hb)
     (try clear hb2)
     (try clear hk)
     (try clear hi)
     (try clear ho0)
     refine hK.out _ _ ⟨cz BK340 0 _, cz BK340 1 _, cz BK340 2 _, cz BK340 3 _, cz BK340 4 _, cz BK340 5 _, cz BK340 6 _, cz BK367 0 _, cz BK367 1 _, cz BK367 2 _⟩ (fun hHeld => ?_)
     clear hK K
     refine norm_ (a' := ?_) ?_ ?_
     rotate_left
     ·show Act.put _ (some 39) _ = _
      simp only [Act.put, List.setIfInBounds_toArray, List.set_cons_zero, List.set_cons_succ, i64_w, i32_w]
      rfl
     refine pureA 5 34 (bz 11 319) rfl rfl (any_of HT_.out (by kernel_rfl)) ?_
     refine pureA 6 40 (bz 11 383) rfl rfl (any_of HT_.out (by kernel_rfl)) ?_
     refine pureA 7 41 (bz 11 511) rfl rfl (any_of HT_.out (by kernel_rfl)) ?_
     exact norm_ (by simp only [putAll, Act.put, List.setIfInBounds_toArray, List.set_cons_zero, List.set_cons_succ]) (hCont (v378, gb381) _ ⟨hHeld, (by (with_reducible repeat (first | apply Kd.R_alloc | apply Kd.R_drewN | apply Kd.R_drew)); exact Kd.R_mono HO354.out (fun _ hk => ⟨hk.1.1, ⟨hk.1.2, hk.2⟩⟩)), (by (with_reducible repeat (first | apply Kd.R_alloc | apply Kd.R_drewN | apply Kd.R_drew)); exact Kd.R_mono HO359.out (fun _ hk => ⟨hk.1.1, ⟨hk.1.2, hk.2⟩⟩)), (by (with_reducible repeat (first | apply Kd.R_alloc | apply Kd.R_drewN | apply Kd.R_drew)); exact Kd.R_mono HO366.out (fun _ hk => ⟨hk.1.1, ⟨hk.1.2, hk.2⟩⟩)), (by (with_reducible repeat (first | apply Kd.R_alloc | apply Kd.R_drewN | apply Kd.R_drew)); exact Kd.R_mono HO379.out (fun _ hk => ⟨hk.1.1.2, ⟨hk.1.2, hk.2⟩⟩)), (bV BK340), (bV BK341), (bV BK361), (bV BK367), (bV BK381), GW381.out, GE381.out, NB340_381.out, NB381_340.out, NB341_381.out, NB381_341.out, NB361_381.out, NB381_361.out, NB367_381.out, NB381_367.out, (lV5 GE340 GE341 GE361 GE367 GE381)⟩)
   ·skip
    refine box_step ?hg (N := 11) ?hd (cs := #[.int .i64 0, .int .i64 0, .slice none 0 0]) (t := 35) ?hr ?_; (case hd => rfl); (case hg => rfl); (case hr => exact sE)
    intro gb381 hg w45 hbox hb
    replace HO354 := Aside0.mk (Kd.R_below (rU HO354.out) hb)
    replace HO359 := Aside0.mk (Kd.R_below (rU HO359.out) hb)
    replace HO366 := Aside0.mk (Kd.R_below (rU HO366.out) hb)
    have BK381 := Aside0.mk hbox
    have GW381 := gS w hg (lV4 GE340 GE341 GE361 GE367)
    have GE381 := gS w hg (lV4 GE340 GE341 GE361 GE367)
    replace HB := bH (lV4 GE340 GE341 GE361 GE367) hb
    have NB340_381 := nL hg (bV BK340)
    have NB381_340 := nG hg (bV BK340)
    replace BK340 := bB (bV BK340) hb
    have NB341_381 := nL hg (bV BK341)
    have NB381_341 := nG hg (bV BK341)
    replace BK341 := bB (bV BK341) hb
    have NB361_381 := nL hg (bV BK361)
    have NB381_361 := nG hg (bV BK361)
    replace BK361 := bB (bV BK361) hb
    have NB367_381 := nL hg (bV BK367)
    have NB381_367 := nG hg (bV BK367)
    replace BK367 := bB (bV BK367) hb
    clear hb hbox hg
    refine hK.out _ _ ⟨cz BK340 0 _, cz BK340 1 _, cz BK340 2 _, cz BK340 3 _, cz BK340 4 _, cz BK340 5 _, cz BK340 6 _, cz BK367 0 _, cz BK367 1 _, cz BK367 2 _⟩ (fun hHeld => ?_)
    clear hK K
    refine norm_ (a' := ?_) ?_ ?_
    rotate_left
    ·show Act.put _ (some 11) _ = _
     simp only [Act.put, List.setIfInBounds_toArray, List.set_cons_zero, List.set_cons_succ, i64_w, i32_w]
     rfl
    refine one_ (i := 1) (N := some 36) (bz 11 271) rfl rfl (one_of HT_.out (by kernel_rfl)) (by decide) (fun K hK => ?_)
    refine goes_ Try.func7 (by kernel_rfl) rfl #[.agg #[.int .i64 a0_0, .int .i64 a0_1, .int .i64 a0_2, .int .i64 a0_3, .int .i64 a0_4, .int .i64 a0_5, .int .i64 a0_6]] (by rfl) rfl rfl aE ?_
    with_reducible refine (laws_toEmitter.calls a0_0 a0_1 a0_2 a0_3 a0_4 a0_5 a0_6 t368 t369 t370 t371 t372 t373 t374 _ A15.out).mono ?_
    rintro e w46 ⟨rfl, hb⟩
    refine ⟨_, rfl, ?_⟩
    replace HO354 := Aside0.mk (Kd.R_below (rU HO354.out) hb)
    replace HO359 := Aside0.mk (Kd.R_below (rU HO359.out) hb)
    replace HO366 := Aside0.mk (Kd.R_below (rU HO366.out) hb)
    replace BK340 := bB (bV BK340) hb
    replace BK341 := bB (bV BK341) hb
    replace BK361 := bB (bV BK361) hb
    replace BK367 := bB (bV BK367) hb
    replace BK381 := bB (bV BK381) hb
    replace HB := bH (lV5 GE340 GE341 GE361 GE367 GE381) hb
    (try clear hb)
    (try clear hb2)
    (try clear hk)
    (try clear hi)
    refine hK.out _ _ ⟨cz BK340 0 _, cz BK340 1 _, cz BK340 2 _, cz BK340 3 _, cz BK340 4 _, cz BK340 5 _, cz BK340 6 _, cz BK367 0 _, cz BK367 1 _, cz BK367 2 _⟩ (fun hHeld => ?_)
    clear hK K
    refine norm_ (a' := ?_) ?_ ?_
    rotate_left
    ·show Act.put _ (some 36) _ = _
     simp only [Act.put, List.setIfInBounds_toArray, List.set_cons_zero, List.set_cons_succ, i64_w, i32_w]
     rfl
    refine one_ (i := 4) (N := some 39) (bz 11 287) rfl rfl (one_of HT_.out (by kernel_rfl)) (by decide) (fun K hK => ?_)
    refine goes_ Try.func17 (by kernel_rfl) rfl #[.agg #[.int .i64 t368, .int .i64 t369, .int .i64 t370, .int .i64 t371, .int .i64 t372, .int .i64 t373, .int .i64 t374], .agg #[.int .i64 t362, .int .i64 t363, .slice Ao42 t364.length co42], .int .i64 a2] (by rfl) rfl rfl aE ?_
    with_reducible refine (impl_RunCloud.calls k t368 t369 t370 t371 t372 t373 t374 t362 t363 _ _ t364 a2 t375 t376 t377 t380 _ ?side1 ?side2 A16.out).mono ?_
    (case side1 => exact cU (Kd.R_reads' HO366.out).2.2)
    (case side2 => exact (Kd.R_reads' HO366.out).2.1)
    rintro e w47 ⟨v378, rfl, ho0, hb⟩
    refine ⟨_, rfl, ?_⟩
    have HO379 := Aside0.mk (Kd.R_lower (Kd.R_new' (Kd.R_new' (Kd.R_new' ho0 (Kd.R_lt (rU HO354.out))) (Kd.R_lt (rU HO359.out))) (Kd.R_lt (rU HO366.out))) (below_size (lV5 GE340 GE341 GE361 GE367 GE381)))
    replace HO354 := Aside0.mk (Kd.R_elder' (rU HO354.out) (Kd.R_base ho0) hb)
    replace HO359 := Aside0.mk (Kd.R_elder' (rU HO359.out) (Kd.R_base ho0) hb)
    replace HO366 := Aside0.mk (Kd.R_elder' (rU HO366.out) (Kd.R_base ho0) hb)
    replace BK340 := bB (bV BK340) hb
    replace BK341 := bB (bV BK341) hb
    replace BK361 := bB (bV BK361) hb
    replace BK367 := bB (bV BK367) hb
    replace BK381 := bB (bV BK381) hb
    replace HB := bH (lV5 GE340 GE341 GE361 GE367 GE381) hb
    (try clear hb)
    (try clear hb2)
    (try clear hk)
    (try clear hi)
    (try clear ho0)
    refine hK.out _ _ ⟨cz BK340 0 _, cz BK340 1 _, cz BK340 2 _, cz BK340 3 _, cz BK340 4 _, cz BK340 5 _, cz BK340 6 _, cz BK367 0 _, cz BK367 1 _, cz BK367 2 _⟩ (fun hHeld => ?_)
    clear hK K
    refine norm_ (a' := ?_) ?_ ?_
    rotate_left
    ·show Act.put _ (some 39) _ = _
     simp only [Act.put, List.setIfInBounds_toArray, List.set_cons_zero, List.set_cons_succ, i64_w, i32_w]
     rfl
    refine pureA 5 34 (bz 11 319) rfl rfl (any_of HT_.out (by kernel_rfl)) ?_
    refine pureA 6 40 (bz 11 383) rfl rfl (any_of HT_.out (by kernel_rfl)) ?_
    refine pureA 7 41 (bz 11 511) rfl rfl (any_of HT_.out (by kernel_rfl)) ?_
    exact norm_ (by simp only [putAll, Act.put, List.setIfInBounds_toArray, List.set_cons_zero, List.set_cons_succ]) (hCont (v378, gb381) _ ⟨hHeld, (by (with_reducible repeat (first | apply Kd.R_alloc | apply Kd.R_drewN | apply Kd.R_drew)); exact Kd.R_mono HO354.out (fun _ hk => ⟨hk.1.1, ⟨hk.1.2, hk.2⟩⟩)), (by (with_reducible repeat (first | apply Kd.R_alloc | apply Kd.R_drewN | apply Kd.R_drew)); exact Kd.R_mono HO359.out (fun _ hk => ⟨hk.1.1, ⟨hk.1.2, hk.2⟩⟩)), (by (with_reducible repeat (first | apply Kd.R_alloc | apply Kd.R_drewN | apply Kd.R_drew)); exact Kd.R_mono HO366.out (fun _ hk => ⟨hk.1.1, ⟨hk.1.2, hk.2⟩⟩)), (by (with_reducible repeat (first | apply Kd.R_alloc | apply Kd.R_drewN | apply Kd.R_drew)); exact Kd.R_mono HO379.out (fun _ hk => ⟨hk.1.1.2, ⟨hk.1.2, hk.2⟩⟩)), (bV BK340), (bV BK341), (bV BK361), (bV BK367), (bV BK381), GW381.out, GE381.out, NB340_381.out, NB381_340.out, NB341_381.out, NB381_341.out, NB361_381.out, NB381_361.out, NB367_381.out, NB381_367.out, (lV5 GE340 GE341 GE361 GE367 GE381)⟩)
  rintro ⟨v378, gb381⟩ w48 ⟨hS_, h0_, h1_, h2_, h3_, h4_, h5_, h6_, h7_, h8_, h9_, h10_, h11_, h12_, h13_, h14_, h15_, h16_, h17_, h18_, h19_⟩
  replace HO354 : Aside0 (Kd.R k48 48 w48 w.heap.size (fun k_ => some k_ ≠ (.slice Ao32 t357.length co32 : Value).ownBlock ∧ some k_ ≠ (.slice Ao42 t364.length co42 : Value).ownBlock ∧ some k_ ≠ (v378 : Value).ownBlock) v353 t352) := ⟨h0_⟩
  replace HO359 : Aside0 (Kd.R k48 48 w48 w.heap.size (fun k_ => some k_ ≠ (v353 : Value).ownBlock ∧ some k_ ≠ (.slice Ao42 t364.length co42 : Value).ownBlock ∧ some k_ ≠ (v378 : Value).ownBlock) (.slice Ao32 t357.length co32) t357) := ⟨h1_⟩
  replace HO366 : Aside0 (Kd.R k48 48 w48 w.heap.size (fun k_ => some k_ ≠ (v353 : Value).ownBlock ∧ some k_ ≠ (.slice Ao32 t357.length co32 : Value).ownBlock ∧ some k_ ≠ (v378 : Value).ownBlock) (.slice Ao42 t364.length co42) t364) := ⟨h2_⟩
  have HO379 : Aside0 (Kd.R k48 48 w48 w.heap.size (fun k_ => some k_ ≠ (v353 : Value).ownBlock ∧ some k_ ≠ (.slice Ao32 t357.length co32 : Value).ownBlock ∧ some k_ ≠ (.slice Ao42 t364.length co42 : Value).ownBlock) v378 t377) := ⟨h3_⟩
  replace BK340 : Aside0 (w48.heap[gb340]? = some (.cells #[.int .i64 a0_0, .int .i64 a0_1, .int .i64 a0_2, .int .i64 a0_3, .int .i64 a0_4, .int .i64 a0_5, .int .i64 a0_6] 23 (0, 0))) := ⟨h4_⟩
  replace BK341 : Aside0 (w48.heap[gb341]? = some (.cells #[.int .i64 a1_0, .int .i64 a1_1, .slice A1_2 l1_2.length c1_2] 31 (0, 0))) := ⟨h5_⟩
  replace BK361 : Aside0 (w48.heap[gb361]? = some (.cells #[.int .i64 t355, .int .i64 t356, .slice Ao32 t357.length co32] 35 (0, 0))) := ⟨h6_⟩
  replace BK367 : Aside0 (w48.heap[gb367]? = some (.cells #[.int .i64 t362, .int .i64 t363, .slice Ao42 t364.length co42] 35 (0, 0))) := ⟨h7_⟩
  have BK381 : Aside0 (w48.heap[gb381]? = some (.cells #[.int .i64 0, .int .i64 0, .slice none 0 0] 35 (0, 0))) := ⟨h8_⟩
  have GW381 : Aside0 (w.heap.size ≤ gb381) := ⟨h9_⟩
  have GE381 : Aside0 (w.heap.size ≤ gb381) := ⟨h10_⟩
  have NB340_381 : Aside0 (gb340 ≠ gb381) := ⟨h11_⟩
  have NB381_340 : Aside0 (gb381 ≠ gb340) := ⟨h12_⟩
  have NB341_381 : Aside0 (gb341 ≠ gb381) := ⟨h13_⟩
  have NB381_341 : Aside0 (gb381 ≠ gb341) := ⟨h14_⟩
  have NB361_381 : Aside0 (gb361 ≠ gb381) := ⟨h15_⟩
  have NB381_361 : Aside0 (gb381 ≠ gb361) := ⟨h16_⟩
  have NB367_381 : Aside0 (gb367 ≠ gb381) := ⟨h17_⟩
  have NB381_367 : Aside0 (gb381 ≠ gb367) := ⟨h18_⟩
  replace HB : Aside0 (Below w.heap.size w w48) := ⟨h19_⟩
  clear h0_ h1_ h2_ h3_ h4_ h5_ h6_ h7_ h8_ h9_ h10_ h11_ h12_ h13_ h14_ h15_ h16_ h17_ h18_ h19_
  have hHeld : w48.cell? ⟨gb340, 0, none⟩ = some (.int .i64 a0_0) ∧ w48.cell? ⟨gb340, 1, none⟩ = some (.int .i64 a0_1) ∧ w48.cell? ⟨gb340, 2, none⟩ = some (.int .i64 a0_2) ∧ w48.cell? ⟨gb340, 3, none⟩ = some (.int .i64 a0_3) ∧ w48.cell? ⟨gb340, 4, none⟩ = some (.int .i64 a0_4) ∧ w48.cell? ⟨gb340, 5, none⟩ = some (.int .i64 a0_5) ∧ w48.cell? ⟨gb340, 6, none⟩ = some (.int .i64 a0_6) ∧ w48.cell? ⟨gb367, 0, none⟩ = some (.int .i64 t362) ∧ w48.cell? ⟨gb367, 1, none⟩ = some (.int .i64 t363) ∧ w48.cell? ⟨gb367, 2, none⟩ = some (.slice Ao42 t364.length co42) := hS_
  obtain ⟨Ao51, co51, eo51⟩ := Kd.R_slice HO379.out
  (first | subst eo51 | (injection eo51 with f1_ f2_ f3_; have f4_ := f1_.symm; have f5_ := f3_.symm; clear f1_ f2_ f3_; subst f4_; subst f5_))
  refine norm_ (a' := ?_) ?_ ?_
  rotate_left
  ·simp only [putAll, Act.put, List.setIfInBounds_toArray, List.set_cons_zero, List.set_cons_succ]
   rfl
  refine one_ (i := 9) (N := none) (bz 11 1023) rfl rfl (one_of HT_.out (by kernel_rfl)) (by decide) (fun K hK => ?_)
  have hs49 : w48.cell? ⟨gb381, 0, none⟩ = some (.int .i64 0) := (blk_cell BK381.out 0).trans rfl
  have hfs49 := blk_frozen BK381.out 0
  have hns49_0 := NB340_381.out
  have hns49_1 := NB341_381.out
  have hns49_2 := NB361_381.out
  have hns49_3 := NB367_381.out
  have hms49_0 := NB381_340.out
  have hms49_1 := NB381_341.out
  have hms49_2 := NB381_361.out
  have hms49_3 := NB381_367.out
  have hs50 : w48.cell? ⟨gb381, 1, none⟩ = some (.int .i64 0) := (blk_cell BK381.out 1).trans rfl
  have hfs50 := blk_frozen BK381.out 1
  have hns50_0 := NB340_381.out
  have hns50_1 := NB341_381.out
  have hns50_2 := NB361_381.out
  have hns50_3 := NB367_381.out
  have hms50_0 := NB381_340.out
  have hms50_1 := NB381_341.out
  have hms50_2 := NB381_361.out
  have hms50_3 := NB381_367.out
  have hs52 : w48.cell? ⟨gb381, 2, none⟩ = some (.slice none 0 0) := (blk_cell BK381.out 2).trans rfl
  have hfs52 := blk_frozen BK381.out 2
  have hns52_0 := NB340_381.out
  have hns52_1 := NB341_381.out
  have hns52_2 := NB361_381.out
  have hns52_3 := NB367_381.out
  have hms52_0 := NB381_340.out
  have hms52_1 := NB381_341.out
  have hms52_2 := NB381_361.out
  have hms52_3 := NB381_367.out
  refine skip_ (w1 := ?_) (by rfl) rfl ?_ ?_
  rotate_left
  ·go_simp
   rfl
  refine hK.out _ _ ⟨((cell_far (p := ⟨gb381, _, none⟩) NB340_381.out _).trans (((cell_far (p := ⟨gb381, _, none⟩) NB340_381.out _).trans (((cell_far (p := ⟨gb381, _, none⟩) NB340_381.out _).trans (hHeld.1)))))), ((cell_far (p := ⟨gb381, _, none⟩) NB340_381.out _).trans (((cell_far (p := ⟨gb381, _, none⟩) NB340_381.out _).trans (((cell_far (p := ⟨gb381, _, none⟩) NB340_381.out _).trans (hHeld.2.1)))))), ((cell_far (p := ⟨gb381, _, none⟩) NB340_381.out _).trans (((cell_far (p := ⟨gb381, _, none⟩) NB340_381.out _).trans (((cell_far (p := ⟨gb381, _, none⟩) NB340_381.out _).trans (hHeld.2.2.1)))))), ((cell_far (p := ⟨gb381, _, none⟩) NB340_381.out _).trans (((cell_far (p := ⟨gb381, _, none⟩) NB340_381.out _).trans (((cell_far (p := ⟨gb381, _, none⟩) NB340_381.out _).trans (hHeld.2.2.2.1)))))), ((cell_far (p := ⟨gb381, _, none⟩) NB340_381.out _).trans (((cell_far (p := ⟨gb381, _, none⟩) NB340_381.out _).trans (((cell_far (p := ⟨gb381, _, none⟩) NB340_381.out _).trans (hHeld.2.2.2.2.1)))))), ((cell_far (p := ⟨gb381, _, none⟩) NB340_381.out _).trans (((cell_far (p := ⟨gb381, _, none⟩) NB340_381.out _).trans (((cell_far (p := ⟨gb381, _, none⟩) NB340_381.out _).trans (hHeld.2.2.2.2.2.1)))))), ((cell_far (p := ⟨gb381, _, none⟩) NB340_381.out _).trans (((cell_far (p := ⟨gb381, _, none⟩) NB340_381.out _).trans (((cell_far (p := ⟨gb381, _, none⟩) NB340_381.out _).trans (hHeld.2.2.2.2.2.2.1)))))), ((cell_far (p := ⟨gb381, _, none⟩) NB367_381.out _).trans (((cell_far (p := ⟨gb381, _, none⟩) NB367_381.out _).trans (((cell_far (p := ⟨gb381, _, none⟩) NB367_381.out _).trans (hHeld.2.2.2.2.2.2.2.1)))))), ((cell_far (p := ⟨gb381, _, none⟩) NB367_381.out _).trans (((cell_far (p := ⟨gb381, _, none⟩) NB367_381.out _).trans (((cell_far (p := ⟨gb381, _, none⟩) NB367_381.out _).trans (hHeld.2.2.2.2.2.2.2.2.1)))))), ((cell_far (p := ⟨gb381, _, none⟩) NB367_381.out _).trans (((cell_far (p := ⟨gb381, _, none⟩) NB367_381.out _).trans (((cell_far (p := ⟨gb381, _, none⟩) NB367_381.out _).trans (hHeld.2.2.2.2.2.2.2.2.2))))))⟩ (fun hHeld => ?_)
  clear hK K
  refine pureA 10 12 (bz 11 2047) rfl rfl (any_of HT_.out (by kernel_rfl)) ?_
  refine done_ (done_of HT_.out (by kernel_rfl)) ?_
  go_upto_region 8 with (fail)
  go_cut [50] (fun v50 wc => ∃ (kq : Nat) (x50_16 : Bool), v50 = .bool x50_16 ∧ Aside0 (laws_FnExactRunCloud.j0 kq a2 t360 t380 x50_16 a0_0 a0_1 a0_2 a0_3 a0_4 a0_5 a0_6 a1_0 a1_1 l1_2 t355 t356 t357 t362 t363 t364 t375 t376 t377 = some r) ∧ Aside0 (kq ≤ k) ∧ Aside0 (Kd.R k48 48 wc w.heap.size (fun k_ => some k_ ≠ ((.slice Ao42 t364.length co42) : Value).ownBlock ∧ some k_ ≠ ((.slice Ao51 t377.length co51) : Value).ownBlock) (.slice Ao32 t357.length co32) t357) ∧ Aside0 (Kd.R k48 48 wc w.heap.size (fun k_ => some k_ ≠ ((.slice Ao32 t357.length co32) : Value).ownBlock ∧ some k_ ≠ ((.slice Ao51 t377.length co51) : Value).ownBlock) (.slice Ao42 t364.length co42) t364) ∧ Aside0 (Kd.R k48 48 wc w.heap.size (fun k_ => some k_ ≠ ((.slice Ao32 t357.length co32) : Value).ownBlock ∧ some k_ ≠ ((.slice Ao42 t364.length co42) : Value).ownBlock) (.slice Ao51 t377.length co51) t377) ∧ Aside0 (wc.heap[gb340]? = some (.cells #[.int .i64 a0_0, .int .i64 a0_1, .int .i64 a0_2, .int .i64 a0_3, .int .i64 a0_4, .int .i64 a0_5, .int .i64 a0_6] 23 (0, 0))) ∧ Aside0 (wc.heap[gb341]? = some (.cells #[.int .i64 a1_0, .int .i64 a1_1, (.slice A1_2 l1_2.length c1_2)] 31 (0, 0))) ∧ Aside0 (wc.heap[gb361]? = some (.cells #[.int .i64 t355, .int .i64 t356, (.slice Ao32 t357.length co32)] 35 (0, 0))) ∧ Aside0 (wc.heap[gb367]? = some (.cells #[.int .i64 t362, .int .i64 t363, (.slice Ao42 t364.length co42)] 35 (0, 0))) ∧ Aside0 (wc.heap[gb381]? = some (.cells #[.int .i64 t375, .int .i64 t376, (.slice Ao51 t377.length co51)] 35 (0, 0))) ∧ Aside0 (Below w.heap.size w wc))
  case first =>
   have H := HC17.out
   clear HC17
   replace H := Option.bind_eq_some_iff.mp H
   obtain ⟨t382, A530, H⟩ := H
   replace H : (if t382 = true then (laws_FnExactRunCloud.j0 k a2 t360 t380 (t380 != t360) a0_0 a0_1 a0_2 a0_3 a0_4 a0_5 a0_6 a1_0 a1_1 l1_2 t355 t356 t357 t362 t363 t364 t375 t376 t377) else (laws_FnExactRunCloud.j0 k a2 t360 t380 true a0_0 a0_1 a0_2 a0_3 a0_4 a0_5 a0_6 a1_0 a1_1 l1_2 t355 t356 t357 t362 t363 t364 t375 t376 t377)) = some r := H
   have A53 := Aside0.mk A530
   clear A530
   by_cases c54 : t382 = true
   ·subst c54
    have H1 : (laws_FnExactRunCloud.j0 k a2 t360 t380 (t380 != t360) a0_0 a0_1 a0_2 a0_3 a0_4 a0_5 a0_6 a1_0 a1_1 l1_2 t355 t356 t357 t362 t363 t364 t375 t376 t377) = some r := by rw [if_pos rfl] at H; exact H
    clear H
    have H := H1
    clear H1
    have H' := Aside0.mk H
    clear H
    have hnb55 := NB381_340.out
    have hnc55 := NB340_381.out
    have hnb56 := NB381_341.out
    have hnc56 := NB341_381.out
    have hnb57 := NB381_361.out
    have hnc57 := NB361_381.out
    have hnb58 := NB381_367.out
    have hnc58 := NB367_381.out
    have hcz59_0 := cz BK381 0 (.int .i64 0)
    have hcz59_1 := cz BK381 1 (.int .i64 0)
    have hcz59_2 := cz BK381 2 (.slice none 0 0)
    have hfz59_0 := fz BK381 0
    have hfz59_1 := fz BK381 1
    have hfz59_2 := fz BK381 2
    have hnb60 := NB361_340.out
    have hnc60 := NB340_361.out
    have hnb61 := NB361_341.out
    have hnc61 := NB341_361.out
    have hnb62 := NB361_367.out
    have hnc62 := NB367_361.out
    have hcz63_0 := cz BK361 0 (.int .i64 t355)
    have hcz63_1 := cz BK361 1 (.int .i64 t356)
    have hcz63_2 := cz BK361 2 (.slice Ao32 t357.length co32)
    have hfz63_0 := fz BK361 0
    have hfz63_1 := fz BK361 1
    have hfz63_2 := fz BK361 2
    go_wp2_with (first | ((with_reducible refine gate_callee (f := 13) rfl ?_); refine goesL_ (some 44) rfl rfl Try.func13 (by kernel_rfl) rfl #[.agg #[.int .i64 t375, .int .i64 t376, .slice Ao51 t377.length co51], .agg #[.int .i64 t355, .int .i64 t356, .slice Ao32 t357.length co32]] rfl aE ?_; (with_reducible refine (laws_eqCloud.calls k t375 t376 _ _ t377 t355 t356 _ _ t357 true _ ?side1 ?side2 ?side3 ?side4 A53.out).mono ?_); (case side1 => refine (Kd.R_reads' (e := 48) (base := w.heap.size) (ok := fun k_ => (some k_ ≠ (v353 : Value).ownBlock ∧ (some k_ ≠ (.slice Ao32 t357.length co32 : Value).ownBlock ∧ some k_ ≠ (.slice Ao42 t364.length co42 : Value).ownBlock))) (n := t377.length) (c := co51) ?_).2.2; exact (rU (Kd.R_mono (Kd.R_far (p := ⟨gb381, 2, none⟩) (Kd.R_far (p := ⟨gb381, 1, none⟩) (Kd.R_far (p := ⟨gb381, 0, none⟩) (Kd.R_types HO379.out BK381.out (by decide)) (fun _ hk => hk.2) (.int .i64 t375)) (fun _ hk => hk.2) (.int .i64 t376)) (fun _ hk => hk.2) (.slice Ao51 t377.length co51)) (fun _ h_ => h_.1)))); (case side2 => exact (Kd.R_reads' HO379.out).2.1); (case side3 => refine (Kd.R_reads' (e := 48) (base := w.heap.size) (ok := fun k_ => (some k_ ≠ (v353 : Value).ownBlock ∧ (some k_ ≠ (.slice Ao42 t364.length co42 : Value).ownBlock ∧ some k_ ≠ (.slice Ao51 t377.length co51 : Value).ownBlock))) (n := t357.length) (c := co32) ?_).2.2; exact (rU (Kd.R_mono (Kd.R_far (p := ⟨gb381, 2, none⟩) (Kd.R_far (p := ⟨gb381, 1, none⟩) (Kd.R_far (p := ⟨gb381, 0, none⟩) (Kd.R_types HO359.out BK381.out (by decide)) (fun _ hk => hk.2) (.int .i64 t375)) (fun _ hk => hk.2) (.int .i64 t376)) (fun _ hk => hk.2) (.slice Ao51 t377.length co51)) (fun _ h_ => h_.1)))); (case side4 => exact (Kd.R_reads' HO359.out).2.1); rintro e w64 ⟨rfl, hb⟩; refine ⟨_, rfl, ?_⟩; replace HO354 := Aside0.mk (Kd.R_below (rU (Kd.R_mono (Kd.R_far (p := ⟨gb381, 2, none⟩) (Kd.R_far (p := ⟨gb381, 1, none⟩) (Kd.R_far (p := ⟨gb381, 0, none⟩) (Kd.R_types HO354.out BK381.out (by decide)) (fun _ hk => hk.2) (.int .i64 t375)) (fun _ hk => hk.2) (.int .i64 t376)) (fun _ hk => hk.2) (.slice Ao51 t377.length co51)) (fun _ h_ => h_.1))) hb); replace HO359 := Aside0.mk (Kd.R_below (rU (Kd.R_mono (Kd.R_far (p := ⟨gb381, 2, none⟩) (Kd.R_far (p := ⟨gb381, 1, none⟩) (Kd.R_far (p := ⟨gb381, 0, none⟩) (Kd.R_types HO359.out BK381.out (by decide)) (fun _ hk => hk.2) (.int .i64 t375)) (fun _ hk => hk.2) (.int .i64 t376)) (fun _ hk => hk.2) (.slice Ao51 t377.length co51)) (fun _ h_ => h_.1))) hb); replace HO366 := Aside0.mk (Kd.R_below (rU (Kd.R_mono (Kd.R_far (p := ⟨gb381, 2, none⟩) (Kd.R_far (p := ⟨gb381, 1, none⟩) (Kd.R_far (p := ⟨gb381, 0, none⟩) (Kd.R_types HO366.out BK381.out (by decide)) (fun _ hk => hk.2) (.int .i64 t375)) (fun _ hk => hk.2) (.int .i64 t376)) (fun _ hk => hk.2) (.slice Ao51 t377.length co51)) (fun _ h_ => h_.1))) hb); replace HO379 := Aside0.mk (Kd.R_below (rU (Kd.R_mono (Kd.R_far (p := ⟨gb381, 2, none⟩) (Kd.R_far (p := ⟨gb381, 1, none⟩) (Kd.R_far (p := ⟨gb381, 0, none⟩) (Kd.R_types HO379.out BK381.out (by decide)) (fun _ hk => hk.2) (.int .i64 t375)) (fun _ hk => hk.2) (.int .i64 t376)) (fun _ hk => hk.2) (.slice Ao51 t377.length co51)) (fun _ h_ => h_.1))) hb); replace BK340 := bB (bG NB340_381 BK340) hb; replace BK341 := bB (bG NB341_381 BK341) hb; replace BK361 := bB (bG NB361_381 BK361) hb; replace BK367 := bB (bG NB367_381 BK367) hb; replace BK381 := Aside0.mk (blk_below (g := gb381) (o := .cells #[.int .i64 t375, .int .i64 t376, .slice Ao51 t377.length co51] 35 (0, 0)) (by refine bU ?_; refine blk_put (cs := #[.int .i64 t375, .int .i64 t376, .slice none 0 0]) ?_ 2 _ rfl; refine bU ?_; refine blk_put (cs := #[.int .i64 t375, .int .i64 0, .slice none 0 0]) ?_ 1 _ rfl; refine bU ?_; refine blk_put (cs := #[.int .i64 0, .int .i64 0, .slice none 0 0]) ?_ 0 _ rfl; refine bU ?_; exact BK381.out) hb); replace HB := bH (lV5 GE340 GE341 GE361 GE367 GE381) hb; (try clear hb)))
    go_meet
    case rel => exact ⟨_, ((t380 != t360)), tE, H', ⟨by first | omega | exact Nat.le_refl _⟩, ⟨by (with_reducible repeat (first | apply Kd.R_alloc | apply Kd.R_drewN | apply Kd.R_drew)); exact Kd.R_mono HO359.out (fun _ hk => ⟨hk.2.1, hk.2.2⟩)⟩, ⟨by (with_reducible repeat (first | apply Kd.R_alloc | apply Kd.R_drewN | apply Kd.R_drew)); exact Kd.R_mono HO366.out (fun _ hk => ⟨hk.2.1, hk.2.2⟩)⟩, ⟨by (with_reducible repeat (first | apply Kd.R_alloc | apply Kd.R_drewN | apply Kd.R_drew)); exact Kd.R_mono HO379.out (fun _ hk => ⟨hk.2.1, hk.2.2⟩)⟩, ⟨by refine bU ?_; exact BK340.out⟩, ⟨by refine bU ?_; exact BK341.out⟩, ⟨by refine bU ?_; exact BK361.out⟩, ⟨by refine bU ?_; exact BK367.out⟩, ⟨by refine bU ?_; exact BK381.out⟩, ⟨by repeat (first | (with_reducible first | exact HB.out | apply below_alloc | apply pw_below_drewN | apply below_drew1 | refine below_set ?_ GE340.out | refine below_set ?_ GE341.out | refine below_set ?_ GE361.out | refine below_set ?_ GE367.out | refine below_set ?_ GE381.out) | exact HB.out)⟩⟩
   ·replace c54 := Bool.eq_false_iff.mpr c54
    subst c54
    have H1 : (laws_FnExactRunCloud.j0 k a2 t360 t380 true a0_0 a0_1 a0_2 a0_3 a0_4 a0_5 a0_6 a1_0 a1_1 l1_2 t355 t356 t357 t362 t363 t364 t375 t376 t377) = some r := by rw [if_neg (show ¬ (false = true) by decide)] at H; exact H
    clear H
    have H := H1
    clear H1
    have H' := Aside0.mk H
    clear H
    have hnb65 := NB381_340.out
    have hnc65 := NB340_381.out
    have hnb66 := NB381_341.out
    have hnc66 := NB341_381.out
    have hnb67 := NB381_361.out
    have hnc67 := NB361_381.out
    have hnb68 := NB381_367.out
    have hnc68 := NB367_381.out
    have hcz69_0 := cz BK381 0 (.int .i64 0)
    have hcz69_1 := cz BK381 1 (.int .i64 0)
    have hcz69_2 := cz BK381 2 (.slice none 0 0)
    have hfz69_0 := fz BK381 0
    have hfz69_1 := fz BK381 1
    have hfz69_2 := fz BK381 2
    have hnb70 := NB361_340.out
    have hnc70 := NB340_361.out
    have hnb71 := NB361_341.out
    have hnc71 := NB341_361.out
    have hnb72 := NB361_367.out
    have hnc72 := NB367_361.out
    have hcz73_0 := cz BK361 0 (.int .i64 t355)
    have hcz73_1 := cz BK361 1 (.int .i64 t356)
    have hcz73_2 := cz BK361 2 (.slice Ao32 t357.length co32)
    have hfz73_0 := fz BK361 0
    have hfz73_1 := fz BK361 1
    have hfz73_2 := fz BK361 2
    go_wp2_with (first | ((with_reducible refine gate_callee (f := 13) rfl ?_); refine goesL_ (some 44) rfl rfl Try.func13 (by kernel_rfl) rfl #[.agg #[.int .i64 t375, .int .i64 t376, .slice Ao51 t377.length co51], .agg #[.int .i64 t355, .int .i64 t356, .slice Ao32 t357.length co32]] rfl aE ?_; (with_reducible refine (laws_eqCloud.calls k t375 t376 _ _ t377 t355 t356 _ _ t357 false _ ?side1 ?side2 ?side3 ?side4 A53.out).mono ?_); (case side1 => refine (Kd.R_reads' (e := 48) (base := w.heap.size) (ok := fun k_ => (some k_ ≠ (v353 : Value).ownBlock ∧ (some k_ ≠ (.slice Ao32 t357.length co32 : Value).ownBlock ∧ some k_ ≠ (.slice Ao42 t364.length co42 : Value).ownBlock))) (n := t377.length) (c := co51) ?_).2.2; exact (rU (Kd.R_mono (Kd.R_far (p := ⟨gb381, 2, none⟩) (Kd.R_far (p := ⟨gb381, 1, none⟩) (Kd.R_far (p := ⟨gb381, 0, none⟩) (Kd.R_types HO379.out BK381.out (by decide)) (fun _ hk => hk.2) (.int .i64 t375)) (fun _ hk => hk.2) (.int .i64 t376)) (fun _ hk => hk.2) (.slice Ao51 t377.length co51)) (fun _ h_ => h_.1)))); (case side2 => exact (Kd.R_reads' HO379.out).2.1); (case side3 => refine (Kd.R_reads' (e := 48) (base := w.heap.size) (ok := fun k_ => (some k_ ≠ (v353 : Value).ownBlock ∧ (some k_ ≠ (.slice Ao42 t364.length co42 : Value).ownBlock ∧ some k_ ≠ (.slice Ao51 t377.length co51 : Value).ownBlock))) (n := t357.length) (c := co32) ?_).2.2; exact (rU (Kd.R_mono (Kd.R_far (p := ⟨gb381, 2, none⟩) (Kd.R_far (p := ⟨gb381, 1, none⟩) (Kd.R_far (p := ⟨gb381, 0, none⟩) (Kd.R_types HO359.out BK381.out (by decide)) (fun _ hk => hk.2) (.int .i64 t375)) (fun _ hk => hk.2) (.int .i64 t376)) (fun _ hk => hk.2) (.slice Ao51 t377.length co51)) (fun _ h_ => h_.1)))); (case side4 => exact (Kd.R_reads' HO359.out).2.1); rintro e w74 ⟨rfl, hb⟩; refine ⟨_, rfl, ?_⟩; replace HO354 := Aside0.mk (Kd.R_below (rU (Kd.R_mono (Kd.R_far (p := ⟨gb381, 2, none⟩) (Kd.R_far (p := ⟨gb381, 1, none⟩) (Kd.R_far (p := ⟨gb381, 0, none⟩) (Kd.R_types HO354.out BK381.out (by decide)) (fun _ hk => hk.2) (.int .i64 t375)) (fun _ hk => hk.2) (.int .i64 t376)) (fun _ hk => hk.2) (.slice Ao51 t377.length co51)) (fun _ h_ => h_.1))) hb); replace HO359 := Aside0.mk (Kd.R_below (rU (Kd.R_mono (Kd.R_far (p := ⟨gb381, 2, none⟩) (Kd.R_far (p := ⟨gb381, 1, none⟩) (Kd.R_far (p := ⟨gb381, 0, none⟩) (Kd.R_types HO359.out BK381.out (by decide)) (fun _ hk => hk.2) (.int .i64 t375)) (fun _ hk => hk.2) (.int .i64 t376)) (fun _ hk => hk.2) (.slice Ao51 t377.length co51)) (fun _ h_ => h_.1))) hb); replace HO366 := Aside0.mk (Kd.R_below (rU (Kd.R_mono (Kd.R_far (p := ⟨gb381, 2, none⟩) (Kd.R_far (p := ⟨gb381, 1, none⟩) (Kd.R_far (p := ⟨gb381, 0, none⟩) (Kd.R_types HO366.out BK381.out (by decide)) (fun _ hk => hk.2) (.int .i64 t375)) (fun _ hk => hk.2) (.int .i64 t376)) (fun _ hk => hk.2) (.slice Ao51 t377.length co51)) (fun _ h_ => h_.1))) hb); replace HO379 := Aside0.mk (Kd.R_below (rU (Kd.R_mono (Kd.R_far (p := ⟨gb381, 2, none⟩) (Kd.R_far (p := ⟨gb381, 1, none⟩) (Kd.R_far (p := ⟨gb381, 0, none⟩) (Kd.R_types HO379.out BK381.out (by decide)) (fun _ hk => hk.2) (.int .i64 t375)) (fun _ hk => hk.2) (.int .i64 t376)) (fun _ hk => hk.2) (.slice Ao51 t377.length co51)) (fun _ h_ => h_.1))) hb); replace BK340 := bB (bG NB340_381 BK340) hb; replace BK341 := bB (bG NB341_381 BK341) hb; replace BK361 := bB (bG NB361_381 BK361) hb; replace BK367 := bB (bG NB367_381 BK367) hb; replace BK381 := Aside0.mk (blk_below (g := gb381) (o := .cells #[.int .i64 t375, .int .i64 t376, .slice Ao51 t377.length co51] 35 (0, 0)) (by refine bU ?_; refine blk_put (cs := #[.int .i64 t375, .int .i64 t376, .slice none 0 0]) ?_ 2 _ rfl; refine bU ?_; refine blk_put (cs := #[.int .i64 t375, .int .i64 0, .slice none 0 0]) ?_ 1 _ rfl; refine bU ?_; refine blk_put (cs := #[.int .i64 0, .int .i64 0, .slice none 0 0]) ?_ 0 _ rfl; refine bU ?_; exact BK381.out) hb); replace HB := bH (lV5 GE340 GE341 GE361 GE367 GE381) hb; (try clear hb)))
    go_meet
    case rel => exact ⟨_, (true), tE, H', ⟨by first | omega | exact Nat.le_refl _⟩, ⟨by (with_reducible repeat (first | apply Kd.R_alloc | apply Kd.R_drewN | apply Kd.R_drew)); exact Kd.R_mono HO359.out (fun _ hk => ⟨hk.2.1, hk.2.2⟩)⟩, ⟨by (with_reducible repeat (first | apply Kd.R_alloc | apply Kd.R_drewN | apply Kd.R_drew)); exact Kd.R_mono HO366.out (fun _ hk => ⟨hk.2.1, hk.2.2⟩)⟩, ⟨by (with_reducible repeat (first | apply Kd.R_alloc | apply Kd.R_drewN | apply Kd.R_drew)); exact Kd.R_mono HO379.out (fun _ hk => ⟨hk.2.1, hk.2.2⟩)⟩, ⟨by refine bU ?_; exact BK340.out⟩, ⟨by refine bU ?_; exact BK341.out⟩, ⟨by refine bU ?_; exact BK361.out⟩, ⟨by refine bU ?_; exact BK367.out⟩, ⟨by refine bU ?_; exact BK381.out⟩, ⟨by repeat (first | (with_reducible first | exact HB.out | apply below_alloc | apply pw_below_drewN | apply below_drew1 | refine below_set ?_ GE340.out | refine below_set ?_ GE341.out | refine below_set ?_ GE361.out | refine below_set ?_ GE367.out | refine below_set ?_ GE381.out) | exact HB.out)⟩⟩
  case rest =>
   clear HC17
   try clear c1
   try clear p2
   try clear c5
   try clear c6
   try clear c7
   try clear c13
   try clear c17
   try clear c54
   try clear c55
   try clear c56
   try clear c57
   try clear c58
   try clear c60
   try clear c61
   try clear c62
   try clear c65
   try clear c66
   try clear c67
   try clear c68
   try clear c70
   try clear c71
   try clear c72
   try clear hcz59_0
   try clear hcz59_1
   try clear hcz59_2
   try clear hcz63_0
   try clear hcz63_1
   try clear hcz63_2
   try clear hcz69_0
   try clear hcz69_1
   try clear hcz69_2
   try clear hcz73_0
   try clear hcz73_1
   try clear hcz73_2
   try clear hfz59_0
   try clear hfz59_1
   try clear hfz59_2
   try clear hfz63_0
   try clear hfz63_1
   try clear hfz63_2
   try clear hfz69_0
   try clear hfz69_1
   try clear hfz69_2
   try clear hfz73_0
   try clear hfz73_1
   try clear hfz73_2
   obtain ⟨kq, x50_16, rfl, HA, HJ16, HO_362002, HO_368002, HO_382002, BK340, BK341, BK361, BK367, BK381, HB⟩ := hcut
   cases kq with
   | zero => exact absurd HA.out (by simp [laws_FnExactRunCloud.j0])
   | succ kj16 =>
    have H := HA.out
    clear HA
    simp only [laws_FnExactRunCloud.j0] at H
    by_cases c75 : x50_16 = true
    ·subst c75
     have H1 : (some false) = some r := by rw [if_pos rfl] at H; exact H
     clear H
     have H := H1
     clear H1
     obtain rfl := Option.some.inj H
     go_wp2
     go_ret
     exact ⟨eE, lV5 GE340 GE341 GE361 GE367 GE381⟩
    ·replace c75 := Bool.eq_false_iff.mpr c75
     subst c75
     have H1 : ((laws_toCloud.f kj16 a1_0 a1_1 l1_2).bind fun bt383 => ((laws_eqCloud.f kj16 t362 t363 t364 bt383.1 bt383.2.1 bt383.2.2).bind fun t388 => (if t388 = true then ((laws_markCloud.f kj16 t362 t363 t364 1).bind fun bt389 => (if bt389.1 < 0 then (laws_FnExactRunCloud.j1 kj16 a2 t360 true a0_0 a0_1 a0_2 a0_3 a0_4 a0_5 a0_6 a1_0 a1_1 l1_2 t355 t356 t357 t375 t376 t377) else ((laws_eqCloud.f kj16 t375 t376 t377 t355 t356 t357).bind fun t391 => (if t391 = true then (laws_FnExactRunCloud.j1 kj16 a2 t360 (t380 != t360) a0_0 a0_1 a0_2 a0_3 a0_4 a0_5 a0_6 a1_0 a1_1 l1_2 t355 t356 t357 t375 t376 t377) else (laws_FnExactRunCloud.j1 kj16 a2 t360 true a0_0 a0_1 a0_2 a0_3 a0_4 a0_5 a0_6 a1_0 a1_1 l1_2 t355 t356 t357 t375 t376 t377))))) else (some false)))) = some r := by rw [if_neg (show ¬ (false = true) by decide)] at H; exact H
     clear H
     have H := H1
     clear H1
     replace H := Option.bind_eq_some_iff.mp H
     obtain ⟨⟨t383, t384, t385⟩, A760, H⟩ := H
     replace H : ((laws_eqCloud.f kj16 t362 t363 t364 t383 t384 t385).bind fun t388 => (if t388 = true then ((laws_markCloud.f kj16 t362 t363 t364 1).bind fun bt389 => (if bt389.1 < 0 then (laws_FnExactRunCloud.j1 kj16 a2 t360 true a0_0 a0_1 a0_2 a0_3 a0_4 a0_5 a0_6 a1_0 a1_1 l1_2 t355 t356 t357 t375 t376 t377) else ((laws_eqCloud.f kj16 t375 t376 t377 t355 t356 t357).bind fun t391 => (if t391 = true then (laws_FnExactRunCloud.j1 kj16 a2 t360 (t380 != t360) a0_0 a0_1 a0_2 a0_3 a0_4 a0_5 a0_6 a1_0 a1_1 l1_2 t355 t356 t357 t375 t376 t377) else (laws_FnExactRunCloud.j1 kj16 a2 t360 true a0_0 a0_1 a0_2 a0_3 a0_4 a0_5 a0_6 a1_0 a1_1 l1_2 t355 t356 t357 t375 t376 t377))))) else (some false))) = some r := H
     have A76 := Aside0.mk A760
     clear A760
     replace H := Option.bind_eq_some_iff.mp H
     obtain ⟨t388, A770, H⟩ := H
     replace H : (if t388 = true then ((laws_markCloud.f kj16 t362 t363 t364 1).bind fun bt389 => (if bt389.1 < 0 then (laws_FnExactRunCloud.j1 kj16 a2 t360 true a0_0 a0_1 a0_2 a0_3 a0_4 a0_5 a0_6 a1_0 a1_1 l1_2 t355 t356 t357 t375 t376 t377) else ((laws_eqCloud.f kj16 t375 t376 t377 t355 t356 t357).bind fun t391 => (if t391 = true then (laws_FnExactRunCloud.j1 kj16 a2 t360 (t380 != t360) a0_0 a0_1 a0_2 a0_3 a0_4 a0_5 a0_6 a1_0 a1_1 l1_2 t355 t356 t357 t375 t376 t377) else (laws_FnExactRunCloud.j1 kj16 a2 t360 true a0_0 a0_1 a0_2 a0_3 a0_4 a0_5 a0_6 a1_0 a1_1 l1_2 t355 t356 t357 t375 t376 t377))))) else (some false)) = some r := H
     have A77 := Aside0.mk A770
     clear A770
     by_cases c78 : t388 = true
     ·subst c78
      have H1 : ((laws_markCloud.f kj16 t362 t363 t364 1).bind fun bt389 => (if bt389.1 < 0 then (laws_FnExactRunCloud.j1 kj16 a2 t360 true a0_0 a0_1 a0_2 a0_3 a0_4 a0_5 a0_6 a1_0 a1_1 l1_2 t355 t356 t357 t375 t376 t377) else ((laws_eqCloud.f kj16 t375 t376 t377 t355 t356 t357).bind fun t391 => (if t391 = true then (laws_FnExactRunCloud.j1 kj16 a2 t360 (t380 != t360) a0_0 a0_1 a0_2 a0_3 a0_4 a0_5 a0_6 a1_0 a1_1 l1_2 t355 t356 t357 t375 t376 t377) else (laws_FnExactRunCloud.j1 kj16 a2 t360 true a0_0 a0_1 a0_2 a0_3 a0_4 a0_5 a0_6 a1_0 a1_1 l1_2 t355 t356 t357 t375 t376 t377))))) = some r := by rw [if_pos rfl] at H; exact H
      clear H
      have H := H1
      clear H1
      replace H := Option.bind_eq_some_iff.mp H
      obtain ⟨⟨t389, t390⟩, A790, H⟩ := H
      replace H : (if t389 < 0 then (laws_FnExactRunCloud.j1 kj16 a2 t360 true a0_0 a0_1 a0_2 a0_3 a0_4 a0_5 a0_6 a1_0 a1_1 l1_2 t355 t356 t357 t375 t376 t377) else ((laws_eqCloud.f kj16 t375 t376 t377 t355 t356 t357).bind fun t391 => (if t391 = true then (laws_FnExactRunCloud.j1 kj16 a2 t360 (t380 != t360) a0_0 a0_1 a0_2 a0_3 a0_4 a0_5 a0_6 a1_0 a1_1 l1_2 t355 t356 t357 t375 t376 t377) else (laws_FnExactRunCloud.j1 kj16 a2 t360 true a0_0 a0_1 a0_2 a0_3 a0_4 a0_5 a0_6 a1_0 a1_1 l1_2 t355 t356 t357 t375 t376 t377)))) = some r := H
      have A79 := Aside0.mk A790
      clear A790
      have HC80 := Aside0.mk H
      clear H
      try go_wp2
      replace HO_362002 := Aside0.mk (Kd.R_drew HO_362002.out)
      replace HO_368002 := Aside0.mk (Kd.R_drew HO_368002.out)
      replace HO_382002 := Aside0.mk (Kd.R_drew HO_382002.out)
      replace BK340 := Aside0.mk (blk_drew BK340.out)
      replace BK341 := Aside0.mk (blk_drew BK341.out)
      replace BK361 := Aside0.mk (blk_drew BK361.out)
      replace BK367 := Aside0.mk (blk_drew BK367.out)
      replace BK381 := Aside0.mk (blk_drew BK381.out)
      replace HB := Aside0.mk (below_drew1 HB.out)
      refine start_ (n := 5) (S := fun w' => w'.cell? ⟨gb367, 0, none⟩ = some (.int .i64 t362) ∧ w'.cell? ⟨gb367, 1, none⟩ = some (.int .i64 t363) ∧ w'.cell? ⟨gb367, 2, none⟩ = some (.slice Ao42 t364.length co42) ∧ w'.cell? ⟨gb341, 0, none⟩ = some (.int .i64 a1_0) ∧ w'.cell? ⟨gb341, 1, none⟩ = some (.int .i64 a1_1) ∧ w'.cell? ⟨gb341, 2, none⟩ = some (.slice A1_2 l1_2.length c1_2)) (ds := []) #[false, false, false, false, false] (by kernel_rfl) rfl rfl ⟨cz BK367 0 _, cz BK367 1 _, cz BK367 2 _, cz BK341 0 _, cz BK341 1 _, cz BK341 2 _⟩ (fun hHeld => ?_)
      generalize wc.drew = w81 at HO_362002 HO_368002 HO_382002 BK340 BK341 BK361 BK367 BK381 HB hHeld ⊢
      refine take_ (i := 0) (N := some 51) (v := ?_) (a' := ?_) (bz 5 1) rfl rfl (by kernel_rfl) (fun _ _ _ h => h) (Or.inl ⟨by rfl, ?_⟩) hHeld ?_ ?_
      rotate_left
      ·rintro w' ⟨s0, s1, s2, s3, s4, s5⟩
       go_simp
       with_reducible rfl
      rotate_left
      ·simp only [Act.put, List.setIfInBounds_toArray, List.set_cons_zero, List.set_cons_succ, i64_w, i32_w]
       rfl
      refine take_ (i := 1) (N := some 52) (v := ?_) (a' := ?_) (bz 5 3) rfl rfl (by kernel_rfl) (fun _ _ _ h => h) (Or.inl ⟨by rfl, ?_⟩) hHeld ?_ ?_
      rotate_left
      ·rintro w' ⟨s0, s1, s2, s3, s4, s5⟩
       go_simp
       with_reducible rfl
      rotate_left
      ·simp only [Act.put, List.setIfInBounds_toArray, List.set_cons_zero, List.set_cons_succ, i64_w, i32_w]
       rfl
      refine one_ (i := 2) (N := some 53) (bz 5 7) rfl rfl (by kernel_rfl) (by decide) (fun K hK => ?_)
      refine goes_ Try.func11 (by kernel_rfl) rfl #[.agg #[.int .i64 a1_0, .int .i64 a1_1, .slice A1_2 l1_2.length c1_2]] (by rfl) rfl rfl aE ?_
      with_reducible refine (laws_toCloud.calls kj16 a1_0 a1_1 _ _ l1_2 t383 t384 t385 _ ?side1 ?side2 A76.out).mono ?_
      (case side1 => exact cU (Kd.C_below HR1_2.out HB.out))
      (case side2 => exact HC1_2.out)
      rintro e w82 ⟨v386, rfl, ho0, hb⟩
      refine ⟨_, rfl, ?_⟩
      have HO387 := Aside0.mk (Kd.R_lower (Kd.R_new' (Kd.R_new' (Kd.R_new' ho0 (Kd.R_lt (rU HO_362002.out))) (Kd.R_lt (rU HO_368002.out))) (Kd.R_lt (rU HO_382002.out))) (below_size (lV5 GE340 GE341 GE361 GE367 GE381)))
      replace HO_362002 := Aside0.mk (Kd.R_elder' (rU HO_362002.out) (Kd.R_base ho0) hb)
      replace HO_368002 := Aside0.mk (Kd.R_elder' (rU HO_368002.out) (Kd.R_base ho0) hb)
      replace HO_382002 := Aside0.mk (Kd.R_elder' (rU HO_382002.out) (Kd.R_base ho0) hb)
      replace BK340 := bB (bV BK340) hb
      replace BK341 := bB (bV BK341) hb
      replace BK361 := bB (bV BK361) hb
      replace BK367 := bB (bV BK367) hb
      replace BK381 := bB (bV BK381) hb
      replace HB := bH (lV5 GE340 GE341 GE361 GE367 GE381) hb
      (try clear hb)
      (try clear hb2)
      (try clear hk)
      (try clear hi)
      (try clear ho0)
      obtain ⟨Ao83, co83, eo83⟩ := Kd.R_slice HO387.out
      (first | subst eo83 | (injection eo83 with f1_ f2_ f3_; have f4_ := f1_.symm; have f5_ := f3_.symm; clear f1_ f2_ f3_; subst f4_; subst f5_))
      refine hK.out _ _ ⟨cz BK367 0 _, cz BK367 1 _, cz BK367 2 _, cz BK341 0 _, cz BK341 1 _, cz BK341 2 _⟩ (fun hHeld => ?_)
      clear hK K
      refine norm_ (a' := ?_) ?_ ?_
      rotate_left
      ·show Act.put _ (some 53) _ = _
       simp only [Act.put, List.setIfInBounds_toArray, List.set_cons_zero, List.set_cons_succ, i64_w, i32_w]
       rfl
      refine one_ (i := 3) (N := some 54) (bz 5 15) rfl rfl (by kernel_rfl) (by decide) (fun K hK => ?_)
      refine goes_ Try.func13 (by kernel_rfl) rfl #[.agg #[.int .i64 t362, .int .i64 t363, .slice Ao42 t364.length co42], .agg #[.int .i64 t383, .int .i64 t384, .slice Ao83 t385.length co83]] (by rfl) rfl rfl aE ?_
      with_reducible refine (laws_eqCloud.calls kj16 t362 t363 _ _ t364 t383 t384 _ _ t385 true _ ?side1 ?side2 ?side3 ?side4 A77.out).mono ?_
      (case side1 => exact cU (Kd.R_reads' HO_368002.out).2.2)
      (case side2 => exact (Kd.R_reads' HO_368002.out).2.1)
      (case side3 => exact cU (Kd.R_reads' HO387.out).2.2)
      (case side4 => exact (Kd.R_reads' HO387.out).2.1)
      rintro e w84 ⟨rfl, hb⟩
      refine ⟨_, rfl, ?_⟩
      replace HO_362002 := Aside0.mk (Kd.R_below (rU HO_362002.out) hb)
      replace HO_368002 := Aside0.mk (Kd.R_below (rU HO_368002.out) hb)
      replace HO_382002 := Aside0.mk (Kd.R_below (rU HO_382002.out) hb)
      replace HO387 := Aside0.mk (Kd.R_below (rU HO387.out) hb)
      replace BK340 := bB (bV BK340) hb
      replace BK341 := bB (bV BK341) hb
      replace BK361 := bB (bV BK361) hb
      replace BK367 := bB (bV BK367) hb
      replace BK381 := bB (bV BK381) hb
      replace HB := bH (lV5 GE340 GE341 GE361 GE367 GE381) hb
      (try clear hb)
      (try clear hb2)
      (try clear hk)
      (try clear hi)
      refine hK.out _ _ ⟨cz BK367 0 _, cz BK367 1 _, cz BK367 2 _, cz BK341 0 _, cz BK341 1 _, cz BK341 2 _⟩ (fun hHeld => ?_)
      clear hK K
      refine norm_ (a' := ?_) ?_ ?_
      rotate_left
      ·show Act.put _ (some 54) _ = _
       simp only [Act.put, List.setIfInBounds_toArray, List.set_cons_zero, List.set_cons_succ, i64_w, i32_w]
       rfl
      refine pure_ (i := 4) (N := some 55) (v := ?_) (a' := ?_) (bz 5 31) rfl rfl (by kernel_rfl) (fun _ _ _ h => h) (Or.inl ⟨by rfl, ?_⟩) ?_ ?_
      rotate_left
      ·intro w'
       go_simp
       with_reducible rfl
      rotate_left
      ·simp only [Act.put, List.setIfInBounds_toArray, List.set_cons_zero, List.set_cons_succ, i64_w, i32_w]
       rfl
      refine done_ (by kernel_rfl) ?_
      have hnb85 := NB367_340.out
      have hnc85 := NB340_367.out
      have hnb86 := NB367_341.out
      have hnc86 := NB341_367.out
      have hnb87 := NB367_361.out
      have hnc87 := NB361_367.out
      have hnb88 := NB367_381.out
      have hnc88 := NB381_367.out
      have hcz89_0 := cz BK367 0 (.int .i64 t362)
      have hcz89_1 := cz BK367 1 (.int .i64 t363)
      have hcz89_2 := cz BK367 2 (.slice Ao42 t364.length co42)
      have hfz89_0 := fz BK367 0
      have hfz89_1 := fz BK367 1
      have hfz89_2 := fz BK367 2
      go_upto_region 14 with (first | ((with_reducible refine gate_callee (f := 14) rfl ?_); refine goesL_ (some 58) rfl rfl Try.func14 (by kernel_rfl) rfl #[.agg #[.int .i64 t362, .int .i64 t363, .slice Ao42 t364.length co42], .int .i64 1] rfl aE ?_; (with_reducible refine (laws_markCloud.calls kj16 t362 t363 (fun k_ => some k_ = (.slice Ao42 t364.length co42 : Value).ownBlock) (.slice Ao42 t364.length co42) t364 1 t389 t390 w _ ?side1 ?side2 A79.out).mono ?_); (case side1 => repeat (first | (with_reducible first | exact HB.out | apply below_alloc | apply pw_below_drewN | apply below_drew1 | refine below_set ?_ GE340.out | refine below_set ?_ GE341.out | refine below_set ?_ GE361.out | refine below_set ?_ GE367.out | refine below_set ?_ GE381.out) | exact HB.out)); (case side2 => exact Kd.R_tight rfl HO_368002.out); rintro e w90 ⟨rfl, hy0, hb, hkp⟩; refine ⟨_, rfl, ?_⟩; replace HO_362002 := Aside0.mk (Kd.R_mono (ok' := fun k_ => some k_ ≠ (.slice Ao42 t364.length co42 : Value).ownBlock ∧ some k_ ≠ (.slice Ao51 t377.length co51 : Value).ownBlock ∧ some k_ ≠ (.slice Ao83 t385.length co83 : Value).ownBlock) (Kd.R_keptB (HO_362002.out) hkp (fun k_ hk_ hs_ => (hk_.1.1) hs_)) (fun k_ hk_ => ⟨hk_.1.1.1, hk_.1.1.2, hk_.1.2⟩)); replace HO_382002 := Aside0.mk (Kd.R_mono (ok' := fun k_ => some k_ ≠ (.slice Ao32 t357.length co32 : Value).ownBlock ∧ some k_ ≠ (.slice Ao42 t364.length co42 : Value).ownBlock ∧ some k_ ≠ (.slice Ao83 t385.length co83 : Value).ownBlock) (Kd.R_keptB (HO_382002.out) hkp (fun k_ hk_ hs_ => (hk_.1.2) hs_)) (fun k_ hk_ => ⟨hk_.1.1.1, hk_.1.1.2, hk_.1.2⟩)); replace BK340 := Aside0.mk (blk_kept (bV BK340) hkp (fun hs_ => (fun e_ => (Kd.R_ne HO_368002.out BK340.out (by decide)) e_) hs_)); replace BK341 := Aside0.mk (blk_kept (bV BK341) hkp (fun hs_ => (fun e_ => (Kd.R_ne HO_368002.out BK341.out (by decide)) e_) hs_)); replace BK361 := Aside0.mk (blk_kept (bV BK361) hkp (fun hs_ => (fun e_ => (Kd.R_ne HO_368002.out BK361.out (by decide)) e_) hs_)); replace BK367 := Aside0.mk (blk_kept (bV BK367) hkp (fun hs_ => (fun e_ => (Kd.R_ne HO_368002.out BK367.out (by decide)) e_) hs_)); replace BK381 := Aside0.mk (blk_kept (bV BK381) hkp (fun hs_ => (fun e_ => (Kd.R_ne HO_368002.out BK381.out (by decide)) e_) hs_)); replace HO_368002 := Aside0.mk (Kd.R_reok rfl hy0 (fun k_ e_ => HO_368002.out.1 k_ e_)); replace HO387 := Aside0.mk (Kd.R_mono (ok' := fun k_ => some k_ ≠ (.slice Ao32 t357.length co32 : Value).ownBlock ∧ some k_ ≠ (.slice Ao42 t364.length co42 : Value).ownBlock ∧ some k_ ≠ (.slice Ao51 t377.length co51 : Value).ownBlock) (Kd.R_keptB (HO387.out) hkp (fun k_ hk_ hs_ => (hk_.1.2) hs_)) (fun k_ hk_ => ⟨hk_.1.1.1.2, hk_.1.1.2, hk_.1.2⟩)); replace HB := Aside0.mk hb; (try clear hb); (try clear hkp); (try clear hy0)))
      (try simp only [Act.put, List.setIfInBounds_toArray, List.set_cons_zero, List.set_cons_succ])
      go_cut [71] (fun v71 wc => ∃ (kq : Nat) (x71_79 : Bool), v71 = .bool x71_79 ∧ Aside0 (laws_FnExactRunCloud.j1 kq a2 t360 x71_79 a0_0 a0_1 a0_2 a0_3 a0_4 a0_5 a0_6 a1_0 a1_1 l1_2 t355 t356 t357 t375 t376 t377 = some r) ∧ Aside0 (kq ≤ kj16) ∧ Aside0 (Kd.R k48 48 wc w.heap.size (fun k_ => some k_ ≠ ((.slice Ao42 t364.length co42) : Value).ownBlock ∧ some k_ ≠ ((.slice Ao51 t377.length co51) : Value).ownBlock) (.slice Ao32 t357.length co32) t357) ∧ Aside0 (Kd.R k48 48 wc w.heap.size (fun k_ => some k_ ≠ ((.slice Ao32 t357.length co32) : Value).ownBlock ∧ some k_ ≠ ((.slice Ao51 t377.length co51) : Value).ownBlock) (.slice Ao42 t364.length co42) t390) ∧ Aside0 (Kd.R k48 48 wc w.heap.size (fun k_ => some k_ ≠ ((.slice Ao32 t357.length co32) : Value).ownBlock ∧ some k_ ≠ ((.slice Ao42 t364.length co42) : Value).ownBlock) (.slice Ao51 t377.length co51) t377) ∧ Aside0 (wc.heap[gb340]? = some (.cells #[.int .i64 a0_0, .int .i64 a0_1, .int .i64 a0_2, .int .i64 a0_3, .int .i64 a0_4, .int .i64 a0_5, .int .i64 a0_6] 23 (0, 0))) ∧ Aside0 (wc.heap[gb341]? = some (.cells #[.int .i64 a1_0, .int .i64 a1_1, (.slice A1_2 l1_2.length c1_2)] 31 (0, 0))) ∧ Aside0 (wc.heap[gb361]? = some (.cells #[.int .i64 t355, .int .i64 t356, (.slice Ao32 t357.length co32)] 35 (0, 0))) ∧ Aside0 (wc.heap[gb367]? = some (.cells #[.int .i64 t362, .int .i64 t363, (.slice Ao42 t364.length co42)] 35 (0, 0))) ∧ Aside0 (wc.heap[gb381]? = some (.cells #[.int .i64 t375, .int .i64 t376, (.slice Ao51 t377.length co51)] 35 (0, 0))) ∧ Aside0 (Below w.heap.size w wc))
      case first =>
       have H := HC80.out
       clear HC80
       by_cases c91 : t389 < 0
       ·rw [if_pos c91] at H
        have c91b0 : decide (t389 < 0) = true := decide_eq_true c91
        clear c91
        (first | rw [c91b0] | (simp only [i64_w, i32_w]; rw [c91b0]) | (rw [c91b2]; simp only [Bool.not_false, Bool.not_true]) | skip)
        have H' := Aside0.mk H
        clear H
        go_wp2
        go_meet
        case rel => exact ⟨_, (true), tE, H', ⟨by have := HJ16.out; first | omega | exact Nat.le_refl _⟩, ⟨by (with_reducible repeat (first | apply Kd.R_alloc | apply Kd.R_drewN | apply Kd.R_drew)); exact Kd.R_mono HO_362002.out (fun _ hk => ⟨hk.1, hk.2.1⟩)⟩, ⟨by (with_reducible repeat (first | apply Kd.R_alloc | apply Kd.R_drewN | apply Kd.R_drew)); exact Kd.R_mono HO_368002.out (fun _ hk => ⟨hk.1.1, hk.1.2⟩)⟩, ⟨by (with_reducible repeat (first | apply Kd.R_alloc | apply Kd.R_drewN | apply Kd.R_drew)); exact Kd.R_mono HO_382002.out (fun _ hk => ⟨hk.1, hk.2.1⟩)⟩, ⟨by refine bU ?_; exact BK340.out⟩, ⟨by refine bU ?_; exact BK341.out⟩, ⟨by refine bU ?_; exact BK361.out⟩, ⟨by refine bU ?_; exact BK367.out⟩, ⟨by refine bU ?_; exact BK381.out⟩, ⟨by repeat (first | (with_reducible first | exact HB.out | apply below_alloc | apply pw_below_drewN | apply below_drew1 | refine below_set ?_ GE340.out | refine below_set ?_ GE341.out | refine below_set ?_ GE361.out | refine below_set ?_ GE367.out | refine below_set ?_ GE381.out) | exact HB.out)⟩⟩
       ·rw [if_neg c91] at H
        have c91b0 : decide (t389 < 0) = false := decide_eq_false c91
        clear c91
        (first | rw [c91b0] | (simp only [i64_w, i32_w]; rw [c91b0]) | (rw [c91b2]; simp only [Bool.not_false, Bool.not_true]) | skip)
        replace H := Option.bind_eq_some_iff.mp H
        obtain ⟨t391, A920, H⟩ := H
        replace H : (if t391 = true then (laws_FnExactRunCloud.j1 kj16 a2 t360 (t380 != t360) a0_0 a0_1 a0_2 a0_3 a0_4 a0_5 a0_6 a1_0 a1_1 l1_2 t355 t356 t357 t375 t376 t377) else (laws_FnExactRunCloud.j1 kj16 a2 t360 true a0_0 a0_1 a0_2 a0_3 a0_4 a0_5 a0_6 a1_0 a1_1 l1_2 t355 t356 t357 t375 t376 t377)) = some r := H
        have A92 := Aside0.mk A920
        clear A920
        by_cases c93 : t391 = true
        ·subst c93
         have H1 : (laws_FnExactRunCloud.j1 kj16 a2 t360 (t380 != t360) a0_0 a0_1 a0_2 a0_3 a0_4 a0_5 a0_6 a1_0 a1_1 l1_2 t355 t356 t357 t375 t376 t377) = some r := by rw [if_pos rfl] at H; exact H
         clear H
         have H := H1
         clear H1
         have H' := Aside0.mk H
         clear H
         have hnb94 := NB381_340.out
         have hnc94 := NB340_381.out
         have hnb95 := NB381_341.out
         have hnc95 := NB341_381.out
         have hnb96 := NB381_361.out
         have hnc96 := NB361_381.out
         have hnb97 := NB381_367.out
         have hnc97 := NB367_381.out
         have hcz98_0 := cz BK381 0 (.int .i64 t375)
         have hcz98_1 := cz BK381 1 (.int .i64 t376)
         have hcz98_2 := cz BK381 2 (.slice Ao51 t377.length co51)
         have hfz98_0 := fz BK381 0
         have hfz98_1 := fz BK381 1
         have hfz98_2 := fz BK381 2
         have hnb99 := NB361_340.out
         have hnc99 := NB340_361.out
         have hnb100 := NB361_341.out
         have hnc100 := NB341_361.out
         have hnb101 := NB361_367.out
         have hnc101 := NB367_361.out
         have hcz102_0 := cz BK361 0 (.int .i64 t355)
         have hcz102_1 := cz BK361 1 (.int .i64 t356)
         have hcz102_2 := cz BK361 2 (.slice Ao32 t357.length co32)
         have hfz102_0 := fz BK361 0
         have hfz102_1 := fz BK361 1
         have hfz102_2 := fz BK361 2
         go_wp2_with (first | (go_at_call 13; (with_reducible refine (laws_eqCloud.calls kj16 t375 t376 _ _ t377 t355 t356 _ _ t357 true _ ?side1 ?side2 ?side3 ?side4 A92.out).mono ?_); (case side1 => exact cU (Kd.R_reads' HO_382002.out).2.2); (case side2 => exact (Kd.R_reads' HO_382002.out).2.1); (case side3 => exact cU (Kd.R_reads' HO_362002.out).2.2); (case side4 => exact (Kd.R_reads' HO_362002.out).2.1); rintro e w103 ⟨rfl, hb⟩; replace HO_362002 := Aside0.mk (Kd.R_below (rU HO_362002.out) hb); replace HO_368002 := Aside0.mk (Kd.R_below (rU HO_368002.out) hb); replace HO_382002 := Aside0.mk (Kd.R_below (rU HO_382002.out) hb); replace HO387 := Aside0.mk (Kd.R_below (rU HO387.out) hb); replace BK340 := bB (bV BK340) hb; replace BK341 := bB (bV BK341) hb; replace BK361 := bB (bV BK361) hb; replace BK367 := bB (bV BK367) hb; replace BK381 := bB (bV BK381) hb; replace HB := bH (lV5 GE340 GE341 GE361 GE367 GE381) hb; (try clear hb)))
         go_meet
         case rel => exact ⟨_, ((t380 != t360)), tE, H', ⟨by have := HJ16.out; first | omega | exact Nat.le_refl _⟩, ⟨by (with_reducible repeat (first | apply Kd.R_alloc | apply Kd.R_drewN | apply Kd.R_drew)); exact Kd.R_mono HO_362002.out (fun _ hk => ⟨hk.1, hk.2.1⟩)⟩, ⟨by (with_reducible repeat (first | apply Kd.R_alloc | apply Kd.R_drewN | apply Kd.R_drew)); exact Kd.R_mono HO_368002.out (fun _ hk => ⟨hk.1.1, hk.1.2⟩)⟩, ⟨by (with_reducible repeat (first | apply Kd.R_alloc | apply Kd.R_drewN | apply Kd.R_drew)); exact Kd.R_mono HO_382002.out (fun _ hk => ⟨hk.1, hk.2.1⟩)⟩, ⟨by refine bU ?_; exact BK340.out⟩, ⟨by refine bU ?_; exact BK341.out⟩, ⟨by refine bU ?_; exact BK361.out⟩, ⟨by refine bU ?_; exact BK367.out⟩, ⟨by refine bU ?_; exact BK381.out⟩, ⟨by repeat (first | (with_reducible first | exact HB.out | apply below_alloc | apply pw_below_drewN | apply below_drew1 | refine below_set ?_ GE340.out | refine below_set ?_ GE341.out | refine below_set ?_ GE361.out | refine below_set ?_ GE367.out | refine below_set ?_ GE381.out) | exact HB.out)⟩⟩
        ·replace c93 := Bool.eq_false_iff.mpr c93
         subst c93
         have H1 : (laws_FnExactRunCloud.j1 kj16 a2 t360 true a0_0 a0_1 a0_2 a0_3 a0_4 a0_5 a0_6 a1_0 a1_1 l1_2 t355 t356 t357 t375 t376 t377) = some r := by rw [if_neg (show ¬ (false = true) by decide)] at H; exact H
         clear H
         have H := H1
         clear H1
         have H' := Aside0.mk H
         clear H
         have hnb104 := NB381_340.out
         have hnc104 := NB340_381.out
         have hnb105 := NB381_341.out
         have hnc105 := NB341_381.out
         have hnb106 := NB381_361.out
         have hnc106 := NB361_381.out
         have hnb107 := NB381_367.out
         have hnc107 := NB367_381.out
         have hcz108_0 := cz BK381 0 (.int .i64 t375)
         have hcz108_1 := cz BK381 1 (.int .i64 t376)
         have hcz108_2 := cz BK381 2 (.slice Ao51 t377.length co51)
         have hfz108_0 := fz BK381 0
         have hfz108_1 := fz BK381 1
         have hfz108_2 := fz BK381 2
         have hnb109 := NB361_340.out
         have hnc109 := NB340_361.out
         have hnb110 := NB361_341.out
         have hnc110 := NB341_361.out
         have hnb111 := NB361_367.out
         have hnc111 := NB367_361.out
         have hcz112_0 := cz BK361 0 (.int .i64 t355)
         have hcz112_1 := cz BK361 1 (.int .i64 t356)
         have hcz112_2 := cz BK361 2 (.slice Ao32 t357.length co32)
         have hfz112_0 := fz BK361 0
         have hfz112_1 := fz BK361 1
         have hfz112_2 := fz BK361 2
         go_wp2_with (first | (go_at_call 13; (with_reducible refine (laws_eqCloud.calls kj16 t375 t376 _ _ t377 t355 t356 _ _ t357 false _ ?side1 ?side2 ?side3 ?side4 A92.out).mono ?_); (case side1 => exact cU (Kd.R_reads' HO_382002.out).2.2); (case side2 => exact (Kd.R_reads' HO_382002.out).2.1); (case side3 => exact cU (Kd.R_reads' HO_362002.out).2.2); (case side4 => exact (Kd.R_reads' HO_362002.out).2.1); rintro e w113 ⟨rfl, hb⟩; replace HO_362002 := Aside0.mk (Kd.R_below (rU HO_362002.out) hb); replace HO_368002 := Aside0.mk (Kd.R_below (rU HO_368002.out) hb); replace HO_382002 := Aside0.mk (Kd.R_below (rU HO_382002.out) hb); replace HO387 := Aside0.mk (Kd.R_below (rU HO387.out) hb); replace BK340 := bB (bV BK340) hb; replace BK341 := bB (bV BK341) hb; replace BK361 := bB (bV BK361) hb; replace BK367 := bB (bV BK367) hb; replace BK381 := bB (bV BK381) hb; replace HB := bH (lV5 GE340 GE341 GE361 GE367 GE381) hb; (try clear hb)))
         go_meet
         case rel => exact ⟨_, (true), tE, H', ⟨by have := HJ16.out; first | omega | exact Nat.le_refl _⟩, ⟨by (with_reducible repeat (first | apply Kd.R_alloc | apply Kd.R_drewN | apply Kd.R_drew)); exact Kd.R_mono HO_362002.out (fun _ hk => ⟨hk.1, hk.2.1⟩)⟩, ⟨by (with_reducible repeat (first | apply Kd.R_alloc | apply Kd.R_drewN | apply Kd.R_drew)); exact Kd.R_mono HO_368002.out (fun _ hk => ⟨hk.1.1, hk.1.2⟩)⟩, ⟨by (with_reducible repeat (first | apply Kd.R_alloc | apply Kd.R_drewN | apply Kd.R_drew)); exact Kd.R_mono HO_382002.out (fun _ hk => ⟨hk.1, hk.2.1⟩)⟩, ⟨by refine bU ?_; exact BK340.out⟩, ⟨by refine bU ?_; exact BK341.out⟩, ⟨by refine bU ?_; exact BK361.out⟩, ⟨by refine bU ?_; exact BK367.out⟩, ⟨by refine bU ?_; exact BK381.out⟩, ⟨by repeat (first | (with_reducible first | exact HB.out | apply below_alloc | apply pw_below_drewN | apply below_drew1 | refine below_set ?_ GE340.out | refine below_set ?_ GE341.out | refine below_set ?_ GE361.out | refine below_set ?_ GE367.out | refine below_set ?_ GE381.out) | exact HB.out)⟩⟩
      case rest =>
       clear HC80
       try clear c1
       try clear p2
       try clear c5
       try clear c6
       try clear c7
       try clear c8
       try clear c9
       try clear c10
       try clear c11
       try clear c13
       try clear c14
       try clear c17
       try clear c54
       try clear c55
       try clear c56
       try clear c57
       try clear c58
       try clear c60
       try clear c61
       try clear c62
       try clear c65
       try clear c66
       try clear c67
       try clear c68
       try clear c70
       try clear c71
       try clear c72
       try clear c75
       try clear c78
       try clear c85
       try clear c86
       try clear c87
       try clear c88
       try clear c91
       try clear c91b0
       try clear c91b2
       try clear c93
       try clear c94
       try clear c95
       try clear c96
       try clear c97
       try clear c99
       try clear c100
       try clear c101
       try clear c104
       try clear c105
       try clear c106
       try clear c107
       try clear c109
       try clear c110
       try clear c111
       try clear hcz102_0
       try clear hcz102_1
       try clear hcz102_2
       try clear hcz108_0
       try clear hcz108_1
       try clear hcz108_2
       try clear hcz112_0
       try clear hcz112_1
       try clear hcz112_2
       try clear hcz59_0
       try clear hcz59_1
       try clear hcz59_2
       try clear hcz63_0
       try clear hcz63_1
       try clear hcz63_2
       try clear hcz69_0
       try clear hcz69_1
       try clear hcz69_2
       try clear hcz73_0
       try clear hcz73_1
       try clear hcz73_2
       try clear hcz89_0
       try clear hcz89_1
       try clear hcz89_2
       try clear hcz98_0
       try clear hcz98_1
       try clear hcz98_2
       try clear hfz102_0
       try clear hfz102_1
       try clear hfz102_2
       try clear hfz108_0
       try clear hfz108_1
       try clear hfz108_2
       try clear hfz112_0
       try clear hfz112_1
       try clear hfz112_2
       try clear hfz59_0
       try clear hfz59_1
       try clear hfz59_2
       try clear hfz63_0
       try clear hfz63_1
       try clear hfz63_2
       try clear hfz69_0
       try clear hfz69_1
       try clear hfz69_2
       try clear hfz73_0
       try clear hfz73_1
       try clear hfz73_2
       try clear hfz89_0
       try clear hfz89_1
       try clear hfz89_2
       try clear hfz98_0
       try clear hfz98_1
       try clear hfz98_2
       try clear p2
       obtain ⟨kq, x71_79, rfl, HA, HJ79, HO_362002, HO_368002, HO_382002, BK340, BK341, BK361, BK367, BK381, HB⟩ := hcut
       have hl368002_79 := (Kd.R_reads' HO_368002.out).1
       rw [hl368002_79] at HO_368002
       (try simp only [hl368002_79])
       (try simp only [hl368002_79] at BK340)
       (try simp only [hl368002_79] at BK341)
       (try simp only [hl368002_79] at BK361)
       (try simp only [hl368002_79] at BK367)
       (try simp only [hl368002_79] at BK381)
       (try simp only [hl368002_79] at HO_362002)
       (try simp only [hl368002_79] at HO_382002)
       cases kq with
       | zero => exact absurd HA.out (by simp [laws_FnExactRunCloud.j1])
       | succ kj79 =>
        have H := HA.out
        clear HA
        simp only [laws_FnExactRunCloud.j1] at H
        by_cases c114 : x71_79 = true
        ·subst c114
         have H1 : (some false) = some r := by rw [if_pos rfl] at H; exact H
         clear H
         have H := H1
         clear H1
         obtain rfl := Option.some.inj H
         go_wp2
         go_ret
         exact ⟨eE, lV5 GE340 GE341 GE361 GE367 GE381⟩
        ·replace c114 := Bool.eq_false_iff.mpr c114
         subst c114
         have H1 : ((laws_markCloud.f kj79 t375 t376 t377 1).bind fun bt392 => ((laws_heldCloud.f kj79 t375 t376 bt392.2 1).bind fun t394 => (if t394 < 0 then (some false) else (if t394 = bt392.1 then ((laws_toEmitter.f a0_0 a0_1 a0_2 a0_3 a0_4 a0_5 a0_6).bind fun bt395 => ((laws_toCloud.f kj79 a1_0 a1_1 l1_2).bind fun bt402 => ((impl_RunCloud.f kj79 bt395.1 bt395.2.1 bt395.2.2.1 bt395.2.2.2.1 bt395.2.2.2.2.1 bt395.2.2.2.2.2.1 bt395.2.2.2.2.2.2 bt402.1 bt402.2.1 bt402.2.2 a2).bind fun bt407 => ((laws_eqCloud.f kj79 bt407.1 bt407.2.1 bt407.2.2.1 t355 t356 t357).bind fun t414 => (if t414 = true then (laws_FnExactRunCloud.j2 kj79 bt392.1 (bt407.2.2.2 != t360) t375 t376 bt392.2) else (laws_FnExactRunCloud.j2 kj79 bt392.1 true t375 t376 bt392.2)))))) else (some false))))) = some r := by rw [if_neg (show ¬ (false = true) by decide)] at H; exact H
         clear H
         have H := H1
         clear H1
         replace H := Option.bind_eq_some_iff.mp H
         obtain ⟨⟨t392, t393⟩, A1150, H⟩ := H
         replace H : ((laws_heldCloud.f kj79 t375 t376 t393 1).bind fun t394 => (if t394 < 0 then (some false) else (if t394 = t392 then ((laws_toEmitter.f a0_0 a0_1 a0_2 a0_3 a0_4 a0_5 a0_6).bind fun bt395 => ((laws_toCloud.f kj79 a1_0 a1_1 l1_2).bind fun bt402 => ((impl_RunCloud.f kj79 bt395.1 bt395.2.1 bt395.2.2.1 bt395.2.2.2.1 bt395.2.2.2.2.1 bt395.2.2.2.2.2.1 bt395.2.2.2.2.2.2 bt402.1 bt402.2.1 bt402.2.2 a2).bind fun bt407 => ((laws_eqCloud.f kj79 bt407.1 bt407.2.1 bt407.2.2.1 t355 t356 t357).bind fun t414 => (if t414 = true then (laws_FnExactRunCloud.j2 kj79 t392 (bt407.2.2.2 != t360) t375 t376 t393) else (laws_FnExactRunCloud.j2 kj79 t392 true t375 t376 t393)))))) else (some false)))) = some r := H
         have A115 := Aside0.mk A1150
         clear A1150
         replace H := Option.bind_eq_some_iff.mp H
         obtain ⟨t394, A1160, H⟩ := H
         replace H : (if t394 < 0 then (some false) else (if t394 = t392 then ((laws_toEmitter.f a0_0 a0_1 a0_2 a0_3 a0_4 a0_5 a0_6).bind fun bt395 => ((laws_toCloud.f kj79 a1_0 a1_1 l1_2).bind fun bt402 => ((impl_RunCloud.f kj79 bt395.1 bt395.2.1 bt395.2.2.1 bt395.2.2.2.1 bt395.2.2.2.2.1 bt395.2.2.2.2.2.1 bt395.2.2.2.2.2.2 bt402.1 bt402.2.1 bt402.2.2 a2).bind fun bt407 => ((laws_eqCloud.f kj79 bt407.1 bt407.2.1 bt407.2.2.1 t355 t356 t357).bind fun t414 => (if t414 = true then (laws_FnExactRunCloud.j2 kj79 t392 (bt407.2.2.2 != t360) t375 t376 t393) else (laws_FnExactRunCloud.j2 kj79 t392 true t375 t376 t393)))))) else (some false))) = some r := H
         have A116 := Aside0.mk A1160
         clear A1160
         by_cases c117 : t394 < 0
         ·rw [if_pos c117] at H
          have c117b0 : decide (t394 < 0) = true := decide_eq_true c117
          clear c117
          obtain rfl := Option.some.inj H
          have hnb118 := NB381_340.out
          have hnc118 := NB340_381.out
          have hnb119 := NB381_341.out
          have hnc119 := NB341_381.out
          have hnb120 := NB381_361.out
          have hnc120 := NB361_381.out
          have hnb121 := NB381_367.out
          have hnc121 := NB367_381.out
          have hcz122_0 := cz BK381 0 (.int .i64 t375)
          have hcz122_1 := cz BK381 1 (.int .i64 t376)
          have hcz122_2 := cz BK381 2 (.slice Ao51 t377.length co51)
          have hfz122_0 := fz BK381 0
          have hfz122_1 := fz BK381 1
          have hfz122_2 := fz BK381 2
          go_wp2_with (first | ((with_reducible refine gate_callee (f := 14) rfl ?_); refine goesL_ (some 74) rfl rfl Try.func14 (by kernel_rfl) rfl #[.agg #[.int .i64 t375, .int .i64 t376, .slice Ao51 t377.length co51], .int .i64 1] rfl aE ?_; (with_reducible refine (laws_markCloud.calls kj79 t375 t376 (fun k_ => some k_ = (.slice Ao51 t377.length co51 : Value).ownBlock) (.slice Ao51 t377.length co51) t377 1 t392 t393 w _ ?side1 ?side2 A115.out).mono ?_); (case side1 => repeat (first | (with_reducible first | exact HB.out | apply below_alloc | apply pw_below_drewN | apply below_drew1 | refine below_set ?_ GE340.out | refine below_set ?_ GE341.out | refine below_set ?_ GE361.out | refine below_set ?_ GE367.out | refine below_set ?_ GE381.out) | exact HB.out)); (case side2 => exact Kd.R_tight rfl HO_382002.out); rintro e w123 ⟨rfl, hy0, hb, hkp⟩; refine ⟨_, rfl, ?_⟩; replace HO_362002 := Aside0.mk (Kd.R_mono (ok' := fun k_ => some k_ ≠ (.slice Ao42 t390.length co42 : Value).ownBlock ∧ some k_ ≠ (.slice Ao51 t377.length co51 : Value).ownBlock) (Kd.R_keptB (HO_362002.out) hkp (fun k_ hk_ hs_ => (hk_.2) hs_)) (fun k_ hk_ => ⟨hk_.1.1, hk_.1.2⟩)); replace HO_368002 := Aside0.mk (Kd.R_mono (ok' := fun k_ => some k_ ≠ (.slice Ao32 t357.length co32 : Value).ownBlock ∧ some k_ ≠ (.slice Ao51 t377.length co51 : Value).ownBlock) (Kd.R_keptB (HO_368002.out) hkp (fun k_ hk_ hs_ => (hk_.2) hs_)) (fun k_ hk_ => ⟨hk_.1.1, hk_.1.2⟩)); replace BK340 := Aside0.mk (blk_kept (bV BK340) hkp (fun hs_ => (fun e_ => (Kd.R_ne HO_382002.out BK340.out (by decide)) e_) hs_)); replace BK341 := Aside0.mk (blk_kept (bV BK341) hkp (fun hs_ => (fun e_ => (Kd.R_ne HO_382002.out BK341.out (by decide)) e_) hs_)); replace BK361 := Aside0.mk (blk_kept (bV BK361) hkp (fun hs_ => (fun e_ => (Kd.R_ne HO_382002.out BK361.out (by decide)) e_) hs_)); replace BK367 := Aside0.mk (blk_kept (bV BK367) hkp (fun hs_ => (fun e_ => (Kd.R_ne HO_382002.out BK367.out (by decide)) e_) hs_)); replace BK381 := Aside0.mk (blk_kept (bV BK381) hkp (fun hs_ => (fun e_ => (Kd.R_ne HO_382002.out BK381.out (by decide)) e_) hs_)); replace HO_382002 := Aside0.mk (Kd.R_reok rfl hy0 (fun k_ e_ => HO_382002.out.1 k_ e_)); replace HB := Aside0.mk hb; (try clear hb); (try clear hkp); (try clear hy0); have hcz124_0 := cz BK381 0 (.int .i64 t375); have hcz124_1 := cz BK381 1 (.int .i64 t376); have hcz124_2 := cz BK381 2 (.slice Ao51 t377.length co51); have hfz124_0 := fz BK381 0; have hfz124_1 := fz BK381 1; have hfz124_2 := fz BK381 2) | ((with_reducible refine gate_callee (f := 15) rfl ?_); refine goesL_ (some 77) rfl rfl Try.func15 (by kernel_rfl) rfl #[.agg #[.int .i64 t375, .int .i64 t376, .slice Ao51 t393.length co51], .int .i64 1] rfl (by (try simp only [List.map_toArray, List.map_cons, List.map_nil]); first | done | (rw [show t393.length = t377.length from (Kd.R_reads' HO_382002.out).1.symm] <;> rfl) | rfl | (simp only [List.length_drop, List.length_take]; rfl)) ?_; (with_reducible refine (laws_heldCloud.calls kj79 t375 t376 _ _ t393 1 t394 _ ?side1 ?side2 A116.out).mono ?_); (case side1 => exact cU (Kd.R_reads' HO_382002.out).2.2); (case side2 => rw [show t393.length = t377.length from (Kd.R_reads' HO_382002.out).1.symm]; exact (Kd.R_reads' HO_382002.out).2.1); rintro e w125 ⟨rfl, hb⟩; refine ⟨_, rfl, ?_⟩; replace HO_362002 := Aside0.mk (Kd.R_below (rU HO_362002.out) hb); replace HO_368002 := Aside0.mk (Kd.R_below (rU HO_368002.out) hb); replace HO_382002 := Aside0.mk (Kd.R_below (rU HO_382002.out) hb); replace BK340 := bB (bV BK340) hb; replace BK341 := bB (bV BK341) hb; replace BK361 := bB (bV BK361) hb; replace BK367 := bB (bV BK367) hb; replace BK381 := bB (bV BK381) hb; replace HB := bH (lV5 GE340 GE341 GE361 GE367 GE381) hb; (try clear hb)))
          go_ret
          exact ⟨eE, lV5 GE340 GE341 GE361 GE367 GE381⟩
         ·rw [if_neg c117] at H
          have c117b0 : decide (t394 < 0) = false := decide_eq_false c117
          clear c117
          by_cases c126 : t394 = t392
          ·rw [if_pos c126] at H
           have c126b0 : (t394 == t392) = true := beq_iff_eq.mpr c126
           have c126b1 : (t394 != t392) = false := bne_eq_false_iff_eq.mpr c126
           clear c126
           replace H := Option.bind_eq_some_iff.mp H
           obtain ⟨⟨t395, t396, t397, t398, t399, t400, t401⟩, A1270, H⟩ := H
           replace H : ((laws_toCloud.f kj79 a1_0 a1_1 l1_2).bind fun bt402 => ((impl_RunCloud.f kj79 t395 t396 t397 t398 t399 t400 t401 bt402.1 bt402.2.1 bt402.2.2 a2).bind fun bt407 => ((laws_eqCloud.f kj79 bt407.1 bt407.2.1 bt407.2.2.1 t355 t356 t357).bind fun t414 => (if t414 = true then (laws_FnExactRunCloud.j2 kj79 t392 (bt407.2.2.2 != t360) t375 t376 t393) else (laws_FnExactRunCloud.j2 kj79 t392 true t375 t376 t393))))) = some r := H
           have A127 := Aside0.mk A1270
           clear A1270
           replace H := Option.bind_eq_some_iff.mp H
           obtain ⟨⟨t402, t403, t404⟩, A1280, H⟩ := H
           replace H : ((impl_RunCloud.f kj79 t395 t396 t397 t398 t399 t400 t401 t402 t403 t404 a2).bind fun bt407 => ((laws_eqCloud.f kj79 bt407.1 bt407.2.1 bt407.2.2.1 t355 t356 t357).bind fun t414 => (if t414 = true then (laws_FnExactRunCloud.j2 kj79 t392 (bt407.2.2.2 != t360) t375 t376 t393) else (laws_FnExactRunCloud.j2 kj79 t392 true t375 t376 t393)))) = some r := H
           have A128 := Aside0.mk A1280
           clear A1280
           replace H := Option.bind_eq_some_iff.mp H
           obtain ⟨⟨t407, t408, t409, t412⟩, A1290, H⟩ := H
           replace H : ((laws_eqCloud.f kj79 t407 t408 t409 t355 t356 t357).bind fun t414 => (if t414 = true then (laws_FnExactRunCloud.j2 kj79 t392 (t412 != t360) t375 t376 t393) else (laws_FnExactRunCloud.j2 kj79 t392 true t375 t376 t393))) = some r := H
           have A129 := Aside0.mk A1290
           clear A1290
           have HC130 := Aside0.mk H
           clear H
           have hnb131 := NB381_340.out
           have hnc131 := NB340_381.out
           have hnb132 := NB381_341.out
           have hnc132 := NB341_381.out
           have hnb133 := NB381_361.out
           have hnc133 := NB361_381.out
           have hnb134 := NB381_367.out
           have hnc134 := NB367_381.out
           have hcz135_0 := cz BK381 0 (.int .i64 t375)
           have hcz135_1 := cz BK381 1 (.int .i64 t376)
           have hcz135_2 := cz BK381 2 (.slice Ao51 t377.length co51)
           have hfz135_0 := fz BK381 0
           have hfz135_1 := fz BK381 1
           have hfz135_2 := fz BK381 2
           try go_wp2_with (first | ((with_reducible refine gate_callee (f := 14) rfl ?_); refine goesL_ (some 74) rfl rfl Try.func14 (by kernel_rfl) rfl #[.agg #[.int .i64 t375, .int .i64 t376, .slice Ao51 t377.length co51], .int .i64 1] rfl aE ?_; (with_reducible refine (laws_markCloud.calls kj79 t375 t376 (fun k_ => some k_ = (.slice Ao51 t377.length co51 : Value).ownBlock) (.slice Ao51 t377.length co51) t377 1 t392 t393 w _ ?side1 ?side2 A115.out).mono ?_); (case side1 => repeat (first | (with_reducible first | exact HB.out | apply below_alloc | apply pw_below_drewN | apply below_drew1 | refine below_set ?_ GE340.out | refine below_set ?_ GE341.out | refine below_set ?_ GE361.out | refine below_set ?_ GE367.out | refine below_set ?_ GE381.out) | exact HB.out)); (case side2 => exact Kd.R_tight rfl HO_382002.out); rintro e w136 ⟨rfl, hy0, hb, hkp⟩; refine ⟨_, rfl, ?_⟩; replace HO_362002 := Aside0.mk (Kd.R_mono (ok' := fun k_ => some k_ ≠ (.slice Ao42 t390.length co42 : Value).ownBlock ∧ some k_ ≠ (.slice Ao51 t377.length co51 : Value).ownBlock) (Kd.R_keptB (HO_362002.out) hkp (fun k_ hk_ hs_ => (hk_.2) hs_)) (fun k_ hk_ => ⟨hk_.1.1, hk_.1.2⟩)); replace HO_368002 := Aside0.mk (Kd.R_mono (ok' := fun k_ => some k_ ≠ (.slice Ao32 t357.length co32 : Value).ownBlock ∧ some k_ ≠ (.slice Ao51 t377.length co51 : Value).ownBlock) (Kd.R_keptB (HO_368002.out) hkp (fun k_ hk_ hs_ => (hk_.2) hs_)) (fun k_ hk_ => ⟨hk_.1.1, hk_.1.2⟩)); replace BK340 := Aside0.mk (blk_kept (bV BK340) hkp (fun hs_ => (fun e_ => (Kd.R_ne HO_382002.out BK340.out (by decide)) e_) hs_)); replace BK341 := Aside0.mk (blk_kept (bV BK341) hkp (fun hs_ => (fun e_ => (Kd.R_ne HO_382002.out BK341.out (by decide)) e_) hs_)); replace BK361 := Aside0.mk (blk_kept (bV BK361) hkp (fun hs_ => (fun e_ => (Kd.R_ne HO_382002.out BK361.out (by decide)) e_) hs_)); replace BK367 := Aside0.mk (blk_kept (bV BK367) hkp (fun hs_ => (fun e_ => (Kd.R_ne HO_382002.out BK367.out (by decide)) e_) hs_)); replace BK381 := Aside0.mk (blk_kept (bV BK381) hkp (fun hs_ => (fun e_ => (Kd.R_ne HO_382002.out BK381.out (by decide)) e_) hs_)); replace HO_382002 := Aside0.mk (Kd.R_reok rfl hy0 (fun k_ e_ => HO_382002.out.1 k_ e_)); replace HB := Aside0.mk hb; (try clear hb); (try clear hkp); (try clear hy0); have hcz137_0 := cz BK381 0 (.int .i64 t375); have hcz137_1 := cz BK381 1 (.int .i64 t376); have hcz137_2 := cz BK381 2 (.slice Ao51 t377.length co51); have hfz137_0 := fz BK381 0; have hfz137_1 := fz BK381 1; have hfz137_2 := fz BK381 2) | ((with_reducible refine gate_callee (f := 15) rfl ?_); refine goesL_ (some 77) rfl rfl Try.func15 (by kernel_rfl) rfl #[.agg #[.int .i64 t375, .int .i64 t376, .slice Ao51 t393.length co51], .int .i64 1] rfl (by (try simp only [List.map_toArray, List.map_cons, List.map_nil]); first | done | (rw [show t393.length = t377.length from (Kd.R_reads' HO_382002.out).1.symm] <;> rfl) | rfl | (simp only [List.length_drop, List.length_take]; rfl)) ?_; (with_reducible refine (laws_heldCloud.calls kj79 t375 t376 _ _ t393 1 t394 _ ?side1 ?side2 A116.out).mono ?_); (case side1 => exact cU (Kd.R_reads' HO_382002.out).2.2); (case side2 => rw [show t393.length = t377.length from (Kd.R_reads' HO_382002.out).1.symm]; exact (Kd.R_reads' HO_382002.out).2.1); rintro e w138 ⟨rfl, hb⟩; refine ⟨_, rfl, ?_⟩; replace HO_362002 := Aside0.mk (Kd.R_below (rU HO_362002.out) hb); replace HO_368002 := Aside0.mk (Kd.R_below (rU HO_368002.out) hb); replace HO_382002 := Aside0.mk (Kd.R_below (rU HO_382002.out) hb); replace BK340 := bB (bV BK340) hb; replace BK341 := bB (bV BK341) hb; replace BK361 := bB (bV BK361) hb; replace BK367 := bB (bV BK367) hb; replace BK381 := bB (bV BK381) hb; replace HB := bH (lV5 GE340 GE341 GE361 GE367 GE381) hb; (try clear hb)))
           replace HO_362002 := Aside0.mk (Kd.R_drew HO_362002.out)
           replace HO_368002 := Aside0.mk (Kd.R_drew HO_368002.out)
           replace HO_382002 := Aside0.mk (Kd.R_drew HO_382002.out)
           replace BK340 := Aside0.mk (blk_drew BK340.out)
           replace BK341 := Aside0.mk (blk_drew BK341.out)
           replace BK361 := Aside0.mk (blk_drew BK361.out)
           replace BK367 := Aside0.mk (blk_drew BK367.out)
           replace BK381 := Aside0.mk (blk_drew BK381.out)
           replace HB := Aside0.mk (below_drew1 HB.out)
           refine start_ (n := 12) (S := fun w' => w'.cell? ⟨gb340, 0, none⟩ = some (.int .i64 a0_0) ∧ w'.cell? ⟨gb340, 1, none⟩ = some (.int .i64 a0_1) ∧ w'.cell? ⟨gb340, 2, none⟩ = some (.int .i64 a0_2) ∧ w'.cell? ⟨gb340, 3, none⟩ = some (.int .i64 a0_3) ∧ w'.cell? ⟨gb340, 4, none⟩ = some (.int .i64 a0_4) ∧ w'.cell? ⟨gb340, 5, none⟩ = some (.int .i64 a0_5) ∧ w'.cell? ⟨gb340, 6, none⟩ = some (.int .i64 a0_6) ∧ w'.cell? ⟨gb341, 0, none⟩ = some (.int .i64 a1_0) ∧ w'.cell? ⟨gb341, 1, none⟩ = some (.int .i64 a1_1) ∧ w'.cell? ⟨gb341, 2, none⟩ = some (.slice A1_2 l1_2.length c1_2)) (ds := []) #[false, false, false, false, false, false, false, false, false, false, false, false] (by kernel_rfl) rfl rfl ⟨cz BK340 0 _, cz BK340 1 _, cz BK340 2 _, cz BK340 3 _, cz BK340 4 _, cz BK340 5 _, cz BK340 6 _, cz BK341 0 _, cz BK341 1 _, cz BK341 2 _⟩ (fun hHeld => ?_); refine with_tabW laws_FnExactRunCloud.tab24 laws_FnExactRunCloud.bits24 (fun HT_ HW_ => ?_)
           generalize w138.drew = w139 at HO_362002 HO_368002 HO_382002 BK340 BK341 BK361 BK367 BK381 HB hHeld ⊢
           refine pureA 4 88 (bz 12 16) rfl rfl (any_of HT_.out (by kernel_rfl)) ?_
           refine takeA 0 84 (bz 12 17) rfl rfl (take_ofW HT_.out HW_.out (by kernel_rfl)) hHeld (by rintro w' ⟨s0, s1, s2, s3, s4, s5, s6, s7, s8, s9⟩; go_simp; with_reducible rfl) ?_
           refine takeA 2 86 (bz 12 21) rfl rfl (take_ofW HT_.out HW_.out (by kernel_rfl)) hHeld (by rintro w' ⟨s0, s1, s2, s3, s4, s5, s6, s7, s8, s9⟩; go_simp; with_reducible rfl) ?_
           refine join_ (σ := Value × Value × Nat) 2 #[true, true, true, true, true, true, true, true, true, true, false, false] (fun s_ => [(85, .agg #[.int .i64 t395, .int .i64 t396, .int .i64 t397, .int .i64 t398, .int .i64 t399, .int .i64 t400, .int .i64 t401]), (87, .agg #[.int .i64 t402, .int .i64 t403, s_.1]), (89, .tuple #[.agg #[.int .i64 t407, .int .i64 t408, s_.2.1], .bool t412]), (16, .pointer (some ⟨s_.2.2, 0, none⟩)), (83, .tuple #[.agg #[.int .i64 t407, .int .i64 t408, s_.2.1], .bool t412]), (90, .agg #[.int .i64 t407, .int .i64 t408, s_.2.1]), (91, .bool t412)]) (fun s_ w' => (w'.cell? ⟨gb340, 0, none⟩ = some (.int .i64 a0_0) ∧ w'.cell? ⟨gb340, 1, none⟩ = some (.int .i64 a0_1) ∧ w'.cell? ⟨gb340, 2, none⟩ = some (.int .i64 a0_2) ∧ w'.cell? ⟨gb340, 3, none⟩ = some (.int .i64 a0_3) ∧ w'.cell? ⟨gb340, 4, none⟩ = some (.int .i64 a0_4) ∧ w'.cell? ⟨gb340, 5, none⟩ = some (.int .i64 a0_5) ∧ w'.cell? ⟨gb340, 6, none⟩ = some (.int .i64 a0_6) ∧ w'.cell? ⟨gb341, 0, none⟩ = some (.int .i64 a1_0) ∧ w'.cell? ⟨gb341, 1, none⟩ = some (.int .i64 a1_1) ∧ w'.cell? ⟨gb341, 2, none⟩ = some (.slice A1_2 l1_2.length c1_2)) ∧ (Kd.R k48 48 w' w.heap.size (fun k_ => some k_ ≠ (s_.2.1 : Value).ownBlock ∧ some k_ ≠ (.slice Ao32 t357.length co32 : Value).ownBlock ∧ some k_ ≠ (.slice Ao42 t390.length co42 : Value).ownBlock ∧ some k_ ≠ (.slice Ao51 t377.length co51 : Value).ownBlock) s_.1 t404) ∧ (Kd.R k48 48 w' w.heap.size (fun k_ => some k_ ≠ (s_.1 : Value).ownBlock ∧ some k_ ≠ (.slice Ao32 t357.length co32 : Value).ownBlock ∧ some k_ ≠ (.slice Ao42 t390.length co42 : Value).ownBlock ∧ some k_ ≠ (.slice Ao51 t377.length co51 : Value).ownBlock) s_.2.1 t409) ∧ (Kd.R k48 48 w' w.heap.size (fun k_ => some k_ ≠ (s_.1 : Value).ownBlock ∧ some k_ ≠ (s_.2.1 : Value).ownBlock ∧ some k_ ≠ (.slice Ao42 t390.length co42 : Value).ownBlock ∧ some k_ ≠ (.slice Ao51 t377.length co51 : Value).ownBlock) (.slice Ao32 t357.length co32) t357) ∧ (Kd.R k48 48 w' w.heap.size (fun k_ => some k_ ≠ (s_.1 : Value).ownBlock ∧ some k_ ≠ (s_.2.1 : Value).ownBlock ∧ some k_ ≠ (.slice Ao32 t357.length co32 : Value).ownBlock ∧ some k_ ≠ (.slice Ao51 t377.length co51 : Value).ownBlock) (.slice Ao42 t390.length co42) t390) ∧ (Kd.R k48 48 w' w.heap.size (fun k_ => some k_ ≠ (s_.1 : Value).ownBlock ∧ some k_ ≠ (s_.2.1 : Value).ownBlock ∧ some k_ ≠ (.slice Ao32 t357.length co32 : Value).ownBlock ∧ some k_ ≠ (.slice Ao42 t390.length co42 : Value).ownBlock) (.slice Ao51 t377.length co51) t393) ∧ (w'.heap[gb340]? = some (.cells #[.int .i64 a0_0, .int .i64 a0_1, .int .i64 a0_2, .int .i64 a0_3, .int .i64 a0_4, .int .i64 a0_5, .int .i64 a0_6] 23 (0, 0))) ∧ (w'.heap[gb341]? = some (.cells #[.int .i64 a1_0, .int .i64 a1_1, .slice A1_2 l1_2.length c1_2] 31 (0, 0))) ∧ (w'.heap[gb361]? = some (.cells #[.int .i64 t355, .int .i64 t356, .slice Ao32 t357.length co32] 35 (0, 0))) ∧ (w'.heap[gb367]? = some (.cells #[.int .i64 t362, .int .i64 t363, .slice Ao42 t390.length co42] 35 (0, 0))) ∧ (w'.heap[gb381]? = some (.cells #[.int .i64 t375, .int .i64 t376, .slice Ao51 t377.length co51] 35 (0, 0))) ∧ (w'.heap[s_.2.2]? = some (.cells #[.int .i64 0, .int .i64 0, .slice none 0 0] 35 (0, 0))) ∧ (w.heap.size ≤ s_.2.2) ∧ (w.heap.size ≤ s_.2.2) ∧ (gb340 ≠ s_.2.2) ∧ (s_.2.2 ≠ gb340) ∧ (gb341 ≠ s_.2.2) ∧ (s_.2.2 ≠ gb341) ∧ (gb361 ≠ s_.2.2) ∧ (s_.2.2 ≠ gb361) ∧ (gb367 ≠ s_.2.2) ∧ (s_.2.2 ≠ gb367) ∧ (gb381 ≠ s_.2.2) ∧ (s_.2.2 ≠ gb381) ∧ (Below w.heap.size w w')) ?_ ?_
           rotate_left
           ·intro hCont
            refine two_ (i := 1) (j := 9) (Ni := some 85) (Nj := some 16) #[true, true, true, false, true, false, false, false, false, false, false, false] #[true, false, true, false, true, false, false, false, false, true, false, false] rfl rfl rfl rfl (two_of HT_.out (by kernel_rfl)) (by decide) (by decide) (fun K hK => ?_) (fun K hK => ?_)
            ·skip
             refine goes_ Try.func7 (by kernel_rfl) rfl #[.agg #[.int .i64 a0_0, .int .i64 a0_1, .int .i64 a0_2, .int .i64 a0_3, .int .i64 a0_4, .int .i64 a0_5, .int .i64 a0_6]] (by rfl) rfl rfl aE ?_
             with_reducible refine (laws_toEmitter.calls a0_0 a0_1 a0_2 a0_3 a0_4 a0_5 a0_6 t395 t396 t397 t398 t399 t400 t401 _ A127.out).mono ?_
             rintro e w140 ⟨rfl, hb⟩
             refine ⟨_, rfl, ?_⟩
             replace HO_362002 := Aside0.mk (Kd.R_below (rU HO_362002.out) hb)
             replace HO_368002 := Aside0.mk (Kd.R_below (rU HO_368002.out) hb)
             replace HO_382002 := Aside0.mk (Kd.R_below (rU HO_382002.out) hb)
             replace BK340 := bB (bV BK340) hb
             replace BK341 := bB (bV BK341) hb
             replace BK361 := bB (bV BK361) hb
             replace BK367 := bB (bV BK367) hb
             replace BK381 := bB (bV BK381) hb
             replace HB := bH (lV5 GE340 GE341 GE361 GE367 GE381) hb
             (try clear hb)
             (try clear hb2)
             (try clear hk)
             (try clear hi)
             refine hK.out _ _ ⟨cz BK340 0 _, cz BK340 1 _, cz BK340 2 _, cz BK340 3 _, cz BK340 4 _, cz BK340 5 _, cz BK340 6 _, cz BK341 0 _, cz BK341 1 _, cz BK341 2 _⟩ (fun hHeld => ?_)
             clear hK K
             refine norm_ (a' := ?_) ?_ ?_
             rotate_left
             ·show Act.put _ (some 85) _ = _
              simp only [Act.put, List.setIfInBounds_toArray, List.set_cons_zero, List.set_cons_succ, i64_w, i32_w]
              rfl
             refine two_ (i := 3) (j := 9) (Ni := some 87) (Nj := some 16) #[true, true, true, true, true, false, false, false, false, false, false, false] #[true, true, true, false, true, false, false, false, false, true, false, false] rfl rfl rfl rfl (two_of HT_.out (by kernel_rfl)) (by decide) (by decide) (fun K hK => ?_) (fun K hK => ?_)
             ·skip
              refine goes_ Try.func11 (by kernel_rfl) rfl #[.agg #[.int .i64 a1_0, .int .i64 a1_1, .slice A1_2 l1_2.length c1_2]] (by rfl) rfl rfl aE ?_
              with_reducible refine (laws_toCloud.calls kj79 a1_0 a1_1 _ _ l1_2 t402 t403 t404 _ ?side1 ?side2 A128.out).mono ?_
              (case side1 => exact cU (Kd.C_below HR1_2.out HB.out))
              (case side2 => exact HC1_2.out)
              rintro e w141 ⟨v405, rfl, ho0, hb⟩
              refine ⟨_, rfl, ?_⟩
              have HO406 := Aside0.mk (Kd.R_lower (Kd.R_new' (Kd.R_new' (Kd.R_new' ho0 (Kd.R_lt (rU HO_362002.out))) (Kd.R_lt (rU HO_368002.out))) (Kd.R_lt (rU HO_382002.out))) (below_size (lV5 GE340 GE341 GE361 GE367 GE381)))
              replace HO_362002 := Aside0.mk (Kd.R_elder' (rU HO_362002.out) (Kd.R_base ho0) hb)
              replace HO_368002 := Aside0.mk (Kd.R_elder' (rU HO_368002.out) (Kd.R_base ho0) hb)
              replace HO_382002 := Aside0.mk (Kd.R_elder' (rU HO_382002.out) (Kd.R_base ho0) hb)
              replace BK340 := bB (bV BK340) hb
              replace BK341 := bB (bV BK341) hb
              replace BK361 := bB (bV BK361) hb
              replace BK367 := bB (bV BK367) hb
              replace BK381 := bB (bV BK381) hb
              replace HB := bH (lV5 GE340 GE341 GE361 GE367 GE381) hb
              (try clear hb)
              (try clear hb2)
              (try clear hk)
              (try clear hi)
              (try clear ho0)
              obtain ⟨Ao142, co142, eo142⟩ := Kd.R_slice HO406.out
              (first | subst eo142 | (injection eo142 with f1_ f2_ f3_; have f4_ := f1_.symm; have f5_ := f3_.symm; clear f1_ f2_ f3_; subst f4_; subst f5_))
              refine hK.out _ _ ⟨cz BK340 0 _, cz BK340 1 _, cz BK340 2 _, cz BK340 3 _, cz BK340 4 _, cz BK340 5 _, cz BK340 6 _, cz BK341 0 _, cz BK341 1 _, cz BK341 2 _⟩ (fun hHeld => ?_)
              clear hK K
              refine norm_ (a' := ?_) ?_ ?_
              rotate_left
              ·show Act.put _ (some 87) _ = _
               simp only [Act.put, List.setIfInBounds_toArray, List.set_cons_zero, List.set_cons_succ, i64_w, i32_w]
               rfl
              refine two_ (i := 5) (j := 9) (Ni := some 89) (Nj := some 16) #[true, true, true, true, true, true, false, false, false, false, false, false] #[true, true, true, true, true, false, false, false, false, true, false, false] rfl rfl rfl rfl (two_of HT_.out (by kernel_rfl)) (by decide) (by decide) (fun K hK => ?_) (fun K hK => ?_)
              ·skip
               refine goes_ Try.func17 (by kernel_rfl) rfl #[.agg #[.int .i64 t395, .int .i64 t396, .int .i64 t397, .int .i64 t398, .int .i64 t399, .int .i64 t400, .int .i64 t401], .agg #[.int .i64 t402, .int .i64 t403, .slice Ao142 t404.length co142], .int .i64 a2] (by rfl) rfl rfl aE ?_
               with_reducible refine (impl_RunCloud.calls kj79 t395 t396 t397 t398 t399 t400 t401 t402 t403 _ _ t404 a2 t407 t408 t409 t412 _ ?side1 ?side2 A129.out).mono ?_
               (case side1 => exact cU (Kd.R_reads' HO406.out).2.2)
               (case side2 => exact (Kd.R_reads' HO406.out).2.1)
               rintro e w143 ⟨v410, rfl, ho0, hb⟩
               refine ⟨_, rfl, ?_⟩
               have HO411 := Aside0.mk (Kd.R_lower (Kd.R_new' (Kd.R_new' (Kd.R_new' (Kd.R_new' ho0 (Kd.R_lt (rU HO_362002.out))) (Kd.R_lt (rU HO_368002.out))) (Kd.R_lt (rU HO_382002.out))) (Kd.R_lt (rU HO406.out))) (below_size (lV5 GE340 GE341 GE361 GE367 GE381)))
               replace HO_362002 := Aside0.mk (Kd.R_elder' (rU HO_362002.out) (Kd.R_base ho0) hb)
               replace HO_368002 := Aside0.mk (Kd.R_elder' (rU HO_368002.out) (Kd.R_base ho0) hb)
               replace HO_382002 := Aside0.mk (Kd.R_elder' (rU HO_382002.out) (Kd.R_base ho0) hb)
               replace HO406 := Aside0.mk (Kd.R_elder' (rU HO406.out) (Kd.R_base ho0) hb)
               replace BK340 := bB (bV BK340) hb
               replace BK341 := bB (bV BK341) hb
               replace BK361 := bB (bV BK361) hb
               replace BK367 := bB (bV BK367) hb
               replace BK381 := bB (bV BK381) hb
               replace HB := bH (lV5 GE340 GE341 GE361 GE367 GE381) hb
               (try clear hb)
               (try clear hb2)
               (try clear hk)
               (try clear hi)
               (try clear ho0)
               refine hK.out _ _ ⟨cz BK340 0 _, cz BK340 1 _, cz BK340 2 _, cz BK340 3 _, cz BK340 4 _, cz BK340 5 _, cz BK340 6 _, cz BK341 0 _, cz BK341 1 _, cz BK341 2 _⟩ (fun hHeld => ?_)
               clear hK K
               refine norm_ (a' := ?_) ?_ ?_
               rotate_left
               ·show Act.put _ (some 89) _ = _
                simp only [Act.put, List.setIfInBounds_toArray, List.set_cons_zero, List.set_cons_succ, i64_w, i32_w]
                rfl
               refine pureA 6 83 (bz 12 127) rfl rfl (any_of HT_.out (by kernel_rfl)) ?_
               refine pureA 7 90 (bz 12 255) rfl rfl (any_of HT_.out (by kernel_rfl)) ?_
               refine pureA 8 91 (bz 12 511) rfl rfl (any_of HT_.out (by kernel_rfl)) ?_
               refine one_ (i := 9) (N := some 16) (bz 12 1023) rfl rfl (one_of HT_.out (by kernel_rfl)) (by decide) (fun K hK => ?_)
               refine box_step ?hg (N := 16) ?hd (cs := #[.int .i64 0, .int .i64 0, .slice none 0 0]) (t := 35) ?hr ?_; (case hd => rfl); (case hg => rfl); (case hr => exact sE)
               intro gb413 hg w144 hbox hb
               replace HO_362002 := Aside0.mk (Kd.R_below (rU HO_362002.out) hb)
               replace HO_368002 := Aside0.mk (Kd.R_below (rU HO_368002.out) hb)
               replace HO_382002 := Aside0.mk (Kd.R_below (rU HO_382002.out) hb)
               replace HO406 := Aside0.mk (Kd.R_below (rU HO406.out) hb)
               replace HO411 := Aside0.mk (Kd.R_below (rU HO411.out) hb)
               have BK413 := Aside0.mk hbox
               have GW413 := gS w hg (lV5 GE340 GE341 GE361 GE367 GE381)
               have GE413 := gS w hg (lV5 GE340 GE341 GE361 GE367 GE381)
               replace HB := bH (lV5 GE340 GE341 GE361 GE367 GE381) hb
               have NB340_413 := nL hg (bV BK340)
               have NB413_340 := nG hg (bV BK340)
               replace BK340 := bB (bV BK340) hb
               have NB341_413 := nL hg (bV BK341)
               have NB413_341 := nG hg (bV BK341)
               replace BK341 := bB (bV BK341) hb
               have NB361_413 := nL hg (bV BK361)
               have NB413_361 := nG hg (bV BK361)
               replace BK361 := bB (bV BK361) hb
               have NB367_413 := nL hg (bV BK367)
               have NB413_367 := nG hg (bV BK367)
               replace BK367 := bB (bV BK367) hb
               have NB381_413 := nL hg (bV BK381)
               have NB413_381 := nG hg (bV BK381)
               replace BK381 := bB (bV BK381) hb
               clear hb hbox hg
               refine hK.out _ _ ⟨cz BK340 0 _, cz BK340 1 _, cz BK340 2 _, cz BK340 3 _, cz BK340 4 _, cz BK340 5 _, cz BK340 6 _, cz BK341 0 _, cz BK341 1 _, cz BK341 2 _⟩ (fun hHeld => ?_)
               clear hK K
               refine norm_ (a' := ?_) ?_ ?_
               rotate_left
               ·show Act.put _ (some 16) _ = _
                simp only [Act.put, List.setIfInBounds_toArray, List.set_cons_zero, List.set_cons_succ, i64_w, i32_w]
                rfl
               exact norm_ (by simp only [putAll, Act.put, List.setIfInBounds_toArray, List.set_cons_zero, List.set_cons_succ]) (hCont (.slice Ao142 t404.length co142, v410, gb413) _ ⟨hHeld, (by (with_reducible repeat (first | apply Kd.R_alloc | apply Kd.R_drewN | apply Kd.R_drew)); exact Kd.R_mono HO406.out (fun _ hk => ⟨hk.2, ⟨hk.1.1.1.2, ⟨hk.1.1.2, hk.1.2⟩⟩⟩)), (by (with_reducible repeat (first | apply Kd.R_alloc | apply Kd.R_drewN | apply Kd.R_drew)); exact Kd.R_mono HO411.out (fun _ hk => ⟨hk.2, ⟨hk.1.1.1.2, ⟨hk.1.1.2, hk.1.2⟩⟩⟩)), (by (with_reducible repeat (first | apply Kd.R_alloc | apply Kd.R_drewN | apply Kd.R_drew)); exact Kd.R_mono HO_362002.out (fun _ hk => ⟨hk.1.2, ⟨hk.2, ⟨hk.1.1.1, hk.1.1.2⟩⟩⟩)), (by (with_reducible repeat (first | apply Kd.R_alloc | apply Kd.R_drewN | apply Kd.R_drew)); exact Kd.R_mono HO_368002.out (fun _ hk => ⟨hk.1.2, ⟨hk.2, ⟨hk.1.1.1, hk.1.1.2⟩⟩⟩)), (by (with_reducible repeat (first | apply Kd.R_alloc | apply Kd.R_drewN | apply Kd.R_drew)); exact Kd.R_mono HO_382002.out (fun _ hk => ⟨hk.1.2, ⟨hk.2, ⟨hk.1.1.1, hk.1.1.2⟩⟩⟩)), (bV BK340), (bV BK341), (bV BK361), (bV BK367), (bV BK381), (bV BK413), GW413.out, GE413.out, NB340_413.out, NB413_340.out, NB341_413.out, NB413_341.out, NB361_413.out, NB413_361.out, NB367_413.out, NB413_367.out, NB381_413.out, NB413_381.out, (lV6 GE340 GE341 GE361 GE367 GE381 GE413)⟩)
              ·skip
               refine box_step ?hg (N := 16) ?hd (cs := #[.int .i64 0, .int .i64 0, .slice none 0 0]) (t := 35) ?hr ?_; (case hd => rfl); (case hg => rfl); (case hr => exact sE)
               intro gb413 hg w142 hbox hb
               replace HO_362002 := Aside0.mk (Kd.R_below (rU HO_362002.out) hb)
               replace HO_368002 := Aside0.mk (Kd.R_below (rU HO_368002.out) hb)
               replace HO_382002 := Aside0.mk (Kd.R_below (rU HO_382002.out) hb)
               replace HO406 := Aside0.mk (Kd.R_below (rU HO406.out) hb)
               have BK413 := Aside0.mk hbox
               have GW413 := gS w hg (lV5 GE340 GE341 GE361 GE367 GE381)
               have GE413 := gS w hg (lV5 GE340 GE341 GE361 GE367 GE381)
               replace HB := bH (lV5 GE340 GE341 GE361 GE367 GE381) hb
               have NB340_413 := nL hg (bV BK340)
               have NB413_340 := nG hg (bV BK340)
               replace BK340 := bB (bV BK340) hb
               have NB341_413 := nL hg (bV BK341)
               have NB413_341 := nG hg (bV BK341)
               replace BK341 := bB (bV BK341) hb
               have NB361_413 := nL hg (bV BK361)
               have NB413_361 := nG hg (bV BK361)
               replace BK361 := bB (bV BK361) hb
               have NB367_413 := nL hg (bV BK367)
               have NB413_367 := nG hg (bV BK367)
               replace BK367 := bB (bV BK367) hb
               have NB381_413 := nL hg (bV BK381)
               have NB413_381 := nG hg (bV BK381)
               replace BK381 := bB (bV BK381) hb
               clear hb hbox hg
               obtain ⟨Ao143, co143, eo143⟩ := Kd.R_slice HO406.out
               (first | subst eo143 | (injection eo143 with f1_ f2_ f3_; have f4_ := f1_.symm; have f5_ := f3_.symm; clear f1_ f2_ f3_; subst f4_; subst f5_))
               refine hK.out _ _ ⟨cz BK340 0 _, cz BK340 1 _, cz BK340 2 _, cz BK340 3 _, cz BK340 4 _, cz BK340 5 _, cz BK340 6 _, cz BK341 0 _, cz BK341 1 _, cz BK341 2 _⟩ (fun hHeld => ?_)
               clear hK K
               refine norm_ (a' := ?_) ?_ ?_
               rotate_left
               ·show Act.put _ (some 16) _ = _
                simp only [Act.put, List.setIfInBounds_toArray, List.set_cons_zero, List.set_cons_succ, i64_w, i32_w]
                rfl
               refine one_ (i := 5) (N := some 89) (bz 12 575) rfl rfl (one_of HT_.out (by kernel_rfl)) (by decide) (fun K hK => ?_)
               refine goes_ Try.func17 (by kernel_rfl) rfl #[.agg #[.int .i64 t395, .int .i64 t396, .int .i64 t397, .int .i64 t398, .int .i64 t399, .int .i64 t400, .int .i64 t401], .agg #[.int .i64 t402, .int .i64 t403, .slice Ao143 t404.length co143], .int .i64 a2] (by rfl) rfl rfl aE ?_
               with_reducible refine (impl_RunCloud.calls kj79 t395 t396 t397 t398 t399 t400 t401 t402 t403 _ _ t404 a2 t407 t408 t409 t412 _ ?side1 ?side2 A129.out).mono ?_
               (case side1 => exact cU (Kd.R_reads' HO406.out).2.2)
               (case side2 => exact (Kd.R_reads' HO406.out).2.1)
               rintro e w144 ⟨v410, rfl, ho0, hb⟩
               refine ⟨_, rfl, ?_⟩
               have HO411 := Aside0.mk (Kd.R_lower (Kd.R_new' (Kd.R_new' (Kd.R_new' (Kd.R_new' ho0 (Kd.R_lt (rU HO_362002.out))) (Kd.R_lt (rU HO_368002.out))) (Kd.R_lt (rU HO_382002.out))) (Kd.R_lt (rU HO406.out))) (below_size (lV6 GE340 GE341 GE361 GE367 GE381 GE413)))
               replace HO_362002 := Aside0.mk (Kd.R_elder' (rU HO_362002.out) (Kd.R_base ho0) hb)
               replace HO_368002 := Aside0.mk (Kd.R_elder' (rU HO_368002.out) (Kd.R_base ho0) hb)
               replace HO_382002 := Aside0.mk (Kd.R_elder' (rU HO_382002.out) (Kd.R_base ho0) hb)
               replace HO406 := Aside0.mk (Kd.R_elder' (rU HO406.out) (Kd.R_base ho0) hb)
               replace BK340 := bB (bV BK340) hb
               replace BK341 := bB (bV BK341) hb
               replace BK361 := bB (bV BK361) hb
               replace BK367 := bB (bV BK367) hb
               replace BK381 := bB (bV BK381) hb
               replace BK413 := bB (bV BK413) hb
               replace HB := bH (lV6 GE340 GE341 GE361 GE367 GE381 GE413) hb
               (try clear hb)
               (try clear hb2)
               (try clear hk)
               (try clear hi)
               (try clear ho0)
               refine hK.out _ _ ⟨cz BK340 0 _, cz BK340 1 _, cz BK340 2 _, cz BK340 3 _, cz BK340 4 _, cz BK340 5 _, cz BK340 6 _, cz BK341 0 _, cz BK341 1 _, cz BK341 2 _⟩ (fun hHeld => ?_)
               clear hK K
               refine norm_ (a' := ?_) ?_ ?_
               rotate_left
               ·show Act.put _ (some 89) _ = _
                simp only [Act.put, List.setIfInBounds_toArray, List.set_cons_zero, List.set_cons_succ, i64_w, i32_w]
                rfl
               refine pureA 6 83 (bz 12 639) rfl rfl (any_of HT_.out (by kernel_rfl)) ?_
               refine pureA 7 90 (bz 12 767) rfl rfl (any_of HT_.out (by kernel_rfl)) ?_
               refine pureA 8 91 (bz 12 1023) rfl rfl (any_of HT_.out (by kernel_rfl)) ?_
               exact norm_ (by simp only [putAll, Act.put, List.setIfInBounds_toArray, List.set_cons_zero, List.set_cons_succ]) (hCont (.slice Ao143 t404.length co143, v410, gb413) _ ⟨hHeld, (by (with_reducible repeat (first | apply Kd.R_alloc | apply Kd.R_drewN | apply Kd.R_drew)); exact Kd.R_mono HO406.out (fun _ hk => ⟨hk.2, ⟨hk.1.1.1.2, ⟨hk.1.1.2, hk.1.2⟩⟩⟩)), (by (with_reducible repeat (first | apply Kd.R_alloc | apply Kd.R_drewN | apply Kd.R_drew)); exact Kd.R_mono HO411.out (fun _ hk => ⟨hk.2, ⟨hk.1.1.1.2, ⟨hk.1.1.2, hk.1.2⟩⟩⟩)), (by (with_reducible repeat (first | apply Kd.R_alloc | apply Kd.R_drewN | apply Kd.R_drew)); exact Kd.R_mono HO_362002.out (fun _ hk => ⟨hk.1.2, ⟨hk.2, ⟨hk.1.1.1, hk.1.1.2⟩⟩⟩)), (by (with_reducible repeat (first | apply Kd.R_alloc | apply Kd.R_drewN | apply Kd.R_drew)); exact Kd.R_mono HO_368002.out (fun _ hk => ⟨hk.1.2, ⟨hk.2, ⟨hk.1.1.1, hk.1.1.2⟩⟩⟩)), (by (with_reducible repeat (first | apply Kd.R_alloc | apply Kd.R_drewN | apply Kd.R_drew)); exact Kd.R_mono HO_382002.out (fun _ hk => ⟨hk.1.2, ⟨hk.2, ⟨hk.1.1.1, hk.1.1.2⟩⟩⟩)), (bV BK340), (bV BK341), (bV BK361), (bV BK367), (bV BK381), (bV BK413), GW413.out, GE413.out, NB340_413.out, NB413_340.out, NB341_413.out, NB413_341.out, NB361_413.out, NB413_361.out, NB367_413.out, NB413_367.out, NB381_413.out, NB413_381.out, (lV6 GE340 GE341 GE361 GE367 GE381 GE413)⟩)
             ·skip
              refine box_step ?hg (N := 16) ?hd (cs := #[.int .i64 0, .int .i64 0, .slice none 0 0]) (t := 35) ?hr ?_; (case hd => rfl); (case hg => rfl); (case hr => exact sE)
              intro gb413 hg w141 hbox hb
              replace HO_362002 := Aside0.mk (Kd.R_below (rU HO_362002.out) hb)
              replace HO_368002 := Aside0.mk (Kd.R_below (rU HO_368002.out) hb)
              replace HO_382002 := Aside0.mk (Kd.R_below (rU HO_382002.out) hb)
              have BK413 := Aside0.mk hbox
              have GW413 := gS w hg (lV5 GE340 GE341 GE361 GE367 GE381)
              have GE413 := gS w hg (lV5 GE340 GE341 GE361 GE367 GE381)
              replace HB := bH (lV5 GE340 GE341 GE361 GE367 GE381) hb
              have NB340_413 := nL hg (bV BK340)
              have NB413_340 := nG hg (bV BK340)
              replace BK340 := bB (bV BK340) hb
              have NB341_413 := nL hg (bV BK341)
              have NB413_341 := nG hg (bV BK341)
              replace BK341 := bB (bV BK341) hb
              have NB361_413 := nL hg (bV BK361)
              have NB413_361 := nG hg (bV BK361)
              replace BK361 := bB (bV BK361) hb
              have NB367_413 := nL hg (bV BK367)
              have NB413_367 := nG hg (bV BK367)
              replace BK367 := bB (bV BK367) hb
              have NB381_413 := nL hg (bV BK381)
              have NB413_381 := nG hg (bV BK381)
              replace BK381 := bB (bV BK381) hb
              clear hb hbox hg
              refine hK.out _ _ ⟨cz BK340 0 _, cz BK340 1 _, cz BK340 2 _, cz BK340 3 _, cz BK340 4 _, cz BK340 5 _, cz BK340 6 _, cz BK341 0 _, cz BK341 1 _, cz BK341 2 _⟩ (fun hHeld => ?_)
              clear hK K
              refine norm_ (a' := ?_) ?_ ?_
              rotate_left
              ·show Act.put _ (some 16) _ = _
               simp only [Act.put, List.setIfInBounds_toArray, List.set_cons_zero, List.set_cons_succ, i64_w, i32_w]
               rfl
              refine one_ (i := 3) (N := some 87) (bz 12 543) rfl rfl (one_of HT_.out (by kernel_rfl)) (by decide) (fun K hK => ?_)
              refine goes_ Try.func11 (by kernel_rfl) rfl #[.agg #[.int .i64 a1_0, .int .i64 a1_1, .slice A1_2 l1_2.length c1_2]] (by rfl) rfl rfl aE ?_
              with_reducible refine (laws_toCloud.calls kj79 a1_0 a1_1 _ _ l1_2 t402 t403 t404 _ ?side1 ?side2 A128.out).mono ?_
              (case side1 => exact cU (Kd.C_below HR1_2.out HB.out))
              (case side2 => exact HC1_2.out)
              rintro e w142 ⟨v405, rfl, ho0, hb⟩
              refine ⟨_, rfl, ?_⟩
              have HO406 := Aside0.mk (Kd.R_lower (Kd.R_new' (Kd.R_new' (Kd.R_new' ho0 (Kd.R_lt (rU HO_362002.out))) (Kd.R_lt (rU HO_368002.out))) (Kd.R_lt (rU HO_382002.out))) (below_size (lV6 GE340 GE341 GE361 GE367 GE381 GE413)))
              replace HO_362002 := Aside0.mk (Kd.R_elder' (rU HO_362002.out) (Kd.R_base ho0) hb)
              replace HO_368002 := Aside0.mk (Kd.R_elder' (rU HO_368002.out) (Kd.R_base ho0) hb)
              replace HO_382002 := Aside0.mk (Kd.R_elder' (rU HO_382002.out) (Kd.R_base ho0) hb)
              replace BK340 := bB (bV BK340) hb
              replace BK341 := bB (bV BK341) hb
              replace BK361 := bB (bV BK361) hb
              replace BK367 := bB (bV BK367) hb
              replace BK381 := bB (bV BK381) hb
              replace BK413 := bB (bV BK413) hb
              replace HB := bH (lV6 GE340 GE341 GE361 GE367 GE381 GE413) hb
              (try clear hb)
              (try clear hb2)
              (try clear hk)
              (try clear hi)
              (try clear ho0)
              obtain ⟨Ao143, co143, eo143⟩ := Kd.R_slice HO406.out
              (first | subst eo143 | (injection eo143 with f1_ f2_ f3_; have f4_ := f1_.symm; have f5_ := f3_.symm; clear f1_ f2_ f3_; subst f4_; subst f5_))
              refine hK.out _ _ ⟨cz BK340 0 _, cz BK340 1 _, cz BK340 2 _, cz BK340 3 _, cz BK340 4 _, cz BK340 5 _, cz BK340 6 _, cz BK341 0 _, cz BK341 1 _, cz BK341 2 _⟩ (fun hHeld => ?_)
              clear hK K
              refine norm_ (a' := ?_) ?_ ?_
              rotate_left
              ·show Act.put _ (some 87) _ = _
               simp only [Act.put, List.setIfInBounds_toArray, List.set_cons_zero, List.set_cons_succ, i64_w, i32_w]
               rfl
              refine one_ (i := 5) (N := some 89) (bz 12 575) rfl rfl (one_of HT_.out (by kernel_rfl)) (by decide) (fun K hK => ?_)
              refine goes_ Try.func17 (by kernel_rfl) rfl #[.agg #[.int .i64 t395, .int .i64 t396, .int .i64 t397, .int .i64 t398, .int .i64 t399, .int .i64 t400, .int .i64 t401], .agg #[.int .i64 t402, .int .i64 t403, .slice Ao143 t404.length co143], .int .i64 a2] (by rfl) rfl rfl aE ?_
              with_reducible refine (impl_RunCloud.calls kj79 t395 t396 t397 t398 t399 t400 t401 t402 t403 _ _ t404 a2 t407 t408 t409 t412 _ ?side1 ?side2 A129.out).mono ?_
              (case side1 => exact cU (Kd.R_reads' HO406.out).2.2)
              (case side2 => exact (Kd.R_reads' HO406.out).2.1)
              rintro e w144 ⟨v410, rfl, ho0, hb⟩
              refine ⟨_, rfl, ?_⟩
              have HO411 := Aside0.mk (Kd.R_lower (Kd.R_new' (Kd.R_new' (Kd.R_new' (Kd.R_new' ho0 (Kd.R_lt (rU HO_362002.out))) (Kd.R_lt (rU HO_368002.out))) (Kd.R_lt (rU HO_382002.out))) (Kd.R_lt (rU HO406.out))) (below_size (lV6 GE340 GE341 GE361 GE367 GE381 GE413)))
              replace HO_362002 := Aside0.mk (Kd.R_elder' (rU HO_362002.out) (Kd.R_base ho0) hb)
              replace HO_368002 := Aside0.mk (Kd.R_elder' (rU HO_368002.out) (Kd.R_base ho0) hb)
              replace HO_382002 := Aside0.mk (Kd.R_elder' (rU HO_382002.out) (Kd.R_base ho0) hb)
              replace HO406 := Aside0.mk (Kd.R_elder' (rU HO406.out) (Kd.R_base ho0) hb)
              replace BK340 := bB (bV BK340) hb
              replace BK341 := bB (bV BK341) hb
              replace BK361 := bB (bV BK361) hb
              replace BK367 := bB (bV BK367) hb
              replace BK381 := bB (bV BK381) hb
              replace BK413 := bB (bV BK413) hb
              replace HB := bH (lV6 GE340 GE341 GE361 GE367 GE381 GE413) hb
              (try clear hb)
              (try clear hb2)
              (try clear hk)
              (try clear hi)
              (try clear ho0)
              refine hK.out _ _ ⟨cz BK340 0 _, cz BK340 1 _, cz BK340 2 _, cz BK340 3 _, cz BK340 4 _, cz BK340 5 _, cz BK340 6 _, cz BK341 0 _, cz BK341 1 _, cz BK341 2 _⟩ (fun hHeld => ?_)
              clear hK K
              refine norm_ (a' := ?_) ?_ ?_
              rotate_left
              ·show Act.put _ (some 89) _ = _
               simp only [Act.put, List.setIfInBounds_toArray, List.set_cons_zero, List.set_cons_succ, i64_w, i32_w]
               rfl
              refine pureA 6 83 (bz 12 639) rfl rfl (any_of HT_.out (by kernel_rfl)) ?_
              refine pureA 7 90 (bz 12 767) rfl rfl (any_of HT_.out (by kernel_rfl)) ?_
              refine pureA 8 91 (bz 12 1023) rfl rfl (any_of HT_.out (by kernel_rfl)) ?_
              exact norm_ (by simp only [putAll, Act.put, List.setIfInBounds_toArray, List.set_cons_zero, List.set_cons_succ]) (hCont (.slice Ao143 t404.length co143, v410, gb413) _ ⟨hHeld, (by (with_reducible repeat (first | apply Kd.R_alloc | apply Kd.R_drewN | apply Kd.R_drew)); exact Kd.R_mono HO406.out (fun _ hk => ⟨hk.2, ⟨hk.1.1.1.2, ⟨hk.1.1.2, hk.1.2⟩⟩⟩)), (by (with_reducible repeat (first | apply Kd.R_alloc | apply Kd.R_drewN | apply Kd.R_drew)); exact Kd.R_mono HO411.out (fun _ hk => ⟨hk.2, ⟨hk.1.1.1.2, ⟨hk.1.1.2, hk.1.2⟩⟩⟩)), (by (with_reducible repeat (first | apply Kd.R_alloc | apply Kd.R_drewN | apply Kd.R_drew)); exact Kd.R_mono HO_362002.out (fun _ hk => ⟨hk.1.2, ⟨hk.2, ⟨hk.1.1.1, hk.1.1.2⟩⟩⟩)), (by (with_reducible repeat (first | apply Kd.R_alloc | apply Kd.R_drewN | apply Kd.R_drew)); exact Kd.R_mono HO_368002.out (fun _ hk => ⟨hk.1.2, ⟨hk.2, ⟨hk.1.1.1, hk.1.1.2⟩⟩⟩)), (by (with_reducible repeat (first | apply Kd.R_alloc | apply Kd.R_drewN | apply Kd.R_drew)); exact Kd.R_mono HO_382002.out (fun _ hk => ⟨hk.1.2, ⟨hk.2, ⟨hk.1.1.1, hk.1.1.2⟩⟩⟩)), (bV BK340), (bV BK341), (bV BK361), (bV BK367), (bV BK381), (bV BK413), GW413.out, GE413.out, NB340_413.out, NB413_340.out, NB341_413.out, NB413_341.out, NB361_413.out, NB413_361.out, NB367_413.out, NB413_367.out, NB381_413.out, NB413_381.out, (lV6 GE340 GE341 GE361 GE367 GE381 GE413)⟩)
            ·skip
             refine box_step ?hg (N := 16) ?hd (cs := #[.int .i64 0, .int .i64 0, .slice none 0 0]) (t := 35) ?hr ?_; (case hd => rfl); (case hg => rfl); (case hr => exact sE)
             intro gb413 hg w140 hbox hb
             replace HO_362002 := Aside0.mk (Kd.R_below (rU HO_362002.out) hb)
             replace HO_368002 := Aside0.mk (Kd.R_below (rU HO_368002.out) hb)
             replace HO_382002 := Aside0.mk (Kd.R_below (rU HO_382002.out) hb)
             have BK413 := Aside0.mk hbox
             have GW413 := gS w hg (lV5 GE340 GE341 GE361 GE367 GE381)
             have GE413 := gS w hg (lV5 GE340 GE341 GE361 GE367 GE381)
             replace HB := bH (lV5 GE340 GE341 GE361 GE367 GE381) hb
             have NB340_413 := nL hg (bV BK340)
             have NB413_340 := nG hg (bV BK340)
             replace BK340 := bB (bV BK340) hb
             have NB341_413 := nL hg (bV BK341)
             have NB413_341 := nG hg (bV BK341)
             replace BK341 := bB (bV BK341) hb
             have NB361_413 := nL hg (bV BK361)
             have NB413_361 := nG hg (bV BK361)
             replace BK361 := bB (bV BK361) hb
             have NB367_413 := nL hg (bV BK367)
             have NB413_367 := nG hg (bV BK367)
             replace BK367 := bB (bV BK367) hb
             have NB381_413 := nL hg (bV BK381)
             have NB413_381 := nG hg (bV BK381)
             replace BK381 := bB (bV BK381) hb
             clear hb hbox hg
             refine hK.out _ _ ⟨cz BK340 0 _, cz BK340 1 _, cz BK340 2 _, cz BK340 3 _, cz BK340 4 _, cz BK340 5 _, cz BK340 6 _, cz BK341 0 _, cz BK341 1 _, cz BK341 2 _⟩ (fun hHeld => ?_)
             clear hK K
             refine norm_ (a' := ?_) ?_ ?_
             rotate_left
             ·show Act.put _ (some 16) _ = _
              simp only [Act.put, List.setIfInBounds_toArray, List.set_cons_zero, List.set_cons_succ, i64_w, i32_w]
              rfl
             refine one_ (i := 1) (N := some 85) (bz 12 535) rfl rfl (one_of HT_.out (by kernel_rfl)) (by decide) (fun K hK => ?_)
             refine goes_ Try.func7 (by kernel_rfl) rfl #[.agg #[.int .i64 a0_0, .int .i64 a0_1, .int .i64 a0_2, .int .i64 a0_3, .int .i64 a0_4, .int .i64 a0_5, .int .i64 a0_6]] (by rfl) rfl rfl aE ?_
             with_reducible refine (laws_toEmitter.calls a0_0 a0_1 a0_2 a0_3 a0_4 a0_5 a0_6 t395 t396 t397 t398 t399 t400 t401 _ A127.out).mono ?_
             rintro e w141 ⟨rfl, hb⟩
             refine ⟨_, rfl, ?_⟩
             replace HO_362002 := Aside0.mk (Kd.R_below (rU HO_362002.out) hb)
             replace HO_368002 := Aside0.mk (Kd.R_below (rU HO_368002.out) hb)
             replace HO_382002 := Aside0.mk (Kd.R_below (rU HO_382002.out) hb)
             replace BK340 := bB (bV BK340) hb
             replace BK341 := bB (bV BK341) hb
             replace BK361 := bB (bV BK361) hb
             replace BK367 := bB (bV BK367) hb
             replace BK381 := bB (bV BK381) hb
             replace BK413 := bB (bV BK413) hb
             replace HB := bH (lV6 GE340 GE341 GE361 GE367 GE381 GE413) hb
             (try clear hb)
             (try clear hb2)
             (try clear hk)
             (try clear hi)
             refine hK.out _ _ ⟨cz BK340 0 _, cz BK340 1 _, cz BK340 2 _, cz BK340 3 _, cz BK340 4 _, cz BK340 5 _, cz BK340 6 _, cz BK341 0 _, cz BK341 1 _, cz BK341 2 _⟩ (fun hHeld => ?_)
             clear hK K
             refine norm_ (a' := ?_) ?_ ?_
             rotate_left
             ·show Act.put _ (some 85) _ = _
              simp only [Act.put, List.setIfInBounds_toArray, List.set_cons_zero, List.set_cons_succ, i64_w, i32_w]
              rfl
             refine one_ (i := 3) (N := some 87) (bz 12 543) rfl rfl (one_of HT_.out (by kernel_rfl)) (by decide) (fun K hK => ?_)
             refine goes_ Try.func11 (by kernel_rfl) rfl #[.agg #[.int .i64 a1_0, .int .i64 a1_1, .slice A1_2 l1_2.length c1_2]] (by rfl) rfl rfl aE ?_
             with_reducible refine (laws_toCloud.calls kj79 a1_0 a1_1 _ _ l1_2 t402 t403 t404 _ ?side1 ?side2 A128.out).mono ?_
             (case side1 => exact cU (Kd.C_below HR1_2.out HB.out))
             (case side2 => exact HC1_2.out)
             rintro e w142 ⟨v405, rfl, ho0, hb⟩
             refine ⟨_, rfl, ?_⟩
             have HO406 := Aside0.mk (Kd.R_lower (Kd.R_new' (Kd.R_new' (Kd.R_new' ho0 (Kd.R_lt (rU HO_362002.out))) (Kd.R_lt (rU HO_368002.out))) (Kd.R_lt (rU HO_382002.out))) (below_size (lV6 GE340 GE341 GE361 GE367 GE381 GE413)))
             replace HO_362002 := Aside0.mk (Kd.R_elder' (rU HO_362002.out) (Kd.R_base ho0) hb)
             replace HO_368002 := Aside0.mk (Kd.R_elder' (rU HO_368002.out) (Kd.R_base ho0) hb)
             replace HO_382002 := Aside0.mk (Kd.R_elder' (rU HO_382002.out) (Kd.R_base ho0) hb)
             replace BK340 := bB (bV BK340) hb
             replace BK341 := bB (bV BK341) hb
             replace BK361 := bB (bV BK361) hb
             replace BK367 := bB (bV BK367) hb
             replace BK381 := bB (bV BK381) hb
             replace BK413 := bB (bV BK413) hb
             replace HB := bH (lV6 GE340 GE341 GE361 GE367 GE381 GE413) hb
             (try clear hb)
             (try clear hb2)
             (try clear hk)
             (try clear hi)
             (try clear ho0)
             obtain ⟨Ao143, co143, eo143⟩ := Kd.R_slice HO406.out
             (first | subst eo143 | (injection eo143 with f1_ f2_ f3_; have f4_ := f1_.symm; have f5_ := f3_.symm; clear f1_ f2_ f3_; subst f4_; subst f5_))
             refine hK.out _ _ ⟨cz BK340 0 _, cz BK340 1 _, cz BK340 2 _, cz BK340 3 _, cz BK340 4 _, cz BK340 5 _, cz BK340 6 _, cz BK341 0 _, cz BK341 1 _, cz BK341 2 _⟩ (fun hHeld => ?_)
             clear hK K
             refine norm_ (a' := ?_) ?_ ?_
             rotate_left
             ·show Act.put _ (some 87) _ = _
              simp only [Act.put, List.setIfInBounds_toArray, List.set_cons_zero, List.set_cons_succ, i64_w, i32_w]
              rfl
             refine one_ (i := 5) (N := some 89) (bz 12 575) rfl rfl (one_of HT_.out (by kernel_rfl)) (by decide) (fun K hK => ?_)
             refine goes_ Try.func17 (by kernel_rfl) rfl #[.agg #[.int .i64 t395, .int .i64 t396, .int .i64 t397, .int .i64 t398, .int .i64 t399, .int .i64 t400, .int .i64 t401], .agg #[.int .i64 t402, .int .i64 t403, .slice Ao143 t404.length co143], .int .i64 a2] (by rfl) rfl rfl aE ?_
             with_reducible refine (impl_RunCloud.calls kj79 t395 t396 t397 t398 t399 t400 t401 t402 t403 _ _ t404 a2 t407 t408 t409 t412 _ ?side1 ?side2 A129.out).mono ?_
             (case side1 => exact cU (Kd.R_reads' HO406.out).2.2)
             (case side2 => exact (Kd.R_reads' HO406.out).2.1)
             rintro e w144 ⟨v410, rfl, ho0, hb⟩
             refine ⟨_, rfl, ?_⟩
             have HO411 := Aside0.mk (Kd.R_lower (Kd.R_new' (Kd.R_new' (Kd.R_new' (Kd.R_new' ho0 (Kd.R_lt (rU HO_362002.out))) (Kd.R_lt (rU HO_368002.out))) (Kd.R_lt (rU HO_382002.out))) (Kd.R_lt (rU HO406.out))) (below_size (lV6 GE340 GE341 GE361 GE367 GE381 GE413)))
             replace HO_362002 := Aside0.mk (Kd.R_elder' (rU HO_362002.out) (Kd.R_base ho0) hb)
             replace HO_368002 := Aside0.mk (Kd.R_elder' (rU HO_368002.out) (Kd.R_base ho0) hb)
             replace HO_382002 := Aside0.mk (Kd.R_elder' (rU HO_382002.out) (Kd.R_base ho0) hb)
             replace HO406 := Aside0.mk (Kd.R_elder' (rU HO406.out) (Kd.R_base ho0) hb)
             replace BK340 := bB (bV BK340) hb
             replace BK341 := bB (bV BK341) hb
             replace BK361 := bB (bV BK361) hb
             replace BK367 := bB (bV BK367) hb
             replace BK381 := bB (bV BK381) hb
             replace BK413 := bB (bV BK413) hb
             replace HB := bH (lV6 GE340 GE341 GE361 GE367 GE381 GE413) hb
             (try clear hb)
             (try clear hb2)
             (try clear hk)
             (try clear hi)
             (try clear ho0)
             refine hK.out _ _ ⟨cz BK340 0 _, cz BK340 1 _, cz BK340 2 _, cz BK340 3 _, cz BK340 4 _, cz BK340 5 _, cz BK340 6 _, cz BK341 0 _, cz BK341 1 _, cz BK341 2 _⟩ (fun hHeld => ?_)
             clear hK K
             refine norm_ (a' := ?_) ?_ ?_
             rotate_left
             ·show Act.put _ (some 89) _ = _
              simp only [Act.put, List.setIfInBounds_toArray, List.set_cons_zero, List.set_cons_succ, i64_w, i32_w]
              rfl
             refine pureA 6 83 (bz 12 639) rfl rfl (any_of HT_.out (by kernel_rfl)) ?_
             refine pureA 7 90 (bz 12 767) rfl rfl (any_of HT_.out (by kernel_rfl)) ?_
             refine pureA 8 91 (bz 12 1023) rfl rfl (any_of HT_.out (by kernel_rfl)) ?_
             exact norm_ (by simp only [putAll, Act.put, List.setIfInBounds_toArray, List.set_cons_zero, List.set_cons_succ]) (hCont (.slice Ao143 t404.length co143, v410, gb413) _ ⟨hHeld, (by (with_reducible repeat (first | apply Kd.R_alloc | apply Kd.R_drewN | apply Kd.R_drew)); exact Kd.R_mono HO406.out (fun _ hk => ⟨hk.2, ⟨hk.1.1.1.2, ⟨hk.1.1.2, hk.1.2⟩⟩⟩)), (by (with_reducible repeat (first | apply Kd.R_alloc | apply Kd.R_drewN | apply Kd.R_drew)); exact Kd.R_mono HO411.out (fun _ hk => ⟨hk.2, ⟨hk.1.1.1.2, ⟨hk.1.1.2, hk.1.2⟩⟩⟩)), (by (with_reducible repeat (first | apply Kd.R_alloc | apply Kd.R_drewN | apply Kd.R_drew)); exact Kd.R_mono HO_362002.out (fun _ hk => ⟨hk.1.2, ⟨hk.2, ⟨hk.1.1.1, hk.1.1.2⟩⟩⟩)), (by (with_reducible repeat (first | apply Kd.R_alloc | apply Kd.R_drewN | apply Kd.R_drew)); exact Kd.R_mono HO_368002.out (fun _ hk => ⟨hk.1.2, ⟨hk.2, ⟨hk.1.1.1, hk.1.1.2⟩⟩⟩)), (by (with_reducible repeat (first | apply Kd.R_alloc | apply Kd.R_drewN | apply Kd.R_drew)); exact Kd.R_mono HO_382002.out (fun _ hk => ⟨hk.1.2, ⟨hk.2, ⟨hk.1.1.1, hk.1.1.2⟩⟩⟩)), (bV BK340), (bV BK341), (bV BK361), (bV BK367), (bV BK381), (bV BK413), GW413.out, GE413.out, NB340_413.out, NB413_340.out, NB341_413.out, NB413_341.out, NB361_413.out, NB413_361.out, NB367_413.out, NB413_367.out, NB381_413.out, NB413_381.out, (lV6 GE340 GE341 GE361 GE367 GE381 GE413)⟩)
           rintro ⟨v405, v410, gb413⟩ w145 ⟨hS_, h0_, h1_, h2_, h3_, h4_, h5_, h6_, h7_, h8_, h9_, h10_, h11_, h12_, h13_, h14_, h15_, h16_, h17_, h18_, h19_, h20_, h21_, h22_, h23_⟩
           have HO406 : Aside0 (Kd.R k48 48 w145 w.heap.size (fun k_ => some k_ ≠ (v410 : Value).ownBlock ∧ some k_ ≠ (.slice Ao32 t357.length co32 : Value).ownBlock ∧ some k_ ≠ (.slice Ao42 t390.length co42 : Value).ownBlock ∧ some k_ ≠ (.slice Ao51 t377.length co51 : Value).ownBlock) v405 t404) := ⟨h0_⟩
           have HO411 : Aside0 (Kd.R k48 48 w145 w.heap.size (fun k_ => some k_ ≠ (v405 : Value).ownBlock ∧ some k_ ≠ (.slice Ao32 t357.length co32 : Value).ownBlock ∧ some k_ ≠ (.slice Ao42 t390.length co42 : Value).ownBlock ∧ some k_ ≠ (.slice Ao51 t377.length co51 : Value).ownBlock) v410 t409) := ⟨h1_⟩
           replace HO_362002 : Aside0 (Kd.R k48 48 w145 w.heap.size (fun k_ => some k_ ≠ (v405 : Value).ownBlock ∧ some k_ ≠ (v410 : Value).ownBlock ∧ some k_ ≠ (.slice Ao42 t390.length co42 : Value).ownBlock ∧ some k_ ≠ (.slice Ao51 t377.length co51 : Value).ownBlock) (.slice Ao32 t357.length co32) t357) := ⟨h2_⟩
           replace HO_368002 : Aside0 (Kd.R k48 48 w145 w.heap.size (fun k_ => some k_ ≠ (v405 : Value).ownBlock ∧ some k_ ≠ (v410 : Value).ownBlock ∧ some k_ ≠ (.slice Ao32 t357.length co32 : Value).ownBlock ∧ some k_ ≠ (.slice Ao51 t377.length co51 : Value).ownBlock) (.slice Ao42 t390.length co42) t390) := ⟨h3_⟩
           replace HO_382002 : Aside0 (Kd.R k48 48 w145 w.heap.size (fun k_ => some k_ ≠ (v405 : Value).ownBlock ∧ some k_ ≠ (v410 : Value).ownBlock ∧ some k_ ≠ (.slice Ao32 t357.length co32 : Value).ownBlock ∧ some k_ ≠ (.slice Ao42 t390.length co42 : Value).ownBlock) (.slice Ao51 t377.length co51) t393) := ⟨h4_⟩
           replace BK340 : Aside0 (w145.heap[gb340]? = some (.cells #[.int .i64 a0_0, .int .i64 a0_1, .int .i64 a0_2, .int .i64 a0_3, .int .i64 a0_4, .int .i64 a0_5, .int .i64 a0_6] 23 (0, 0))) := ⟨h5_⟩
           replace BK341 : Aside0 (w145.heap[gb341]? = some (.cells #[.int .i64 a1_0, .int .i64 a1_1, .slice A1_2 l1_2.length c1_2] 31 (0, 0))) := ⟨h6_⟩
           replace BK361 : Aside0 (w145.heap[gb361]? = some (.cells #[.int .i64 t355, .int .i64 t356, .slice Ao32 t357.length co32] 35 (0, 0))) := ⟨h7_⟩
           replace BK367 : Aside0 (w145.heap[gb367]? = some (.cells #[.int .i64 t362, .int .i64 t363, .slice Ao42 t390.length co42] 35 (0, 0))) := ⟨h8_⟩
           replace BK381 : Aside0 (w145.heap[gb381]? = some (.cells #[.int .i64 t375, .int .i64 t376, .slice Ao51 t377.length co51] 35 (0, 0))) := ⟨h9_⟩
           have BK413 : Aside0 (w145.heap[gb413]? = some (.cells #[.int .i64 0, .int .i64 0, .slice none 0 0] 35 (0, 0))) := ⟨h10_⟩
           have GW413 : Aside0 (w.heap.size ≤ gb413) := ⟨h11_⟩
           have GE413 : Aside0 (w.heap.size ≤ gb413) := ⟨h12_⟩
           have NB340_413 : Aside0 (gb340 ≠ gb413) := ⟨h13_⟩
           have NB413_340 : Aside0 (gb413 ≠ gb340) := ⟨h14_⟩
           have NB341_413 : Aside0 (gb341 ≠ gb413) := ⟨h15_⟩
           have NB413_341 : Aside0 (gb413 ≠ gb341) := ⟨h16_⟩
           have NB361_413 : Aside0 (gb361 ≠ gb413) := ⟨h17_⟩
           have NB413_361 : Aside0 (gb413 ≠ gb361) := ⟨h18_⟩
           have NB367_413 : Aside0 (gb367 ≠ gb413) := ⟨h19_⟩
           have NB413_367 : Aside0 (gb413 ≠ gb367) := ⟨h20_⟩
           have NB381_413 : Aside0 (gb381 ≠ gb413) := ⟨h21_⟩
           have NB413_381 : Aside0 (gb413 ≠ gb381) := ⟨h22_⟩
           replace HB : Aside0 (Below w.heap.size w w145) := ⟨h23_⟩
           clear h0_ h1_ h2_ h3_ h4_ h5_ h6_ h7_ h8_ h9_ h10_ h11_ h12_ h13_ h14_ h15_ h16_ h17_ h18_ h19_ h20_ h21_ h22_ h23_
           have hHeld : w145.cell? ⟨gb340, 0, none⟩ = some (.int .i64 a0_0) ∧ w145.cell? ⟨gb340, 1, none⟩ = some (.int .i64 a0_1) ∧ w145.cell? ⟨gb340, 2, none⟩ = some (.int .i64 a0_2) ∧ w145.cell? ⟨gb340, 3, none⟩ = some (.int .i64 a0_3) ∧ w145.cell? ⟨gb340, 4, none⟩ = some (.int .i64 a0_4) ∧ w145.cell? ⟨gb340, 5, none⟩ = some (.int .i64 a0_5) ∧ w145.cell? ⟨gb340, 6, none⟩ = some (.int .i64 a0_6) ∧ w145.cell? ⟨gb341, 0, none⟩ = some (.int .i64 a1_0) ∧ w145.cell? ⟨gb341, 1, none⟩ = some (.int .i64 a1_1) ∧ w145.cell? ⟨gb341, 2, none⟩ = some (.slice A1_2 l1_2.length c1_2) := hS_
           obtain ⟨Ao148, co148, eo148⟩ := Kd.R_slice HO411.out
           (first | subst eo148 | (injection eo148 with f1_ f2_ f3_; have f4_ := f1_.symm; have f5_ := f3_.symm; clear f1_ f2_ f3_; subst f4_; subst f5_))
           refine norm_ (a' := ?_) ?_ ?_
           rotate_left
           ·simp only [putAll, Act.put, List.setIfInBounds_toArray, List.set_cons_zero, List.set_cons_succ]
            rfl
           refine one_ (i := 10) (N := none) (bz 12 2047) rfl rfl (one_of HT_.out (by kernel_rfl)) (by decide) (fun K hK => ?_)
           have hs146 : w145.cell? ⟨gb413, 0, none⟩ = some (.int .i64 0) := (blk_cell BK413.out 0).trans rfl
           have hfs146 := blk_frozen BK413.out 0
           have hns146_0 := NB340_413.out
           have hns146_1 := NB341_413.out
           have hns146_2 := NB361_413.out
           have hns146_3 := NB367_413.out
           have hns146_4 := NB381_413.out
           have hms146_0 := NB413_340.out
           have hms146_1 := NB413_341.out
           have hms146_2 := NB413_361.out
           have hms146_3 := NB413_367.out
           have hms146_4 := NB413_381.out
           have hs147 : w145.cell? ⟨gb413, 1, none⟩ = some (.int .i64 0) := (blk_cell BK413.out 1).trans rfl
           have hfs147 := blk_frozen BK413.out 1
           have hns147_0 := NB340_413.out
           have hns147_1 := NB341_413.out
           have hns147_2 := NB361_413.out
           have hns147_3 := NB367_413.out
           have hns147_4 := NB381_413.out
           have hms147_0 := NB413_340.out
           have hms147_1 := NB413_341.out
           have hms147_2 := NB413_361.out
           have hms147_3 := NB413_367.out
           have hms147_4 := NB413_381.out
           have hs149 : w145.cell? ⟨gb413, 2, none⟩ = some (.slice none 0 0) := (blk_cell BK413.out 2).trans rfl
           have hfs149 := blk_frozen BK413.out 2
           have hns149_0 := NB340_413.out
           have hns149_1 := NB341_413.out
           have hns149_2 := NB361_413.out
           have hns149_3 := NB367_413.out
           have hns149_4 := NB381_413.out
           have hms149_0 := NB413_340.out
           have hms149_1 := NB413_341.out
           have hms149_2 := NB413_361.out
           have hms149_3 := NB413_367.out
           have hms149_4 := NB413_381.out
           refine skip_ (w1 := ?_) (by rfl) rfl ?_ ?_
           rotate_left
           ·go_simp
            rfl
           refine hK.out _ _ ⟨((cell_far (p := ⟨gb413, _, none⟩) NB340_413.out _).trans (((cell_far (p := ⟨gb413, _, none⟩) NB340_413.out _).trans (((cell_far (p := ⟨gb413, _, none⟩) NB340_413.out _).trans (hHeld.1)))))), ((cell_far (p := ⟨gb413, _, none⟩) NB340_413.out _).trans (((cell_far (p := ⟨gb413, _, none⟩) NB340_413.out _).trans (((cell_far (p := ⟨gb413, _, none⟩) NB340_413.out _).trans (hHeld.2.1)))))), ((cell_far (p := ⟨gb413, _, none⟩) NB340_413.out _).trans (((cell_far (p := ⟨gb413, _, none⟩) NB340_413.out _).trans (((cell_far (p := ⟨gb413, _, none⟩) NB340_413.out _).trans (hHeld.2.2.1)))))), ((cell_far (p := ⟨gb413, _, none⟩) NB340_413.out _).trans (((cell_far (p := ⟨gb413, _, none⟩) NB340_413.out _).trans (((cell_far (p := ⟨gb413, _, none⟩) NB340_413.out _).trans (hHeld.2.2.2.1)))))), ((cell_far (p := ⟨gb413, _, none⟩) NB340_413.out _).trans (((cell_far (p := ⟨gb413, _, none⟩) NB340_413.out _).trans (((cell_far (p := ⟨gb413, _, none⟩) NB340_413.out _).trans (hHeld.2.2.2.2.1)))))), ((cell_far (p := ⟨gb413, _, none⟩) NB340_413.out _).trans (((cell_far (p := ⟨gb413, _, none⟩) NB340_413.out _).trans (((cell_far (p := ⟨gb413, _, none⟩) NB340_413.out _).trans (hHeld.2.2.2.2.2.1)))))), ((cell_far (p := ⟨gb413, _, none⟩) NB340_413.out _).trans (((cell_far (p := ⟨gb413, _, none⟩) NB340_413.out _).trans (((cell_far (p := ⟨gb413, _, none⟩) NB340_413.out _).trans (hHeld.2.2.2.2.2.2.1)))))), ((cell_far (p := ⟨gb413, _, none⟩) NB341_413.out _).trans (((cell_far (p := ⟨gb413, _, none⟩) NB341_413.out _).trans (((cell_far (p := ⟨gb413, _, none⟩) NB341_413.out _).trans (hHeld.2.2.2.2.2.2.2.1)))))), ((cell_far (p := ⟨gb413, _, none⟩) NB341_413.out _).trans (((cell_far (p := ⟨gb413, _, none⟩) NB341_413.out _).trans (((cell_far (p := ⟨gb413, _, none⟩) NB341_413.out _).trans (hHeld.2.2.2.2.2.2.2.2.1)))))), ((cell_far (p := ⟨gb413, _, none⟩) NB341_413.out _).trans (((cell_far (p := ⟨gb413, _, none⟩) NB341_413.out _).trans (((cell_far (p := ⟨gb413, _, none⟩) NB341_413.out _).trans (hHeld.2.2.2.2.2.2.2.2.2))))))⟩ (fun hHeld => ?_)
           clear hK K
           refine pureA 11 17 (bz 12 4095) rfl rfl (any_of HT_.out (by kernel_rfl)) ?_
           refine done_ (done_of HT_.out (by kernel_rfl)) ?_
           go_upto_region 25 with (fail)
           go_cut [100] (fun v100 wc => ∃ (kq : Nat) (x100_129 : Bool), v100 = .bool x100_129 ∧ Aside0 (laws_FnExactRunCloud.j2 kq t392 x100_129 t375 t376 t393 = some r) ∧ Aside0 (kq ≤ kj79) ∧ Aside0 (Kd.R k48 48 wc w.heap.size (fun k_ => some k_ ≠ ((.slice Ao42 t390.length co42) : Value).ownBlock ∧ some k_ ≠ ((.slice Ao51 t377.length co51) : Value).ownBlock ∧ some k_ ≠ ((.slice Ao148 t409.length co148) : Value).ownBlock) (.slice Ao32 t357.length co32) t357) ∧ Aside0 (Kd.R k48 48 wc w.heap.size (fun k_ => some k_ ≠ ((.slice Ao32 t357.length co32) : Value).ownBlock ∧ some k_ ≠ ((.slice Ao51 t377.length co51) : Value).ownBlock ∧ some k_ ≠ ((.slice Ao148 t409.length co148) : Value).ownBlock) (.slice Ao42 t390.length co42) t390) ∧ Aside0 (Kd.R k48 48 wc w.heap.size (fun k_ => some k_ ≠ ((.slice Ao32 t357.length co32) : Value).ownBlock ∧ some k_ ≠ ((.slice Ao42 t390.length co42) : Value).ownBlock ∧ some k_ ≠ ((.slice Ao148 t409.length co148) : Value).ownBlock) (.slice Ao51 t377.length co51) t393) ∧ Aside0 (Kd.R k48 48 wc w.heap.size (fun k_ => some k_ ≠ ((.slice Ao32 t357.length co32) : Value).ownBlock ∧ some k_ ≠ ((.slice Ao42 t390.length co42) : Value).ownBlock ∧ some k_ ≠ ((.slice Ao51 t377.length co51) : Value).ownBlock) (.slice Ao148 t409.length co148) t409) ∧ Aside0 (wc.heap[gb340]? = some (.cells #[.int .i64 a0_0, .int .i64 a0_1, .int .i64 a0_2, .int .i64 a0_3, .int .i64 a0_4, .int .i64 a0_5, .int .i64 a0_6] 23 (0, 0))) ∧ Aside0 (wc.heap[gb341]? = some (.cells #[.int .i64 a1_0, .int .i64 a1_1, (.slice A1_2 l1_2.length c1_2)] 31 (0, 0))) ∧ Aside0 (wc.heap[gb361]? = some (.cells #[.int .i64 t355, .int .i64 t356, (.slice Ao32 t357.length co32)] 35 (0, 0))) ∧ Aside0 (wc.heap[gb367]? = some (.cells #[.int .i64 t362, .int .i64 t363, (.slice Ao42 t390.length co42)] 35 (0, 0))) ∧ Aside0 (wc.heap[gb381]? = some (.cells #[.int .i64 t375, .int .i64 t376, (.slice Ao51 t377.length co51)] 35 (0, 0))) ∧ Aside0 (wc.heap[gb413]? = some (.cells #[.int .i64 t407, .int .i64 t408, (.slice Ao148 t409.length co148)] 35 (0, 0))) ∧ Aside0 (Below w.heap.size w wc))
           case first =>
            have H := HC130.out
            clear HC130
            replace H := Option.bind_eq_some_iff.mp H
            obtain ⟨t414, A1500, H⟩ := H
            replace H : (if t414 = true then (laws_FnExactRunCloud.j2 kj79 t392 (t412 != t360) t375 t376 t393) else (laws_FnExactRunCloud.j2 kj79 t392 true t375 t376 t393)) = some r := H
            have A150 := Aside0.mk A1500
            clear A1500
            by_cases c151 : t414 = true
            ·subst c151
             have H1 : (laws_FnExactRunCloud.j2 kj79 t392 (t412 != t360) t375 t376 t393) = some r := by rw [if_pos rfl] at H; exact H
             clear H
             have H := H1
             clear H1
             have H' := Aside0.mk H
             clear H
             have hnb152 := NB413_340.out
             have hnc152 := NB340_413.out
             have hnb153 := NB413_341.out
             have hnc153 := NB341_413.out
             have hnb154 := NB413_361.out
             have hnc154 := NB361_413.out
             have hnb155 := NB413_367.out
             have hnc155 := NB367_413.out
             have hnb156 := NB413_381.out
             have hnc156 := NB381_413.out
             have hcz157_0 := cz BK413 0 (.int .i64 0)
             have hcz157_1 := cz BK413 1 (.int .i64 0)
             have hcz157_2 := cz BK413 2 (.slice none 0 0)
             have hfz157_0 := fz BK413 0
             have hfz157_1 := fz BK413 1
             have hfz157_2 := fz BK413 2
             have hnb158 := NB361_340.out
             have hnc158 := NB340_361.out
             have hnb159 := NB361_341.out
             have hnc159 := NB341_361.out
             have hnb160 := NB361_367.out
             have hnc160 := NB367_361.out
             have hnb161 := NB361_381.out
             have hnc161 := NB381_361.out
             have hcz162_0 := cz BK361 0 (.int .i64 t355)
             have hcz162_1 := cz BK361 1 (.int .i64 t356)
             have hcz162_2 := cz BK361 2 (.slice Ao32 t357.length co32)
             have hfz162_0 := fz BK361 0
             have hfz162_1 := fz BK361 1
             have hfz162_2 := fz BK361 2
             go_wp2_with (first | ((with_reducible refine gate_callee (f := 13) rfl ?_); refine goesL_ (some 94) rfl rfl Try.func13 (by kernel_rfl) rfl #[.agg #[.int .i64 t407, .int .i64 t408, .slice Ao148 t409.length co148], .agg #[.int .i64 t355, .int .i64 t356, .slice Ao32 t357.length co32]] rfl aE ?_; (with_reducible refine (laws_eqCloud.calls kj79 t407 t408 _ _ t409 t355 t356 _ _ t357 true _ ?side1 ?side2 ?side3 ?side4 A150.out).mono ?_); (case side1 => refine (Kd.R_reads' (e := 48) (base := w.heap.size) (ok := fun k_ => (some k_ ≠ (v405 : Value).ownBlock ∧ (some k_ ≠ (.slice Ao32 t357.length co32 : Value).ownBlock ∧ (some k_ ≠ (.slice Ao42 t390.length co42 : Value).ownBlock ∧ some k_ ≠ (.slice Ao51 t377.length co51 : Value).ownBlock)))) (n := t409.length) (c := co148) ?_).2.2; exact (rU (Kd.R_mono (Kd.R_far (p := ⟨gb413, 2, none⟩) (Kd.R_far (p := ⟨gb413, 1, none⟩) (Kd.R_far (p := ⟨gb413, 0, none⟩) (Kd.R_types HO411.out BK413.out (by decide)) (fun _ hk => hk.2) (.int .i64 t407)) (fun _ hk => hk.2) (.int .i64 t408)) (fun _ hk => hk.2) (.slice Ao148 t409.length co148)) (fun _ h_ => h_.1)))); (case side2 => exact (Kd.R_reads' HO411.out).2.1); (case side3 => refine (Kd.R_reads' (e := 48) (base := w.heap.size) (ok := fun k_ => (some k_ ≠ (v405 : Value).ownBlock ∧ (some k_ ≠ (.slice Ao148 t409.length co148 : Value).ownBlock ∧ (some k_ ≠ (.slice Ao42 t390.length co42 : Value).ownBlock ∧ some k_ ≠ (.slice Ao51 t377.length co51 : Value).ownBlock)))) (n := t357.length) (c := co32) ?_).2.2; exact (rU (Kd.R_mono (Kd.R_far (p := ⟨gb413, 2, none⟩) (Kd.R_far (p := ⟨gb413, 1, none⟩) (Kd.R_far (p := ⟨gb413, 0, none⟩) (Kd.R_types HO_362002.out BK413.out (by decide)) (fun _ hk => hk.2) (.int .i64 t407)) (fun _ hk => hk.2) (.int .i64 t408)) (fun _ hk => hk.2) (.slice Ao148 t409.length co148)) (fun _ h_ => h_.1)))); (case side4 => exact (Kd.R_reads' HO_362002.out).2.1); rintro e w163 ⟨rfl, hb⟩; refine ⟨_, rfl, ?_⟩; replace HO_362002 := Aside0.mk (Kd.R_below (rU (Kd.R_mono (Kd.R_far (p := ⟨gb413, 2, none⟩) (Kd.R_far (p := ⟨gb413, 1, none⟩) (Kd.R_far (p := ⟨gb413, 0, none⟩) (Kd.R_types HO_362002.out BK413.out (by decide)) (fun _ hk => hk.2) (.int .i64 t407)) (fun _ hk => hk.2) (.int .i64 t408)) (fun _ hk => hk.2) (.slice Ao148 t409.length co148)) (fun _ h_ => h_.1))) hb); replace HO_368002 := Aside0.mk (Kd.R_below (rU (Kd.R_mono (Kd.R_far (p := ⟨gb413, 2, none⟩) (Kd.R_far (p := ⟨gb413, 1, none⟩) (Kd.R_far (p := ⟨gb413, 0, none⟩) (Kd.R_types HO_368002.out BK413.out (by decide)) (fun _ hk => hk.2) (.int .i64 t407)) (fun _ hk => hk.2) (.int .i64 t408)) (fun _ hk => hk.2) (.slice Ao148 t409.length co148)) (fun _ h_ => h_.1))) hb); replace HO_382002 := Aside0.mk (Kd.R_below (rU (Kd.R_mono (Kd.R_far (p := ⟨gb413, 2, none⟩) (Kd.R_far (p := ⟨gb413, 1, none⟩) (Kd.R_far (p := ⟨gb413, 0, none⟩) (Kd.R_types HO_382002.out BK413.out (by decide)) (fun _ hk => hk.2) (.int .i64 t407)) (fun _ hk => hk.2) (.int .i64 t408)) (fun _ hk => hk.2) (.slice Ao148 t409.length co148)) (fun _ h_ => h_.1))) hb); replace HO406 := Aside0.mk (Kd.R_below (rU (Kd.R_mono (Kd.R_far (p := ⟨gb413, 2, none⟩) (Kd.R_far (p := ⟨gb413, 1, none⟩) (Kd.R_far (p := ⟨gb413, 0, none⟩) (Kd.R_types HO406.out BK413.out (by decide)) (fun _ hk => hk.2) (.int .i64 t407)) (fun _ hk => hk.2) (.int .i64 t408)) (fun _ hk => hk.2) (.slice Ao148 t409.length co148)) (fun _ h_ => h_.1))) hb); replace HO411 := Aside0.mk (Kd.R_below (rU (Kd.R_mono (Kd.R_far (p := ⟨gb413, 2, none⟩) (Kd.R_far (p := ⟨gb413, 1, none⟩) (Kd.R_far (p := ⟨gb413, 0, none⟩) (Kd.R_types HO411.out BK413.out (by decide)) (fun _ hk => hk.2) (.int .i64 t407)) (fun _ hk => hk.2) (.int .i64 t408)) (fun _ hk => hk.2) (.slice Ao148 t409.length co148)) (fun _ h_ => h_.1))) hb); replace BK340 := bB (bG NB340_413 BK340) hb; replace BK341 := bB (bG NB341_413 BK341) hb; replace BK361 := bB (bG NB361_413 BK361) hb; replace BK367 := bB (bG NB367_413 BK367) hb; replace BK381 := bB (bG NB381_413 BK381) hb; replace BK413 := Aside0.mk (blk_below (g := gb413) (o := .cells #[.int .i64 t407, .int .i64 t408, .slice Ao148 t409.length co148] 35 (0, 0)) (by refine bU ?_; refine blk_put (cs := #[.int .i64 t407, .int .i64 t408, .slice none 0 0]) ?_ 2 _ rfl; refine bU ?_; refine blk_put (cs := #[.int .i64 t407, .int .i64 0, .slice none 0 0]) ?_ 1 _ rfl; refine bU ?_; refine blk_put (cs := #[.int .i64 0, .int .i64 0, .slice none 0 0]) ?_ 0 _ rfl; refine bU ?_; exact BK413.out) hb); replace HB := bH (lV6 GE340 GE341 GE361 GE367 GE381 GE413) hb; (try clear hb)))
             go_meet
             case rel => exact ⟨_, ((t412 != t360)), tE, H', ⟨by have := HJ16.out; have := HJ79.out; first | omega | exact Nat.le_refl _⟩, ⟨by (try simp only [hl368002_79]); (with_reducible repeat (first | apply Kd.R_alloc | apply Kd.R_drewN | apply Kd.R_drew)); exact Kd.R_mono HO_362002.out (fun _ hk => ⟨hk.2.2.1, ⟨hk.2.2.2, hk.2.1⟩⟩)⟩, ⟨by (try simp only [hl368002_79]); (with_reducible repeat (first | apply Kd.R_alloc | apply Kd.R_drewN | apply Kd.R_drew)); exact Kd.R_mono HO_368002.out (fun _ hk => ⟨hk.2.2.1, ⟨hk.2.2.2, hk.2.1⟩⟩)⟩, ⟨by (try simp only [hl368002_79]); (with_reducible repeat (first | apply Kd.R_alloc | apply Kd.R_drewN | apply Kd.R_drew)); exact Kd.R_mono HO_382002.out (fun _ hk => ⟨hk.2.2.1, ⟨hk.2.2.2, hk.2.1⟩⟩)⟩, ⟨by (try simp only [hl368002_79]); (with_reducible repeat (first | apply Kd.R_alloc | apply Kd.R_drewN | apply Kd.R_drew)); exact Kd.R_mono HO411.out (fun _ hk => ⟨hk.2.1, ⟨hk.2.2.1, hk.2.2.2⟩⟩)⟩, ⟨by (try simp only [hl368002_79]); refine bU ?_; exact BK340.out⟩, ⟨by (try simp only [hl368002_79]); refine bU ?_; exact BK341.out⟩, ⟨by (try simp only [hl368002_79]); refine bU ?_; exact BK361.out⟩, ⟨by (try simp only [hl368002_79]); refine bU ?_; exact BK367.out⟩, ⟨by (try simp only [hl368002_79]); refine bU ?_; exact BK381.out⟩, ⟨by (try simp only [hl368002_79]); refine bU ?_; exact BK413.out⟩, ⟨by repeat (first | (with_reducible first | exact HB.out | apply below_alloc | apply pw_below_drewN | apply below_drew1 | refine below_set ?_ GE340.out | refine below_set ?_ GE341.out | refine below_set ?_ GE361.out | refine below_set ?_ GE367.out | refine below_set ?_ GE381.out | refine below_set ?_ GE413.out) | exact HB.out)⟩⟩
            ·replace c151 := Bool.eq_false_iff.mpr c151
             subst c151
             have H1 : (laws_FnExactRunCloud.j2 kj79 t392 true t375 t376 t393) = some r := by rw [if_neg (show ¬ (false = true) by decide)] at H; exact H
             clear H
             have H := H1
             clear H1
             have H' := Aside0.mk H
             clear H
             have hnb164 := NB413_340.out
             have hnc164 := NB340_413.out
             have hnb165 := NB413_341.out
             have hnc165 := NB341_413.out
             have hnb166 := NB413_361.out
             have hnc166 := NB361_413.out
             have hnb167 := NB413_367.out
             have hnc167 := NB367_413.out
             have hnb168 := NB413_381.out
             have hnc168 := NB381_413.out
             have hcz169_0 := cz BK413 0 (.int .i64 0)
             have hcz169_1 := cz BK413 1 (.int .i64 0)
             have hcz169_2 := cz BK413 2 (.slice none 0 0)
             have hfz169_0 := fz BK413 0
             have hfz169_1 := fz BK413 1
             have hfz169_2 := fz BK413 2
             have hnb170 := NB361_340.out
             have hnc170 := NB340_361.out
             have hnb171 := NB361_341.out
             have hnc171 := NB341_361.out
             have hnb172 := NB361_367.out
             have hnc172 := NB367_361.out
             have hnb173 := NB361_381.out
             have hnc173 := NB381_361.out
             have hcz174_0 := cz BK361 0 (.int .i64 t355)
             have hcz174_1 := cz BK361 1 (.int .i64 t356)
             have hcz174_2 := cz BK361 2 (.slice Ao32 t357.length co32)
             have hfz174_0 := fz BK361 0
             have hfz174_1 := fz BK361 1
             have hfz174_2 := fz BK361 2
             go_wp2_with (first | ((with_reducible refine gate_callee (f := 13) rfl ?_); refine goesL_ (some 94) rfl rfl Try.func13 (by kernel_rfl) rfl #[.agg #[.int .i64 t407, .int .i64 t408, .slice Ao148 t409.length co148], .agg #[.int .i64 t355, .int .i64 t356, .slice Ao32 t357.length co32]] rfl aE ?_; (with_reducible refine (laws_eqCloud.calls kj79 t407 t408 _ _ t409 t355 t356 _ _ t357 false _ ?side1 ?side2 ?side3 ?side4 A150.out).mono ?_); (case side1 => refine (Kd.R_reads' (e := 48) (base := w.heap.size) (ok := fun k_ => (some k_ ≠ (v405 : Value).ownBlock ∧ (some k_ ≠ (.slice Ao32 t357.length co32 : Value).ownBlock ∧ (some k_ ≠ (.slice Ao42 t390.length co42 : Value).ownBlock ∧ some k_ ≠ (.slice Ao51 t377.length co51 : Value).ownBlock)))) (n := t409.length) (c := co148) ?_).2.2; exact (rU (Kd.R_mono (Kd.R_far (p := ⟨gb413, 2, none⟩) (Kd.R_far (p := ⟨gb413, 1, none⟩) (Kd.R_far (p := ⟨gb413, 0, none⟩) (Kd.R_types HO411.out BK413.out (by decide)) (fun _ hk => hk.2) (.int .i64 t407)) (fun _ hk => hk.2) (.int .i64 t408)) (fun _ hk => hk.2) (.slice Ao148 t409.length co148)) (fun _ h_ => h_.1)))); (case side2 => exact (Kd.R_reads' HO411.out).2.1); (case side3 => refine (Kd.R_reads' (e := 48) (base := w.heap.size) (ok := fun k_ => (some k_ ≠ (v405 : Value).ownBlock ∧ (some k_ ≠ (.slice Ao148 t409.length co148 : Value).ownBlock ∧ (some k_ ≠ (.slice Ao42 t390.length co42 : Value).ownBlock ∧ some k_ ≠ (.slice Ao51 t377.length co51 : Value).ownBlock)))) (n := t357.length) (c := co32) ?_).2.2; exact (rU (Kd.R_mono (Kd.R_far (p := ⟨gb413, 2, none⟩) (Kd.R_far (p := ⟨gb413, 1, none⟩) (Kd.R_far (p := ⟨gb413, 0, none⟩) (Kd.R_types HO_362002.out BK413.out (by decide)) (fun _ hk => hk.2) (.int .i64 t407)) (fun _ hk => hk.2) (.int .i64 t408)) (fun _ hk => hk.2) (.slice Ao148 t409.length co148)) (fun _ h_ => h_.1)))); (case side4 => exact (Kd.R_reads' HO_362002.out).2.1); rintro e w175 ⟨rfl, hb⟩; refine ⟨_, rfl, ?_⟩; replace HO_362002 := Aside0.mk (Kd.R_below (rU (Kd.R_mono (Kd.R_far (p := ⟨gb413, 2, none⟩) (Kd.R_far (p := ⟨gb413, 1, none⟩) (Kd.R_far (p := ⟨gb413, 0, none⟩) (Kd.R_types HO_362002.out BK413.out (by decide)) (fun _ hk => hk.2) (.int .i64 t407)) (fun _ hk => hk.2) (.int .i64 t408)) (fun _ hk => hk.2) (.slice Ao148 t409.length co148)) (fun _ h_ => h_.1))) hb); replace HO_368002 := Aside0.mk (Kd.R_below (rU (Kd.R_mono (Kd.R_far (p := ⟨gb413, 2, none⟩) (Kd.R_far (p := ⟨gb413, 1, none⟩) (Kd.R_far (p := ⟨gb413, 0, none⟩) (Kd.R_types HO_368002.out BK413.out (by decide)) (fun _ hk => hk.2) (.int .i64 t407)) (fun _ hk => hk.2) (.int .i64 t408)) (fun _ hk => hk.2) (.slice Ao148 t409.length co148)) (fun _ h_ => h_.1))) hb); replace HO_382002 := Aside0.mk (Kd.R_below (rU (Kd.R_mono (Kd.R_far (p := ⟨gb413, 2, none⟩) (Kd.R_far (p := ⟨gb413, 1, none⟩) (Kd.R_far (p := ⟨gb413, 0, none⟩) (Kd.R_types HO_382002.out BK413.out (by decide)) (fun _ hk => hk.2) (.int .i64 t407)) (fun _ hk => hk.2) (.int .i64 t408)) (fun _ hk => hk.2) (.slice Ao148 t409.length co148)) (fun _ h_ => h_.1))) hb); replace HO406 := Aside0.mk (Kd.R_below (rU (Kd.R_mono (Kd.R_far (p := ⟨gb413, 2, none⟩) (Kd.R_far (p := ⟨gb413, 1, none⟩) (Kd.R_far (p := ⟨gb413, 0, none⟩) (Kd.R_types HO406.out BK413.out (by decide)) (fun _ hk => hk.2) (.int .i64 t407)) (fun _ hk => hk.2) (.int .i64 t408)) (fun _ hk => hk.2) (.slice Ao148 t409.length co148)) (fun _ h_ => h_.1))) hb); replace HO411 := Aside0.mk (Kd.R_below (rU (Kd.R_mono (Kd.R_far (p := ⟨gb413, 2, none⟩) (Kd.R_far (p := ⟨gb413, 1, none⟩) (Kd.R_far (p := ⟨gb413, 0, none⟩) (Kd.R_types HO411.out BK413.out (by decide)) (fun _ hk => hk.2) (.int .i64 t407)) (fun _ hk => hk.2) (.int .i64 t408)) (fun _ hk => hk.2) (.slice Ao148 t409.length co148)) (fun _ h_ => h_.1))) hb); replace BK340 := bB (bG NB340_413 BK340) hb; replace BK341 := bB (bG NB341_413 BK341) hb; replace BK361 := bB (bG NB361_413 BK361) hb; replace BK367 := bB (bG NB367_413 BK367) hb; replace BK381 := bB (bG NB381_413 BK381) hb; replace BK413 := Aside0.mk (blk_below (g := gb413) (o := .cells #[.int .i64 t407, .int .i64 t408, .slice Ao148 t409.length co148] 35 (0, 0)) (by refine bU ?_; refine blk_put (cs := #[.int .i64 t407, .int .i64 t408, .slice none 0 0]) ?_ 2 _ rfl; refine bU ?_; refine blk_put (cs := #[.int .i64 t407, .int .i64 0, .slice none 0 0]) ?_ 1 _ rfl; refine bU ?_; refine blk_put (cs := #[.int .i64 0, .int .i64 0, .slice none 0 0]) ?_ 0 _ rfl; refine bU ?_; exact BK413.out) hb); replace HB := bH (lV6 GE340 GE341 GE361 GE367 GE381 GE413) hb; (try clear hb)))
             go_meet
             case rel => exact ⟨_, (true), tE, H', ⟨by have := HJ16.out; have := HJ79.out; first | omega | exact Nat.le_refl _⟩, ⟨by (try simp only [hl368002_79]); (with_reducible repeat (first | apply Kd.R_alloc | apply Kd.R_drewN | apply Kd.R_drew)); exact Kd.R_mono HO_362002.out (fun _ hk => ⟨hk.2.2.1, ⟨hk.2.2.2, hk.2.1⟩⟩)⟩, ⟨by (try simp only [hl368002_79]); (with_reducible repeat (first | apply Kd.R_alloc | apply Kd.R_drewN | apply Kd.R_drew)); exact Kd.R_mono HO_368002.out (fun _ hk => ⟨hk.2.2.1, ⟨hk.2.2.2, hk.2.1⟩⟩)⟩, ⟨by (try simp only [hl368002_79]); (with_reducible repeat (first | apply Kd.R_alloc | apply Kd.R_drewN | apply Kd.R_drew)); exact Kd.R_mono HO_382002.out (fun _ hk => ⟨hk.2.2.1, ⟨hk.2.2.2, hk.2.1⟩⟩)⟩, ⟨by (try simp only [hl368002_79]); (with_reducible repeat (first | apply Kd.R_alloc | apply Kd.R_drewN | apply Kd.R_drew)); exact Kd.R_mono HO411.out (fun _ hk => ⟨hk.2.1, ⟨hk.2.2.1, hk.2.2.2⟩⟩)⟩, ⟨by (try simp only [hl368002_79]); refine bU ?_; exact BK340.out⟩, ⟨by (try simp only [hl368002_79]); refine bU ?_; exact BK341.out⟩, ⟨by (try simp only [hl368002_79]); refine bU ?_; exact BK361.out⟩, ⟨by (try simp only [hl368002_79]); refine bU ?_; exact BK367.out⟩, ⟨by (try simp only [hl368002_79]); refine bU ?_; exact BK381.out⟩, ⟨by (try simp only [hl368002_79]); refine bU ?_; exact BK413.out⟩, ⟨by repeat (first | (with_reducible first | exact HB.out | apply below_alloc | apply pw_below_drewN | apply below_drew1 | refine below_set ?_ GE340.out | refine below_set ?_ GE341.out | refine below_set ?_ GE361.out | refine below_set ?_ GE367.out | refine below_set ?_ GE381.out | refine below_set ?_ GE413.out) | exact HB.out)⟩⟩
           case rest =>
            clear HC130
            try clear c1
            try clear p2
            try clear c7
            try clear c11
            try clear c13
            try clear c15
            try clear c16
            try clear c17
            try clear c151
            try clear c152
            try clear c153
            try clear c154
            try clear c155
            try clear c156
            try clear c158
            try clear c159
            try clear c160
            try clear c161
            try clear c164
            try clear c165
            try clear c166
            try clear c167
            try clear c168
            try clear c170
            try clear c171
            try clear c172
            try clear c173
            try clear hcz157_0
            try clear hcz157_1
            try clear hcz157_2
            try clear hcz162_0
            try clear hcz162_1
            try clear hcz162_2
            try clear hcz169_0
            try clear hcz169_1
            try clear hcz169_2
            try clear hcz174_0
            try clear hcz174_1
            try clear hcz174_2
            try clear hfz157_0
            try clear hfz157_1
            try clear hfz157_2
            try clear hfz162_0
            try clear hfz162_1
            try clear hfz162_2
            try clear hfz169_0
            try clear hfz169_1
            try clear hfz169_2
            try clear hfz174_0
            try clear hfz174_1
            try clear hfz174_2
            obtain ⟨kq, x100_129, rfl, HA, HJ129, HO_362002, HO_368002, HO_382002, HO_414002, BK340, BK341, BK361, BK367, BK381, BK413, HB⟩ := hcut
            have hl382002_129 := (Kd.R_reads' HO_382002.out).1
            rw [hl382002_129] at HO_382002
            (try simp only [hl382002_129])
            (try simp only [hl382002_129] at BK340)
            (try simp only [hl382002_129] at BK341)
            (try simp only [hl382002_129] at BK361)
            (try simp only [hl382002_129] at BK367)
            (try simp only [hl382002_129] at BK381)
            (try simp only [hl382002_129] at BK413)
            (try simp only [hl382002_129] at HO_362002)
            (try simp only [hl382002_129] at HO_368002)
            (try simp only [hl382002_129] at HO_414002)
            cases kq with
            | zero => exact absurd HA.out (by simp [laws_FnExactRunCloud.j2])
            | succ kj129 =>
             have H := HA.out
             clear HA
             simp only [laws_FnExactRunCloud.j2] at H
             by_cases c176 : x100_129 = true
             ·subst c176
              have H1 : (some false) = some r := by rw [if_pos rfl] at H; exact H
              clear H
              have H := H1
              clear H1
              obtain rfl := Option.some.inj H
              go_wp2
              go_ret
              exact ⟨eE, lV6 GE340 GE341 GE361 GE367 GE381 GE413⟩
             ·replace c176 := Bool.eq_false_iff.mpr c176
              subst c176
              have H1 : ((laws_heldCloud.f kj129 t375 t376 t393 1).bind fun t415 => (if t415 < 0 then (some false) else (if t415 = t392 then (some true) else (some false)))) = some r := by rw [if_neg (show ¬ (false = true) by decide)] at H; exact H
              clear H
              have H := H1
              clear H1
              replace H := Option.bind_eq_some_iff.mp H
              obtain ⟨t415, A1770, H⟩ := H
              replace H : (if t415 < 0 then (some false) else (if t415 = t392 then (some true) else (some false))) = some r := H
              have A177 := Aside0.mk A1770
              clear A1770
              by_cases c178 : t415 < 0
              ·rw [if_pos c178] at H
               have c178b0 : decide (t415 < 0) = true := decide_eq_true c178
               clear c178
               obtain rfl := Option.some.inj H
               have hnb179 := NB381_340.out
               have hnc179 := NB340_381.out
               have hnb180 := NB381_341.out
               have hnc180 := NB341_381.out
               have hnb181 := NB381_361.out
               have hnc181 := NB361_381.out
               have hnb182 := NB381_367.out
               have hnc182 := NB367_381.out
               have hnb183 := NB381_413.out
               have hnc183 := NB413_381.out
               have hcz184_0 := cz BK381 0 (.int .i64 t375)
               have hcz184_1 := cz BK381 1 (.int .i64 t376)
               have hcz184_2 := cz BK381 2 (.slice Ao51 t393.length co51)
               have hfz184_0 := fz BK381 0
               have hfz184_1 := fz BK381 1
               have hfz184_2 := fz BK381 2
               go_wp2_with (first | ((with_reducible refine gate_callee (f := 15) rfl ?_); refine goesL_ (some 103) rfl rfl Try.func15 (by kernel_rfl) rfl #[.agg #[.int .i64 t375, .int .i64 t376, .slice Ao51 t393.length co51], .int .i64 1] rfl aE ?_; (with_reducible refine (laws_heldCloud.calls kj129 t375 t376 _ _ t393 1 t415 _ ?side1 ?side2 A177.out).mono ?_); (case side1 => exact cU (Kd.R_reads' HO_382002.out).2.2); (case side2 => exact (Kd.R_reads' HO_382002.out).2.1); rintro e w185 ⟨rfl, hb⟩; refine ⟨_, rfl, ?_⟩; replace HO_362002 := Aside0.mk (Kd.R_below (rU HO_362002.out) hb); replace HO_368002 := Aside0.mk (Kd.R_below (rU HO_368002.out) hb); replace HO_382002 := Aside0.mk (Kd.R_below (rU HO_382002.out) hb); replace HO_414002 := Aside0.mk (Kd.R_below (rU HO_414002.out) hb); replace BK340 := bB (bV BK340) hb; replace BK341 := bB (bV BK341) hb; replace BK361 := bB (bV BK361) hb; replace BK367 := bB (bV BK367) hb; replace BK381 := bB (bV BK381) hb; replace BK413 := bB (bV BK413) hb; replace HB := bH (lV6 GE340 GE341 GE361 GE367 GE381 GE413) hb; (try clear hb)))
               go_ret
               exact ⟨eE, lV6 GE340 GE341 GE361 GE367 GE381 GE413⟩
              ·rw [if_neg c178] at H
               have c178b0 : decide (t415 < 0) = false := decide_eq_false c178
               clear c178
               by_cases c186 : t415 = t392
               ·rw [if_pos c186] at H
                have c186b0 : (t415 == t392) = true := beq_iff_eq.mpr c186
                have c186b1 : (t415 != t392) = false := bne_eq_false_iff_eq.mpr c186
                clear c186
                obtain rfl := Option.some.inj H
                have hnb187 := NB381_340.out
                have hnc187 := NB340_381.out
                have hnb188 := NB381_341.out
                have hnc188 := NB341_381.out
                have hnb189 := NB381_361.out
                have hnc189 := NB361_381.out
                have hnb190 := NB381_367.out
                have hnc190 := NB367_381.out
                have hnb191 := NB381_413.out
                have hnc191 := NB413_381.out
                have hcz192_0 := cz BK381 0 (.int .i64 t375)
                have hcz192_1 := cz BK381 1 (.int .i64 t376)
                have hcz192_2 := cz BK381 2 (.slice Ao51 t393.length co51)
                have hfz192_0 := fz BK381 0
                have hfz192_1 := fz BK381 1
                have hfz192_2 := fz BK381 2
                go_wp2_with (first | ((with_reducible refine gate_callee (f := 15) rfl ?_); refine goesL_ (some 103) rfl rfl Try.func15 (by kernel_rfl) rfl #[.agg #[.int .i64 t375, .int .i64 t376, .slice Ao51 t393.length co51], .int .i64 1] rfl aE ?_; (with_reducible refine (laws_heldCloud.calls kj129 t375 t376 _ _ t393 1 t415 _ ?side1 ?side2 A177.out).mono ?_); (case side1 => exact cU (Kd.R_reads' HO_382002.out).2.2); (case side2 => exact (Kd.R_reads' HO_382002.out).2.1); rintro e w193 ⟨rfl, hb⟩; refine ⟨_, rfl, ?_⟩; replace HO_362002 := Aside0.mk (Kd.R_below (rU HO_362002.out) hb); replace HO_368002 := Aside0.mk (Kd.R_below (rU HO_368002.out) hb); replace HO_382002 := Aside0.mk (Kd.R_below (rU HO_382002.out) hb); replace HO_414002 := Aside0.mk (Kd.R_below (rU HO_414002.out) hb); replace BK340 := bB (bV BK340) hb; replace BK341 := bB (bV BK341) hb; replace BK361 := bB (bV BK361) hb; replace BK367 := bB (bV BK367) hb; replace BK381 := bB (bV BK381) hb; replace BK413 := bB (bV BK413) hb; replace HB := bH (lV6 GE340 GE341 GE361 GE367 GE381 GE413) hb; (try clear hb)))
                go_ret
                exact ⟨eE, lV6 GE340 GE341 GE361 GE367 GE381 GE413⟩
               ·rw [if_neg c186] at H
                have c186b0 : (t415 == t392) = false := beq_eq_false_iff_ne.mpr c186
                have c186b1 : (t415 != t392) = true := bne_iff_ne.mpr c186
                obtain rfl := Option.some.inj H
                have hnb194 := NB381_340.out
                have hnc194 := NB340_381.out
                have hnb195 := NB381_341.out
                have hnc195 := NB341_381.out
                have hnb196 := NB381_361.out
                have hnc196 := NB361_381.out
                have hnb197 := NB381_367.out
                have hnc197 := NB367_381.out
                have hnb198 := NB381_413.out
                have hnc198 := NB413_381.out
                have hcz199_0 := cz BK381 0 (.int .i64 t375)
                have hcz199_1 := cz BK381 1 (.int .i64 t376)
                have hcz199_2 := cz BK381 2 (.slice Ao51 t393.length co51)
                have hfz199_0 := fz BK381 0
                have hfz199_1 := fz BK381 1
                have hfz199_2 := fz BK381 2
                go_wp2_with (first | ((with_reducible refine gate_callee (f := 15) rfl ?_); refine goesL_ (some 103) rfl rfl Try.func15 (by kernel_rfl) rfl #[.agg #[.int .i64 t375, .int .i64 t376, .slice Ao51 t393.length co51], .int .i64 1] rfl aE ?_; (with_reducible refine (laws_heldCloud.calls kj129 t375 t376 _ _ t393 1 t415 _ ?side1 ?side2 A177.out).mono ?_); (case side1 => exact cU (Kd.R_reads' HO_382002.out).2.2); (case side2 => exact (Kd.R_reads' HO_382002.out).2.1); rintro e w200 ⟨rfl, hb⟩; refine ⟨_, rfl, ?_⟩; replace HO_362002 := Aside0.mk (Kd.R_below (rU HO_362002.out) hb); replace HO_368002 := Aside0.mk (Kd.R_below (rU HO_368002.out) hb); replace HO_382002 := Aside0.mk (Kd.R_below (rU HO_382002.out) hb); replace HO_414002 := Aside0.mk (Kd.R_below (rU HO_414002.out) hb); replace BK340 := bB (bV BK340) hb; replace BK341 := bB (bV BK341) hb; replace BK361 := bB (bV BK361) hb; replace BK367 := bB (bV BK367) hb; replace BK381 := bB (bV BK381) hb; replace BK413 := bB (bV BK413) hb; replace HB := bH (lV6 GE340 GE341 GE361 GE367 GE381 GE413) hb; (try clear hb)))
                go_ret
                exact ⟨eE, lV6 GE340 GE341 GE361 GE367 GE381 GE413⟩
          ·rw [if_neg c126] at H
           have c126b0 : (t394 == t392) = false := beq_eq_false_iff_ne.mpr c126
           have c126b1 : (t394 != t392) = true := bne_iff_ne.mpr c126
           obtain rfl := Option.some.inj H
           have hnb201 := NB381_340.out
           have hnc201 := NB340_381.out
           have hnb202 := NB381_341.out
           have hnc202 := NB341_381.out
           have hnb203 := NB381_361.out
           have hnc203 := NB361_381.out
           have hnb204 := NB381_367.out
           have hnc204 := NB367_381.out
           have hcz205_0 := cz BK381 0 (.int .i64 t375)
           have hcz205_1 := cz BK381 1 (.int .i64 t376)
           have hcz205_2 := cz BK381 2 (.slice Ao51 t377.length co51)
           have hfz205_0 := fz BK381 0
           have hfz205_1 := fz BK381 1
           have hfz205_2 := fz BK381 2
           go_wp2_with (first | ((with_reducible refine gate_callee (f := 14) rfl ?_); refine goesL_ (some 74) rfl rfl Try.func14 (by kernel_rfl) rfl #[.agg #[.int .i64 t375, .int .i64 t376, .slice Ao51 t377.length co51], .int .i64 1] rfl aE ?_; (with_reducible refine (laws_markCloud.calls kj79 t375 t376 (fun k_ => some k_ = (.slice Ao51 t377.length co51 : Value).ownBlock) (.slice Ao51 t377.length co51) t377 1 t392 t393 w _ ?side1 ?side2 A115.out).mono ?_); (case side1 => repeat (first | (with_reducible first | exact HB.out | apply below_alloc | apply pw_below_drewN | apply below_drew1 | refine below_set ?_ GE340.out | refine below_set ?_ GE341.out | refine below_set ?_ GE361.out | refine below_set ?_ GE367.out | refine below_set ?_ GE381.out) | exact HB.out)); (case side2 => exact Kd.R_tight rfl HO_382002.out); rintro e w206 ⟨rfl, hy0, hb, hkp⟩; refine ⟨_, rfl, ?_⟩; replace HO_362002 := Aside0.mk (Kd.R_mono (ok' := fun k_ => some k_ ≠ (.slice Ao42 t390.length co42 : Value).ownBlock ∧ some k_ ≠ (.slice Ao51 t377.length co51 : Value).ownBlock) (Kd.R_keptB (HO_362002.out) hkp (fun k_ hk_ hs_ => (hk_.2) hs_)) (fun k_ hk_ => ⟨hk_.1.1, hk_.1.2⟩)); replace HO_368002 := Aside0.mk (Kd.R_mono (ok' := fun k_ => some k_ ≠ (.slice Ao32 t357.length co32 : Value).ownBlock ∧ some k_ ≠ (.slice Ao51 t377.length co51 : Value).ownBlock) (Kd.R_keptB (HO_368002.out) hkp (fun k_ hk_ hs_ => (hk_.2) hs_)) (fun k_ hk_ => ⟨hk_.1.1, hk_.1.2⟩)); replace BK340 := Aside0.mk (blk_kept (bV BK340) hkp (fun hs_ => (fun e_ => (Kd.R_ne HO_382002.out BK340.out (by decide)) e_) hs_)); replace BK341 := Aside0.mk (blk_kept (bV BK341) hkp (fun hs_ => (fun e_ => (Kd.R_ne HO_382002.out BK341.out (by decide)) e_) hs_)); replace BK361 := Aside0.mk (blk_kept (bV BK361) hkp (fun hs_ => (fun e_ => (Kd.R_ne HO_382002.out BK361.out (by decide)) e_) hs_)); replace BK367 := Aside0.mk (blk_kept (bV BK367) hkp (fun hs_ => (fun e_ => (Kd.R_ne HO_382002.out BK367.out (by decide)) e_) hs_)); replace BK381 := Aside0.mk (blk_kept (bV BK381) hkp (fun hs_ => (fun e_ => (Kd.R_ne HO_382002.out BK381.out (by decide)) e_) hs_)); replace HO_382002 := Aside0.mk (Kd.R_reok rfl hy0 (fun k_ e_ => HO_382002.out.1 k_ e_)); replace HB := Aside0.mk hb; (try clear hb); (try clear hkp); (try clear hy0); have hcz207_0 := cz BK381 0 (.int .i64 t375); have hcz207_1 := cz BK381 1 (.int .i64 t376); have hcz207_2 := cz BK381 2 (.slice Ao51 t377.length co51); have hfz207_0 := fz BK381 0; have hfz207_1 := fz BK381 1; have hfz207_2 := fz BK381 2) | ((with_reducible refine gate_callee (f := 15) rfl ?_); refine goesL_ (some 77) rfl rfl Try.func15 (by kernel_rfl) rfl #[.agg #[.int .i64 t375, .int .i64 t376, .slice Ao51 t393.length co51], .int .i64 1] rfl (by (try simp only [List.map_toArray, List.map_cons, List.map_nil]); first | done | (rw [show t393.length = t377.length from (Kd.R_reads' HO_382002.out).1.symm] <;> rfl) | rfl | (simp only [List.length_drop, List.length_take]; rfl)) ?_; (with_reducible refine (laws_heldCloud.calls kj79 t375 t376 _ _ t393 1 t394 _ ?side1 ?side2 A116.out).mono ?_); (case side1 => exact cU (Kd.R_reads' HO_382002.out).2.2); (case side2 => rw [show t393.length = t377.length from (Kd.R_reads' HO_382002.out).1.symm]; exact (Kd.R_reads' HO_382002.out).2.1); rintro e w208 ⟨rfl, hb⟩; refine ⟨_, rfl, ?_⟩; replace HO_362002 := Aside0.mk (Kd.R_below (rU HO_362002.out) hb); replace HO_368002 := Aside0.mk (Kd.R_below (rU HO_368002.out) hb); replace HO_382002 := Aside0.mk (Kd.R_below (rU HO_382002.out) hb); replace BK340 := bB (bV BK340) hb; replace BK341 := bB (bV BK341) hb; replace BK361 := bB (bV BK361) hb; replace BK367 := bB (bV BK367) hb; replace BK381 := bB (bV BK381) hb; replace HB := bH (lV5 GE340 GE341 GE361 GE367 GE381) hb; (try clear hb)))
           go_ret
           exact ⟨eE, lV5 GE340 GE341 GE361 GE367 GE381⟩
     ·replace c78 := Bool.eq_false_iff.mpr c78
      subst c78
      have H1 : (some false) = some r := by rw [if_neg (show ¬ (false = true) by decide)] at H; exact H
      clear H
      have H := H1
      clear H1
      obtain rfl := Option.some.inj H
      try go_wp2
      replace HO_362002 := Aside0.mk (Kd.R_drew HO_362002.out)
      replace HO_368002 := Aside0.mk (Kd.R_drew HO_368002.out)
      replace HO_382002 := Aside0.mk (Kd.R_drew HO_382002.out)
      replace BK340 := Aside0.mk (blk_drew BK340.out)
      replace BK341 := Aside0.mk (blk_drew BK341.out)
      replace BK361 := Aside0.mk (blk_drew BK361.out)
      replace BK367 := Aside0.mk (blk_drew BK367.out)
      replace BK381 := Aside0.mk (blk_drew BK381.out)
      replace HB := Aside0.mk (below_drew1 HB.out)
      refine start_ (n := 5) (S := fun w' => w'.cell? ⟨gb367, 0, none⟩ = some (.int .i64 t362) ∧ w'.cell? ⟨gb367, 1, none⟩ = some (.int .i64 t363) ∧ w'.cell? ⟨gb367, 2, none⟩ = some (.slice Ao42 t364.length co42) ∧ w'.cell? ⟨gb341, 0, none⟩ = some (.int .i64 a1_0) ∧ w'.cell? ⟨gb341, 1, none⟩ = some (.int .i64 a1_1) ∧ w'.cell? ⟨gb341, 2, none⟩ = some (.slice A1_2 l1_2.length c1_2)) (ds := []) #[false, false, false, false, false] (by kernel_rfl) rfl rfl ⟨cz BK367 0 _, cz BK367 1 _, cz BK367 2 _, cz BK341 0 _, cz BK341 1 _, cz BK341 2 _⟩ (fun hHeld => ?_)
      generalize wc.drew = w209 at HO_362002 HO_368002 HO_382002 BK340 BK341 BK361 BK367 BK381 HB hHeld ⊢
      refine take_ (i := 0) (N := some 51) (v := ?_) (a' := ?_) (bz 5 1) rfl rfl (by kernel_rfl) (fun _ _ _ h => h) (Or.inl ⟨by rfl, ?_⟩) hHeld ?_ ?_
      rotate_left
      ·rintro w' ⟨s0, s1, s2, s3, s4, s5⟩
       go_simp
       with_reducible rfl
      rotate_left
      ·simp only [Act.put, List.setIfInBounds_toArray, List.set_cons_zero, List.set_cons_succ, i64_w, i32_w]
       rfl
      refine take_ (i := 1) (N := some 52) (v := ?_) (a' := ?_) (bz 5 3) rfl rfl (by kernel_rfl) (fun _ _ _ h => h) (Or.inl ⟨by rfl, ?_⟩) hHeld ?_ ?_
      rotate_left
      ·rintro w' ⟨s0, s1, s2, s3, s4, s5⟩
       go_simp
       with_reducible rfl
      rotate_left
      ·simp only [Act.put, List.setIfInBounds_toArray, List.set_cons_zero, List.set_cons_succ, i64_w, i32_w]
       rfl
      refine one_ (i := 2) (N := some 53) (bz 5 7) rfl rfl (by kernel_rfl) (by decide) (fun K hK => ?_)
      refine goes_ Try.func11 (by kernel_rfl) rfl #[.agg #[.int .i64 a1_0, .int .i64 a1_1, .slice A1_2 l1_2.length c1_2]] (by rfl) rfl rfl aE ?_
      with_reducible refine (laws_toCloud.calls kj16 a1_0 a1_1 _ _ l1_2 t383 t384 t385 _ ?side1 ?side2 A76.out).mono ?_
      (case side1 => exact cU (Kd.C_below HR1_2.out HB.out))
      (case side2 => exact HC1_2.out)
      rintro e w210 ⟨v386, rfl, ho0, hb⟩
      refine ⟨_, rfl, ?_⟩
      have HO387 := Aside0.mk (Kd.R_lower (Kd.R_new' (Kd.R_new' (Kd.R_new' ho0 (Kd.R_lt (rU HO_362002.out))) (Kd.R_lt (rU HO_368002.out))) (Kd.R_lt (rU HO_382002.out))) (below_size (lV5 GE340 GE341 GE361 GE367 GE381)))
      replace HO_362002 := Aside0.mk (Kd.R_elder' (rU HO_362002.out) (Kd.R_base ho0) hb)
      replace HO_368002 := Aside0.mk (Kd.R_elder' (rU HO_368002.out) (Kd.R_base ho0) hb)
      replace HO_382002 := Aside0.mk (Kd.R_elder' (rU HO_382002.out) (Kd.R_base ho0) hb)
      replace BK340 := bB (bV BK340) hb
      replace BK341 := bB (bV BK341) hb
      replace BK361 := bB (bV BK361) hb
      replace BK367 := bB (bV BK367) hb
      replace BK381 := bB (bV BK381) hb
      replace HB := bH (lV5 GE340 GE341 GE361 GE367 GE381) hb
      (try clear hb)
      (try clear hb2)
      (try clear hk)
      (try clear hi)
      (try clear ho0)
      obtain ⟨Ao211, co211, eo211⟩ := Kd.R_slice HO387.out
      (first | subst eo211 | (injection eo211 with f1_ f2_ f3_; have f4_ := f1_.symm; have f5_ := f3_.symm; clear f1_ f2_ f3_; subst f4_; subst f5_))
      refine hK.out _ _ ⟨cz BK367 0 _, cz BK367 1 _, cz BK367 2 _, cz BK341 0 _, cz BK341 1 _, cz BK341 2 _⟩ (fun hHeld => ?_)
      clear hK K
      refine norm_ (a' := ?_) ?_ ?_
      rotate_left
      ·show Act.put _ (some 53) _ = _
       simp only [Act.put, List.setIfInBounds_toArray, List.set_cons_zero, List.set_cons_succ, i64_w, i32_w]
       rfl
      refine one_ (i := 3) (N := some 54) (bz 5 15) rfl rfl (by kernel_rfl) (by decide) (fun K hK => ?_)
      refine goes_ Try.func13 (by kernel_rfl) rfl #[.agg #[.int .i64 t362, .int .i64 t363, .slice Ao42 t364.length co42], .agg #[.int .i64 t383, .int .i64 t384, .slice Ao211 t385.length co211]] (by rfl) rfl rfl aE ?_
      with_reducible refine (laws_eqCloud.calls kj16 t362 t363 _ _ t364 t383 t384 _ _ t385 false _ ?side1 ?side2 ?side3 ?side4 A77.out).mono ?_
      (case side1 => exact cU (Kd.R_reads' HO_368002.out).2.2)
      (case side2 => exact (Kd.R_reads' HO_368002.out).2.1)
      (case side3 => exact cU (Kd.R_reads' HO387.out).2.2)
      (case side4 => exact (Kd.R_reads' HO387.out).2.1)
      rintro e w212 ⟨rfl, hb⟩
      refine ⟨_, rfl, ?_⟩
      replace HO_362002 := Aside0.mk (Kd.R_below (rU HO_362002.out) hb)
      replace HO_368002 := Aside0.mk (Kd.R_below (rU HO_368002.out) hb)
      replace HO_382002 := Aside0.mk (Kd.R_below (rU HO_382002.out) hb)
      replace HO387 := Aside0.mk (Kd.R_below (rU HO387.out) hb)
      replace BK340 := bB (bV BK340) hb
      replace BK341 := bB (bV BK341) hb
      replace BK361 := bB (bV BK361) hb
      replace BK367 := bB (bV BK367) hb
      replace BK381 := bB (bV BK381) hb
      replace HB := bH (lV5 GE340 GE341 GE361 GE367 GE381) hb
      (try clear hb)
      (try clear hb2)
      (try clear hk)
      (try clear hi)
      refine hK.out _ _ ⟨cz BK367 0 _, cz BK367 1 _, cz BK367 2 _, cz BK341 0 _, cz BK341 1 _, cz BK341 2 _⟩ (fun hHeld => ?_)
      clear hK K
      refine norm_ (a' := ?_) ?_ ?_
      rotate_left
      ·show Act.put _ (some 54) _ = _
       simp only [Act.put, List.setIfInBounds_toArray, List.set_cons_zero, List.set_cons_succ, i64_w, i32_w]
       rfl
      refine pure_ (i := 4) (N := some 55) (v := ?_) (a' := ?_) (bz 5 31) rfl rfl (by kernel_rfl) (fun _ _ _ h => h) (Or.inl ⟨by rfl, ?_⟩) ?_ ?_
      rotate_left
      ·intro w'
       go_simp
       with_reducible rfl
      rotate_left
      ·simp only [Act.put, List.setIfInBounds_toArray, List.set_cons_zero, List.set_cons_succ, i64_w, i32_w]
       rfl
      refine done_ (by kernel_rfl) ?_
      try go_wp2
      go_ret
      exact ⟨eE, lV5 GE340 GE341 GE361 GE367 GE381⟩
end Go.Proofs.Ythgfobcckoedaaa.PFnExactRunCloud
namespace Go.Proofs.YthgfobcckoedaaaO
open Go.ChangeShapes Go.WideShapes Go.Proofs.YthgfobcckoedaaaW.PrintWords Go.RowKit
def In64 (n : Int) : Prop := -9223372036854775808 ≤ n ∧ n ≤ 9223372036854775807
def Opens {α : Type} (P : Program) (t : TypeId) (d : Kd α) (g : α → Prop) : Prop :=
  ∀ {H : Type} (enc : TypeId × Value → H) (w : World) (fuel : Nat) (cs : List Value) (y : DataW H) (ps : List MemPlace),
    DataW.trod enc P w 0 (fun _ => true) true fuel t cs = some (y, ps) → (∀ n ∈ y.weights P t, n ≤ reachBytes) → ∃ x, d.K w x cs ∧ g x
theorem Opens.imp {α : Type} {P : Program} {t : TypeId} {d : Kd α} {g g' : α → Prop} (h : Opens P t d g) (k : ∀ x, g x → g' x) : Opens P t d g' := by
  intro H enc w fuel cs y ps ht hw
  obtain ⟨x, hx, hg⟩ := h enc w fuel cs y ps ht hw
  exact ⟨x, hx, k x hg⟩
theorem opens_int {P : Program} {t : TypeId} {k : IntKind} (ht : P.underlying t = some (.int k)) : Opens P t (Kd.int k) (fun n => (Lit.int k n).wf = true) := by
  intro H enc w fuel cs y ps h _
  obtain ⟨n, rfl, _, hw⟩ := DataW.trod_int ht h
  exact ⟨n, rfl, hw⟩
theorem wf_i64 {n : Int} (h : (Lit.int .i64 n).wf = true) : In64 n := bounds_i64 h
theorem opens_i64 {P : Program} {t : TypeId} (ht : P.underlying t = some (.int .i64)) : Opens P t (Kd.int .i64) In64 := Opens.imp (opens_int ht) fun _ h => wf_i64 h
theorem exists_list {α : Type} (p : Nat → α → Prop) : ∀ n : Nat, (∀ i, i < n → ∃ x, p i x) → ∃ xs : List α, xs.length = n ∧ ∀ i x, xs[i]? = some x → p i x
  | 0, _ => ⟨[], rfl, fun i x h => by simp at h⟩
  | n + 1, h => by
    obtain ⟨xs, hl, hx⟩ := exists_list p n (fun i hi => h i (by omega))
    obtain ⟨x, hp⟩ := h n (by omega)
    refine ⟨xs ++ [x], by simp [hl], fun i y hy => ?_⟩
    rcases Nat.lt_or_ge i xs.length with hi | hi
    · rw [List.getElem?_append_left hi] at hy
      exact hx i y hy
    · have : i = n := by
        have := (List.getElem?_eq_some_iff.1 hy).1
        rw [List.length_append, List.length_singleton] at this
        omega
      subst this
      rw [List.getElem?_append_right hi] at hy
      rw [hl] at hy
      simp at hy
      subst hy
      exact hp
theorem add_add (ad : Addr) (i j : Nat) : (ad.add i).add j = ad.add (i + j) := by
  unfold Addr.add
  by_cases h1 : i = 0 <;> by_cases h2 : j = 0 <;> simp [h1, h2, Nat.add_assoc]
theorem weightsAll_mem {H : Type} {P : Program} {e : TypeId} : ∀ {l : List (DataW H)} {d : DataW H}, d ∈ l → ∀ n ∈ d.weights P e, n ∈ DataW.weightsAll P e l
  | [], d, h, _, _ => by simp at h
  | x :: r, d, h, n, hn => by
    simp only [DataW.weightsAll, List.mem_append]
    rcases List.mem_cons.1 h with rfl | h
    · exact .inl hn
    · exact .inr (weightsAll_mem h n hn)
theorem opens_slice {α : Type} {P : Program} {t e : TypeId} {d : Kd α} {g : α → Prop} {B : Nat} (ht : P.underlying t = some (.slice e)) (hs : P.cellsOf e = d.sz) (hB : P.bytesOf e = B) (h : Opens P e d g) :
    Opens P t (Kd.slice e d) (fun xs => xs.length * B ≤ 140737488351232 ∧ ∀ x ∈ xs, g x) := by
  intro H enc w fuel cs y ps hy hw
  rcases DataW.trod_slice ht hy with ⟨rfl, _⟩ | ⟨a, len, cap, elems, rest, n, rfl, rfl, hx, _, hlc, hcm, hel, hget, _, _⟩
  · exact ⟨[], ⟨none, 0, rfl, Nat.le_refl _, Kd.C_nil d w⟩, by simp⟩
  · obtain ⟨rfl, _⟩ := Prod.mk.inj hx
    simp only [DataW.weights, ht] at hw
    have hlen : len * B ≤ 140737488351232 := by
      have := hw _ List.mem_cons_self
      simp only [List.length_map, hB] at this
      have h2 : len * B ≤ (elems.length + rest.length) * B := Nat.mul_le_mul_right _ (by omega)
      exact Nat.le_trans h2 this
    have key : ∀ i, i < len → ∃ x, (∃ c, c.length = d.sz ∧ d.K w x c ∧ ∀ j u, c[j]? = some u → w.cell? (a.add (i * d.sz + j)) = some u) ∧ g x := by
      intro i hi
      have hg := hget i hi
      rw [List.getElem?_eq_getElem (by omega), Option.bind_eq_some_iff] at hg
      obtain ⟨c, hc, hd⟩ := hg
      obtain ⟨_, hcl, hcell⟩ := World.cells?_some hc
      obtain ⟨x, hK, hgx⟩ := h enc w n c _ _ hd (fun m hm => hw m (List.mem_cons_of_mem _ (List.mem_append_left _ (weightsAll_mem (List.mem_map_of_mem (List.getElem_mem _)) m hm))))
      refine ⟨x, ⟨c, hcl.trans hs, hK, fun j u hj => ?_⟩, hgx⟩
      have hjl : j < P.cellsOf e := by
        have := (List.getElem?_eq_some_iff.1 hj).1
        omega
      have := hcell j hjl
      rw [add_add, hj, hs] at this
      exact this
    obtain ⟨xs, hxl, hxs⟩ := exists_list _ len key
    refine ⟨xs, ⟨some a, cap, by rw [hxl], by omega, hxl ▸ ⟨hxl, by simp only [maxLen] at hcm; omega, fun _ => ⟨a, rfl, fun j p hp => (hxs j p hp).1⟩⟩⟩, by rw [hxl]; exact hlen, fun x hx => ?_⟩
    obtain ⟨i, hi, rfl⟩ := List.getElem_of_mem hx
    exact (hxs i _ (List.getElem?_eq_getElem hi)).2
theorem opens_iso {α β : Type} {P : Program} {t : TypeId} {d : Kd α} {g : α → Prop} (f : β → α) (inv : α → β) (hi : ∀ x, f (inv x) = x) (h : Opens P t d g) : Opens P t (Kd.iso d f) (fun x => g (f x)) := by
  intro H enc w fuel cs y ps hy hw
  obtain ⟨x, hK, hg⟩ := h enc w fuel cs y ps hy hw
  refine ⟨inv x, ?_, ?_⟩
  · show d.K w (f (inv x)) cs
    rw [hi]; exact hK
  · show g (f (inv x))
    rw [hi]; exact hg
def OpensL {α : Type} (P : Program) (fs : List Field) (off : Nat) (d : Kd α) (g : α → Prop) : Prop :=
  ∀ {H : Type} (enc : TypeId × Value → H) (w : World) (n : Nat) (cs : List Value) (ys : List (DataW H × List MemPlace)), ys.length = fs.length →
    (∀ (i : Nat) (f : Field), fs[i]? = some f → DataW.trod enc P w 0 (fun _ => true) true n f.type ((cs.drop f.offset).take (P.cellsOf f.type)) = ys[i]?) →
    (∀ m ∈ DataW.weightsEach P (fs.map (·.type)) (ys.map (·.1)), m ≤ reachBytes) → ∃ x, d.K w x ((cs.drop off).take d.sz) ∧ g x
theorem opensL_one {α : Type} {P : Program} {f : Field} {off : Nat} {d : Kd α} {g : α → Prop} (ho : f.offset = off) (hs : P.cellsOf f.type = d.sz) (h : Opens P f.type d g) : OpensL P [f] off d g := by
  intro H enc w n cs ys hl hf hw
  match ys, hl with
  | [y], _ =>
    have h0 := hf 0 f rfl
    rw [ho, hs] at h0
    exact h enc w n _ y.1 y.2 h0 (fun m hm => hw m (by simp only [List.map_cons, DataW.weightsEach, List.mem_append]; exact .inl hm))
theorem opensL_cons {α β : Type} {P : Program} {f : Field} {fs : List Field} {off : Nat} {a : Kd α} {b : Kd β} {ga : α → Prop} {gb : β → Prop} (ho : f.offset = off) (hs : P.cellsOf f.type = a.sz) (h : Opens P f.type a ga) (hr : OpensL P fs (off + a.sz) b gb) :
    OpensL P (f :: fs) off (Kd.pair a b) (fun x => ga x.1 ∧ gb x.2) := by
  intro H enc w n cs ys hl hf hw
  match ys, hl with
  | y :: ys, hl =>
    have h0 := hf 0 f rfl
    rw [ho, hs] at h0
    obtain ⟨x, hx, hgx⟩ := h enc w n _ y.1 y.2 h0 (fun m hm => hw m (by simp only [List.map_cons, DataW.weightsEach, List.mem_append]; exact .inl hm))
    obtain ⟨x', hx', hgx'⟩ := hr enc w n cs ys (by simpa using hl) (fun i f' hf' => by have := hf (i + 1) f' (by simpa using hf'); simpa using this) (fun m hm => hw m (by simp only [List.map_cons, DataW.weightsEach, List.mem_append]; exact .inr hm))
    refine ⟨(x, x'), ⟨_, _, ?_, hx, hx'⟩, hgx, hgx'⟩
    show (cs.drop off).take (a.sz + b.sz) = _
    rw [List.take_add, List.drop_drop]
theorem opens_struct {α : Type} {P : Program} {t : TypeId} {fs : Array Field} {d : Kd α} {g : α → Prop} (ht : P.underlying t = some (.struct fs)) (hs : P.cellsOf t = d.sz) (h : OpensL P fs.toList 0 d g) : Opens P t d g := by
  intro H enc w fuel cs y ps hy hw
  obtain ⟨xs, n, rfl, hx, hl, hxl, hget⟩ := DataW.trod_struct ht hy
  obtain ⟨rfl, _⟩ := Prod.mk.inj hx
  simp only [DataW.weights, ht] at hw
  obtain ⟨x, hK, hg⟩ := h enc w n cs xs (by simpa using hxl) (fun i f hf => hget i f (by simpa using hf)) (by simpa using hw)
  rw [List.drop_zero, List.take_of_length_le (by omega)] at hK
  exact ⟨x, hK, hg⟩
theorem weights_of {H : Type} {P : Program} {ts : List TypeId} {ds : List (DataW H)} {j : Nat} {t : TypeId} {d : DataW H} (hsz : (DataW.weightsEach P ts ds).all (· ≤ reachBytes) = true) (ht : ts[j]? = some t) (hd : ds[j]? = some d) : ∀ n ∈ d.weights P t, n ≤ reachBytes := by
  intro n hn
  have := List.all_eq_true.1 hsz n (DataW.weights_mem_each ht hd n hn)
  simpa using this
theorem open_agg {α H : Type} {enc : TypeId × Value → H} {P : Program} {W : World} {t : TypeId} {d : Kd α} {g : α → Prop} {cs : Array Value} {y : DataW H} {ps : List MemPlace} (h : Opens P t d g)
    (hy : DataW.Trod enc P W 0 (fun _ => true) true t (.agg cs) y ps) (hw : ∀ n ∈ y.weights P t, n ≤ reachBytes) : ∃ x : α, d.K W x cs.toList ∧ g x := by
  obtain ⟨fuel, hf⟩ := hy
  exact h enc W fuel _ y ps (by simpa [Value.cells] using hf) hw
end Go.Proofs.YthgfobcckoedaaaO
namespace Go.Proofs.Ythgfobcckoedaaa.OFnExactRunCloud
open Go.RowKit Go.Proofs.Ythgfobcckoedaaa.PFnExactRunCloud Go.Proofs.YthgfobcckoedaaaW.PrintWords Go.Proofs.YthgfobcckoedaaaO
def Ok68 (x : S68) : Prop := (In64 x.f0) ∧ (In64 x.f1) ∧ (In64 x.f2) ∧ (In64 x.f3) ∧ (In64 x.f4)
theorem opens68 : Opens Try.prog 68 k68 Ok68 :=
  Opens.imp (opens_iso _ (fun x => (⟨x.1, x.2.1, x.2.2.1, x.2.2.2.1, x.2.2.2.2⟩ : S68)) (fun _ => rfl) (opens_struct Try.underlying68 (by kernel_rfl) (opensL_cons rfl (by kernel_rfl) (opens_i64 Try.underlying3) (opensL_cons rfl (by kernel_rfl) (opens_i64 Try.underlying3) (opensL_cons rfl (by kernel_rfl) (opens_i64 Try.underlying3) (opensL_cons rfl (by kernel_rfl) (opens_i64 Try.underlying3) (opensL_one rfl (by kernel_rfl) (opens_i64 Try.underlying3)))))))) fun x h => by
    obtain ⟨h0, h1, h2, h3, h4⟩ := h
    exact ⟨h0, h1, h2, h3, h4⟩
end Go.Proofs.Ythgfobcckoedaaa.OFnExactRunCloud
namespace Go.Proofs.YthgfobcckoedaaaO
open Go.RowKit Go.Proofs.YthgfobcckoedaaaW.PrintWords Go.Proofs.YthgfobcckoedaaaW.PrintLast Go.Proofs.YthgfobcckoedaaaW.PrintMore
theorem w64 {n : Int} (h : -9223372036854775808 ≤ n) (k : n ≤ 9223372036854775807) : wrap64 n = n := by unfold wrap64; omega
theorem w64s (i : Nat) (h : i < 4611686018427387904) : wrap64 ((i : Int) + 1) = ((i + 1 : Nat) : Int) := by unfold wrap64; omega
theorem ev_eq {α : Type} {x : Option α} {r : α} (h : x = some r) : Ev (fun _ => x) r := ⟨0, fun _ _ => h⟩
theorem ev_some {α : Type} {x r : α} (h : x = r) : Ev (fun _ => some x) r := ⟨0, fun _ _ => by rw [h]⟩
theorem ev_pos {α : Type} {c : Prop} [Decidable c] {f g : Nat → Option α} {r : α} (h : c) (k : Ev f r) : Ev (fun n => if c then f n else g n) r := by
  obtain ⟨K, hK⟩ := k
  exact ⟨K, fun n hn => (if_pos h).trans (hK n hn)⟩
theorem ev_neg {α : Type} {c : Prop} [Decidable c] {f g : Nat → Option α} {r : α} (h : ¬ c) (k : Ev g r) : Ev (fun n => if c then f n else g n) r := by
  obtain ⟨K, hK⟩ := k
  exact ⟨K, fun n hn => (if_neg h).trans (hK n hn)⟩
theorem ev_ite {α : Type} {c : Prop} [Decidable c] {f g : Nat → Option α} {r : α} (h : c → Ev f r) (k : ¬ c → Ev g r) : Ev (fun n => if c then f n else g n) r := by
  by_cases hc : c
  · exact ev_pos hc (h hc)
  · exact ev_neg hc (k hc)
theorem ev_bindc {α β : Type} {x : Option α} {f : Nat → α → Option β} {a : α} {r : β} (h : x = some a) (k : Ev (fun n => f n a) r) : Ev (fun n => x.bind (f n)) r := by
  subst h; exact k
theorem ev_for {σ ρ : Type} (n : Nat) (L : Nat → Nat → σ → Option ρ) (I : Nat → σ → Prop) (Q : ρ → Prop)
    (hend : ∀ s, I n s → ∃ r, Ev (fun k => L k n s) r ∧ Q r)
    (hstep : ∀ i s, i < n → I i s → (∃ r, Ev (fun k => L k i s) r ∧ Q r) ∨ ∃ s', I (i + 1) s' ∧ ∀ r, Ev (fun k => L k (i + 1) s') r → Ev (fun k => L k i s) r) :
    ∀ i s, i ≤ n → I i s → ∃ r, Ev (fun k => L k i s) r ∧ Q r := by
  have key : ∀ d i s, i + d = n → I i s → ∃ r, Ev (fun k => L k i s) r ∧ Q r := by
    intro d
    induction d with
    | zero => intro i s hi h; obtain rfl : i = n := by omega
              exact hend s h
    | succ d ih =>
      intro i s hi h
      rcases hstep i s (by omega) h with h' | ⟨s', hI, hr⟩
      · exact h'
      · obtain ⟨r, hr', hQ⟩ := ih (i + 1) s' (by omega) hI
        exact ⟨r, hr r hr', hQ⟩
  intro i s hi h
  exact key (n - i) i s (by omega) h
theorem ev_for1 {σ ρ : Type} (n : Nat) (L : Nat → Nat → σ → Option ρ) (I : Nat → σ → Prop) (a : ρ)
    (hend : ∀ s, I n s → Ev (fun k => L k n s) a)
    (hstep : ∀ i s, i < n → I i s → Ev (fun k => L k i s) a ∨ ∃ s', I (i + 1) s' ∧ ∀ r, Ev (fun k => L k (i + 1) s') r → Ev (fun k => L k i s) r) :
    ∀ i s, i ≤ n → I i s → Ev (fun k => L k i s) a := by
  intro i s hi h
  obtain ⟨r, hr, rfl⟩ := ev_for n L I (fun r => r = a) (fun s hs => ⟨a, hend s hs, rfl⟩) (fun i s hi hs => (hstep i s hi hs).imp (fun h => ⟨a, h, rfl⟩) id) i s hi h
  exact hr
theorem rd_get {xs : List Int} {i : Nat} (h : i < xs.length) : rd xs (i : Int) = xs[i] := by simp [rd, List.getD_eq_getElem?_getD, h]
theorem getD_get {α : Type} {d : α} {xs : List α} {i : Nat} (h : i < xs.length) : xs.getD (i : Int).toNat d = xs[i] := by simp [List.getD_eq_getElem?_getD, h]
theorem ev_alike {α β : Type} (L : Nat → List α → List β → Int → Option Bool) (e : Nat → List α → List β → Int → Option Bool) (g : α → β → Bool)
    (hL : ∀ k xs ys i, L (k + 1) xs ys i = if i < (xs.length : Int) then (if 0 ≤ i then (if i < (ys.length : Int) then ((e k xs ys i).bind fun v => if v = true then L k xs ys (wrap64 (i + 1)) else some false) else none) else none) else some true)
    (xs : List α) (ys : List β) (hx : xs.length < 4611686018427387904) (hy : ys.length = xs.length) (he : ∀ i : Nat, ∀ (h : i < xs.length) (h' : i < ys.length), Ev (fun k => e k xs ys (i : Int)) (g xs[i] ys[i]))
    (b : Bool) (hb : b = true ↔ ∀ i : Nat, ∀ (h : i < xs.length) (h' : i < ys.length), g xs[i] ys[i] = true) :
    Ev (fun k => L k xs ys 0) b := by
  refine ev_for1 xs.length (fun k i (_ : Unit) => L k xs ys (i : Int)) (fun i _ => ∀ j, j < i → ∀ (h : j < xs.length) (h' : j < ys.length), g xs[j] ys[j] = true) b ?_ ?_ 0 () (Nat.zero_le _) (fun j hj => by omega)
  · intro _ h
    refine Ev.step (fun k => hL k xs ys _) (ev_neg (by omega) (ev_some ?_))
    exact (hb.2 fun i hi hi' => h i hi hi hi').symm
  · intro i _ hi h
    have hi' : i < ys.length := by omega
    by_cases hg : g xs[i] ys[i] = true
    · refine .inr ⟨(), fun j hj h1 h2 => ?_, fun r hr => ?_⟩
      · rcases Nat.lt_or_ge j i with hji | hji
        · exact h j hji h1 h2
        · obtain rfl : j = i := by omega
          exact hg
      · refine Ev.step (fun k => hL k xs ys _) (ev_pos (by omega) (ev_pos (by omega) (ev_pos (by omega) (Ev.bind (he i hi hi') (ev_pos hg ?_)))))
        rw [w64s i (by omega)]
        exact hr
    · refine .inl (Ev.step (fun k => hL k xs ys _) (ev_pos (by omega) (ev_pos (by omega) (ev_pos (by omega) (Ev.bind (he i hi hi') (ev_neg hg (ev_some ?_)))))))
      cases b with
      | false => rfl
      | true => exact absurd (hb.1 rfl i hi hi') hg
theorem ev_alike_self {α : Type} (L : Nat → List α → List α → Int → Option Bool) (e : Nat → List α → List α → Int → Option Bool)
    (hL : ∀ k xs ys i, L (k + 1) xs ys i = if i < (xs.length : Int) then (if 0 ≤ i then (if i < (ys.length : Int) then ((e k xs ys i).bind fun v => if v = true then L k xs ys (wrap64 (i + 1)) else some false) else none) else none) else some true)
    (xs : List α) (hx : xs.length < 4611686018427387904) (he : ∀ i : Nat, ∀ (_ : i < xs.length), Ev (fun k => e k xs xs (i : Int)) true) :
    Ev (fun k => L k xs xs 0) true :=
  ev_alike L e (fun _ _ => true) hL xs xs hx rfl (fun i h _ => he i h) true ⟨fun _ _ _ _ => rfl, fun _ => rfl⟩
theorem bool_false {P : Prop} {b : Bool} (h : b = true ↔ P) (k : ¬ P) : b = false := by
  cases b with
  | false => rfl
  | true => exact absurd (h.1 rfl) k
theorem ev_all (n : Nat) (L : Nat → Nat → Option Bool) (ok : Nat → Prop) (e b : Bool) (hb : b = true ↔ e = true ∧ ∀ i, i < n → ok i) (hend : Ev (fun k => L k n) e)
    (hyes : ∀ i, i < n → (∀ j, j < i → ok j) → ok i → ∀ r, Ev (fun k => L k (i + 1)) r → Ev (fun k => L k i) r) (hno : ∀ i, i < n → (∀ j, j < i → ok j) → ¬ ok i → Ev (fun k => L k i) false) : Ev (fun k => L k 0) b := by
  refine ev_for1 n (fun k i (_ : Unit) => L k i) (fun i _ => ∀ j, j < i → ok j) b ?_ ?_ 0 () (Nat.zero_le _) (fun j hj => by omega)
  · intro _ h
    have : b = e := by
      cases e with
      | false => exact bool_false hb (fun h => by simp at h)
      | true => exact hb.2 ⟨rfl, h⟩
    rw [this]
    exact hend
  · intro i _ hi h
    by_cases ho : ok i
    · refine .inr ⟨(), fun j hj => ?_, hyes i hi h ho⟩
      rcases Nat.lt_or_ge j i with h1 | h1
      · exact h j h1
      · obtain rfl : j = i := by omega
        exact ho
    · have : b = false := bool_false hb (fun h => ho (h.2 i hi))
      rw [this]
      exact .inl (hno i hi h ho)
theorem wrap_u64 {n : Int} (h0 : 0 ≤ n) (h1 : n ≤ 18446744073709551615) : IntKind.u64.wrap n = n := by
  have e : IntKind.u64.wrap n = n % 18446744073709551616 := by simp only [IntKind.wrap, IntKind.bits, IntKind.signed]; rfl
  rw [e]; omega
def Chain {α : Type} (E : α → Int → Int → Prop) : List α → Int → Int → Prop
  | [], c, d => c = d
  | x :: r, c, d => ∃ m, E x c m ∧ Chain E r m d
theorem Chain.snoc {α : Type} {E : α → Int → Int → Prop} : ∀ {l : List α} {c m d : Int} {x : α}, Chain E l c m → E x m d → Chain E (l ++ [x]) c d
  | [], _, _, _, _, h, k => by cases h; exact ⟨_, k, rfl⟩
  | _ :: _, _, _, _, _, ⟨q, h1, h2⟩, k => ⟨q, h1, Chain.snoc h2 k⟩
theorem Chain.le {α : Type} {E : α → Int → Int → Prop} (hm : ∀ x c d, E x c d → c ≤ d) : ∀ {l : List α} {c d : Int}, Chain E l c d → c ≤ d
  | [], _, _, h => Int.le_of_eq h
  | _ :: _, _, _, ⟨_, h1, h2⟩ => Int.le_trans (hm _ _ _ h1) (Chain.le hm h2)
theorem ev_mark {α : Type} (L : Nat → List α → Int → Nat → Option (Int × List α)) (E : α → Int → Int → Prop) (G : α → Prop) (W : Int) (hW : 0 ≤ W) (hW' : W ≤ 1099511627776)
    (hend : ∀ zs c, Ev (fun k => L k zs c zs.length) (c, zs))
    (hstep : ∀ zs c i, ∀ hi : i < zs.length, i < 1048576 → G zs[i] → 0 ≤ c → c ≤ 2305843009213693952 → ∃ x' c', E x' c c' ∧ c ≤ c' ∧ c' ≤ c + W ∧ ∀ r, Ev (fun k => L k (zs.set i x') c' (i + 1)) r → Ev (fun k => L k zs c i) r)
    (xs : List α) (hG : ∀ x ∈ xs, G x) (hl : xs.length ≤ 1048576) (c : Int) (hc0 : 0 ≤ c) (hc1 : c ≤ 1152921504606846976) :
    ∃ ys d, Chain E ys c d ∧ c ≤ d ∧ d ≤ c + W * xs.length ∧ ys.length = xs.length ∧ Ev (fun k => L k xs c 0) (d, ys) := by
  have key : ∀ n i : Nat, ∀ zs : List α, ∀ m : Int, i + n = xs.length → zs.length = xs.length → zs.drop i = xs.drop i → Chain E (zs.take i) c m → c ≤ m → m ≤ c + W * i →
      ∃ ys d, Chain E ys c d ∧ c ≤ d ∧ d ≤ c + W * xs.length ∧ ys.length = xs.length ∧ Ev (fun k => L k zs m i) (d, ys) := by
    intro n
    induction n with
    | zero =>
      intro i zs m hi hz hd hch h1 h2
      obtain rfl : i = zs.length := by omega
      rw [List.take_length] at hch
      rw [← hz]
      exact ⟨zs, m, hch, h1, h2, rfl, hend zs m⟩
    | succ n ih =>
      intro i zs m hi hz hd hch h1 h2
      have hlt : i < zs.length := by omega
      have hx : i < xs.length := by omega
      have hget : zs[i] = xs[i] := by
        have e1 := List.drop_eq_getElem_cons hlt
        have e2 := List.drop_eq_getElem_cons hx
        rw [hd, e2] at e1
        exact (List.cons.inj e1).1.symm
      have hWi : W * (i : Int) ≤ 1099511627776 * 1048576 := Int.mul_le_mul hW' (by omega) (by omega) (by omega)
      obtain ⟨x', c', hE, hc, hcW, hr⟩ := hstep zs m i hlt (by omega) (by rw [hget]; exact hG _ (List.getElem_mem hx)) (by omega) (by omega)
      obtain ⟨ys, d, g1, g2, g3, g4, g5⟩ := ih (i + 1) (zs.set i x') c' (by omega) (by simpa using hz) (by
          rw [List.drop_set_of_lt (by omega)]
          have e1 := List.drop_eq_getElem_cons hlt
          have e2 := List.drop_eq_getElem_cons hx
          rw [hd, e2] at e1
          exact (List.cons.inj e1).2.symm) (by
          rw [List.take_succ_eq_append_getElem (by simpa using hlt), List.take_set_of_le (Nat.le_refl i), List.getElem_set_self]
          exact Chain.snoc hch hE) (by omega) (by
          have : W * ((i + 1 : Nat) : Int) = W * i + W := by rw [Int.natCast_add, Int.mul_add]; simp
          omega)
      exact ⟨ys, d, g1, g2, g3, g4, hr _ g5⟩
  have := key xs.length 0 xs c (by omega) rfl rfl (by simp [Chain]) (Int.le_refl _) (by simp)
  exact this
theorem ev_held {α : Type} (H : Nat → List α → Int → Nat → Option Int) (E : α → Int → Int → Prop) (hm : ∀ x c d, E x c d → c ≤ d)
    (hend : ∀ ys c, Ev (fun k => H k ys c ys.length) c)
    (hstep : ∀ ys c c' i, ∀ hi : i < ys.length, i < 1048576 → E ys[i] c c' → 0 ≤ c → c' ≤ 2305843009213693952 → ∀ r, Ev (fun k => H k ys c' (i + 1)) r → Ev (fun k => H k ys c i) r)
    (ys : List α) (hl : ys.length ≤ 1048576) (c d : Int) (hc0 : 0 ≤ c) (hd : d ≤ 2305843009213693952) (h : Chain E ys c d) : Ev (fun k => H k ys c 0) d := by
  have key : ∀ n i : Nat, ∀ m : Int, i + n = ys.length → 0 ≤ m → Chain E (ys.drop i) m d → Ev (fun k => H k ys m i) d := by
    intro n
    induction n with
    | zero =>
      intro i m hi h0 hch
      obtain rfl : i = ys.length := by omega
      rw [List.drop_length] at hch
      obtain rfl : m = d := hch
      exact hend ys m
    | succ n ih =>
      intro i m hi h0 hch
      have hlt : i < ys.length := by omega
      rw [List.drop_eq_getElem_cons hlt] at hch
      obtain ⟨m', hE, hch⟩ := hch
      have h1 := hm _ _ _ hE
      exact hstep ys m m' i hlt (by omega) hE h0 (by have := Chain.le hm hch; omega) d (ih (i + 1) m' (by omega) (by omega) hch)
  exact key ys.length 0 c (by omega) hc0 h
theorem ev_index {α : Type} (L : Nat → List α → Int → Int → Option Int) (p : Nat → List α → Int → Option Bool)
    (hL : ∀ k xs n i, L (k + 1) xs n i = if i < n then (if 0 ≤ i then (if i < (xs.length : Int) then ((p k xs i).bind fun t => if t = true then some i else L k xs n (wrap64 (i + 1))) else none) else none) else some (-1))
    (xs : List α) (hx : xs.length < 4611686018427387904) (P : Nat → Bool) (he : ∀ i : Nat, i < xs.length → Ev (fun k => p k xs (i : Int)) (P i)) :
    ∃ r, Ev (fun k => L k xs (xs.length : Int) 0) r ∧ ((r = -1 ∧ ∀ i, i < xs.length → P i = false) ∨ ∃ i : Nat, i < xs.length ∧ r = (i : Int) ∧ P i = true ∧ ∀ j, j < i → P j = false) := by
  refine ev_for xs.length (fun k i (_ : Unit) => L k xs (xs.length : Int) (i : Int)) (fun i _ => ∀ j, j < i → P j = false) (fun r => (r = -1 ∧ ∀ i, i < xs.length → P i = false) ∨ ∃ i : Nat, i < xs.length ∧ r = (i : Int) ∧ P i = true ∧ ∀ j, j < i → P j = false) ?_ ?_ 0 () (Nat.zero_le _) (fun j hj => by omega)
  · intro _ h
    exact ⟨-1, Ev.step (fun k => hL k xs _ _) (ev_neg (by omega) (ev_some rfl)), .inl ⟨rfl, h⟩⟩
  · intro i _ hi h
    cases hP : P i with
    | true =>
      refine .inl ⟨(i : Int), Ev.step (fun k => hL k xs _ _) (ev_pos (by omega) (ev_pos (by omega) (ev_pos (by omega) (Ev.bind (he i hi) (ev_pos hP (ev_some rfl)))))), .inr ⟨i, hi, rfl, hP, h⟩⟩
    | false =>
      refine .inr ⟨(), fun j hj => ?_, fun r hr => Ev.step (fun k => hL k xs _ _) (ev_pos (by omega) (ev_pos (by omega) (ev_pos (by omega) (Ev.bind (he i hi) (ev_neg (by rw [hP]; decide) ?_)))))⟩
      · rcases Nat.lt_or_ge j i with h1 | h1
        · exact h j h1
        · obtain rfl : j = i := by omega
          exact hP
      · rw [w64s i (by omega)]
        exact hr
theorem ev_contains {α : Type} (L : Nat → List α → Int → Int → Option Int) (p : Nat → List α → Int → Option Bool)
    (hL : ∀ k xs n i, L (k + 1) xs n i = if i < n then (if 0 ≤ i then (if i < (xs.length : Int) then ((p k xs i).bind fun t => if t = true then some i else L k xs n (wrap64 (i + 1))) else none) else none) else some (-1))
    (xs : List α) (hx : xs.length < 4611686018427387904) (P : Nat → Bool) (he : ∀ i : Nat, i < xs.length → Ev (fun k => p k xs (i : Int)) (P i)) (b : Bool) (hb : b = true ↔ ∃ i, i < xs.length ∧ P i = true) :
    Ev (fun k => (L k xs (xs.length : Int) 0).bind fun t => some (decide (t ≥ 0))) b := by
  obtain ⟨r, hr, h⟩ := ev_index L p hL xs hx P he
  refine Ev.bind hr (ev_some ?_)
  rw [Bool.eq_iff_iff, decide_eq_true_eq, hb]
  rcases h with ⟨rfl, h⟩ | ⟨i, hi, rfl, hP, _⟩
  · constructor
    · intro h'; omega
    · rintro ⟨i, hi, hP⟩; rw [h i hi] at hP; cases hP
  · exact ⟨fun _ => ⟨i, hi, hP⟩, fun _ => by omega⟩
theorem exev_bind {α β : Type} {g : Nat → Option α} {f : Nat → α → Option β} {a : α} {Q : β → Prop} (h : Ev g a) (k : ∃ r, Ev (fun n => f n a) r ∧ Q r) : ∃ r, Ev (fun n => (g n).bind (f n)) r ∧ Q r := by
  obtain ⟨r, hr, hq⟩ := k
  exact ⟨r, Ev.bind h hr, hq⟩
theorem exev_pos {α : Type} {c : Prop} [Decidable c] {f g : Nat → Option α} {Q : α → Prop} (h : c) (k : ∃ r, Ev f r ∧ Q r) : ∃ r, Ev (fun n => if c then f n else g n) r ∧ Q r := by
  obtain ⟨r, hr, hq⟩ := k
  exact ⟨r, ev_pos h hr, hq⟩
theorem exev_neg {α : Type} {c : Prop} [Decidable c] {f g : Nat → Option α} {Q : α → Prop} (h : ¬ c) (k : ∃ r, Ev g r ∧ Q r) : ∃ r, Ev (fun n => if c then f n else g n) r ∧ Q r := by
  obtain ⟨r, hr, hq⟩ := k
  exact ⟨r, ev_neg h hr, hq⟩
theorem exev_ite {α : Type} {c : Prop} [Decidable c] {f g : Nat → Option α} {Q : α → Prop} (h : c → ∃ r, Ev f r ∧ Q r) (k : ¬ c → ∃ r, Ev g r ∧ Q r) : ∃ r, Ev (fun n => if c then f n else g n) r ∧ Q r := by
  by_cases hc : c
  · exact exev_pos hc (h hc)
  · exact exev_neg hc (k hc)
theorem exev_some {α : Type} {x : α} {Q : α → Prop} (h : Q x) : ∃ r, Ev (fun _ => some x) r ∧ Q r := ⟨x, ev_some rfl, h⟩
theorem ev_copy2 {α β τ : Type} (L : Nat → List α → List β → Int → Option (List β)) (e : Nat → List α → Int → Option τ) (mk : τ → β) (g : α → β)
    (hL : ∀ k xs ys i, L (k + 1) xs ys i = if i < (xs.length : Int) then (if 0 ≤ i then ((e k xs i).bind fun v => if i < (ys.length : Int) then L k xs (ys.set (i : Int).toNat (mk v)) (wrap64 (i + 1)) else none) else none) else some ys)
    (xs : List α) (hx : xs.length < 4611686018427387904) (he : ∀ i : Nat, ∀ h : i < xs.length, ∃ t, Ev (fun k => e k xs (i : Int)) t ∧ mk t = g xs[i]) (ys : List β) (hy : ys.length = xs.length) :
    Ev (fun k => L k xs ys 0) (xs.map g) := by
  refine ev_for1 xs.length (fun k i ys => L k xs ys (i : Int)) (fun i ys => ys.length = xs.length ∧ ∀ j, j < i → ys[j]? = (xs.map g)[j]?) (xs.map g) ?_ ?_ 0 ys (Nat.zero_le _) ⟨hy, fun j hj => by omega⟩
  · intro ys ⟨hl, h⟩
    refine Ev.step (fun k => hL k xs ys _) (ev_neg (by omega) (ev_some ?_))
    apply List.ext_getElem?
    intro j
    rcases Nat.lt_or_ge j xs.length with hj | hj
    · exact h j hj
    · rw [List.getElem?_eq_none (by omega), List.getElem?_eq_none (by simpa using hj)]
  · intro i ys hi ⟨hl, h⟩
    obtain ⟨t, ht, hmk⟩ := he i hi
    refine .inr ⟨ys.set i (g xs[i]), ⟨by simpa using hl, fun j hj => ?_⟩, fun r hr => ?_⟩
    · rcases Nat.lt_or_ge j i with hji | hji
      · rw [List.getElem?_set_ne (by omega)]
        exact h j hji
      · obtain rfl : j = i := by omega
        rw [List.getElem?_set_self (by omega), List.getElem?_map, List.getElem?_eq_getElem hi]
        rfl
    · refine Ev.step (fun k => hL k xs ys _) (ev_pos (by omega) (ev_pos (by omega) (Ev.bind ht (ev_pos (by omega) ?_))))
      rw [w64s i (by omega), hmk]
      exact hr
end Go.Proofs.YthgfobcckoedaaaO
