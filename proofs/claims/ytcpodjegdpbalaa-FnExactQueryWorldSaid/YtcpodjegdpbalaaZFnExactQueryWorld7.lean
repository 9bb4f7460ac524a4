/- Texts of the row of the law FnExactQueryWorld, laid together. -/
import Derived.Test.YtcpodjegdpbalaaZFnExactQueryWorld3
import Derived.Test.YtcpodjegdpbalaaZFnExactQueryWorld4
import Derived.Test.YtcpodjegdpbalaaZFnExactQueryWorld5
import Derived.Test.YtcpodjegdpbalaaZFnExactQueryWorld6
import Derived.Test.YtcpodjegdpbalaaZFnExactQueryWorld0
import Derived.SizedLaws
import Derived.ChangeArms
import Derived.OpenShut
import Derived.WideShapes
import Derived.WalkKit
import Derived.KernelRfl
import Derived.Laws.BitsLemmas
namespace Go.Proofs.Ytcpodjegdpbalaa.PFnExactQueryWorld
open Go.RowKit Go.Proofs.YtcpodjegdpbalaaW.PrintWords Go.Proofs.YtcpodjegdpbalaaW.PrintLast Go.Proofs.YtcpodjegdpbalaaW.PrintMore
attribute [local go_sem] max2_int min2_int max_two min_two max_three min_three max_four min_four   -- for this text's walks alone
set_option linter.unusedVariables false
set_option linter.unusedSimpArgs false
mutual
def laws_FnExactQueryWorld.j0 : Nat → List Int → Bool → List Int → Bool → Bool → Int → Int → List (S91) → List ByteArray → List ByteArray → Int → Int → Int → List (S77) → List ByteArray → List ByteArray → Int → Option (Bool)
 | 0, _, _, _, _, _, _, _, _, _, _, _, _, _, _, _, _, _ => none
 | k + 1, x6, x7, x10, x11, x53, x302000, x302001, x302002, x303000, x303001, x303002, x327000, x327001, x327002, x335000, x335001, x335002 => if x53 = true then (some false) else ((laws_toWorld.f k x302000 x302001 x302002).bind fun bt340 => ((laws_eqWorld.f k x327000 x327001 x327002 bt340.1 bt340.2.1 bt340.2.2).bind fun t345 => (if t345 = true then ((laws_toQuery.f k x303000 x303001 x303002).bind fun bt346 => ((laws_eqQuery.f k x335000 x335001 x335002 bt346.1 bt346.2.1 bt346.2.2).bind fun t353 => (if t353 = true then ((laws_markWorld.f k x327000 x327001 x327002 1).bind fun bt354 => ((laws_markQuery.f k x335000 x335001 x335002 bt354.1).bind fun bt356 => (if bt356.1 < 0 then (laws_FnExactQueryWorld.j1 k x6 x7 x10 true x302000 x302001 x302002 x303000 x303001 x303002) else ((laws_eqIntS.f k x10 x6).bind fun t359 => (if t359 = true then (laws_FnExactQueryWorld.j1 k x6 x7 x10 (x11 != x7) x302000 x302001 x302002 x303000 x303001 x303002) else (laws_FnExactQueryWorld.j1 k x6 x7 x10 true x302000 x302001 x302002 x303000 x303001 x303002)))))) else (some false)))) else (some false))))
def laws_FnExactQueryWorld.j1 : Nat → List Int → Bool → List Int → Bool → Int → Int → List (S91) → List ByteArray → List ByteArray → Int → Option (Bool)
 | 0, _, _, _, _, _, _, _, _, _, _ => none
 | k + 1, x6, x7, x10, x82, x302000, x302001, x302002, x303000, x303001, x303002 => if x82 = true then (some false) else ((laws_markIntS.f k x10 1).bind fun bt360 => ((laws_heldIntS.f k bt360.2 1).bind fun t362 => (if t362 < 0 then (some false) else (if t362 = bt360.1 then ((laws_toWorld.f k x302000 x302001 x302002).bind fun bt363 => ((laws_toQuery.f k x303000 x303001 x303002).bind fun bt368 => ((impl_QueryWorld.f k bt363.1 bt363.2.1 bt363.2.2 bt368.1 bt368.2.1 bt368.2.2).bind fun bt375 => ((laws_eqIntS.f k bt375.1 x6).bind fun t379 => (if t379 = true then (laws_FnExactQueryWorld.j2 k bt360.2 bt360.1 (bt375.2 != x7)) else (laws_FnExactQueryWorld.j2 k bt360.2 bt360.1 true)))))) else (some false)))))
def laws_FnExactQueryWorld.j2 : Nat → List Int → Int → Bool → Option (Bool)
 | 0, _, _, _ => none
 | k + 1, x10, x13, x110 => if x110 = true then (some false) else ((laws_heldIntS.f k x10 1).bind fun t380 => (if t380 < 0 then (some false) else (if t380 = x13 then (some true) else (some false))))
end
def laws_FnExactQueryWorld.f (k : Nat) (a0_0 : Int) (a0_1 : Int) (l0_2 : List (S91)) (l1_0 : List ByteArray) (l1_1 : List ByteArray) (a1_2 : Int) : Option (Bool) := (laws_szWorld.f k a0_0 a0_1 l0_2 1048576).bind fun t303 => (if t303 < 0 then (some true) else ((laws_szQuery.f k l1_0 l1_1 a1_2 t303).bind fun t304 => (if t304 < 0 then (some true) else ((laws_toWorld.f k a0_0 a0_1 l0_2).bind fun bt305 => ((laws_toQuery.f k l1_0 l1_1 a1_2).bind fun bt310 => ((spec_QueryWorld.f k bt305.1 bt305.2.1 bt305.2.2 bt310.1 bt310.2.1 bt310.2.2).bind fun bt317 => ((laws_toWorld.f k a0_0 a0_1 l0_2).bind fun bt321 => ((laws_toQuery.f k l1_0 l1_1 a1_2).bind fun bt327 => ((impl_QueryWorld.f k bt321.1 bt321.2.1 bt321.2.2 bt327.1 bt327.2.1 bt327.2.2).bind fun bt335 => ((laws_eqIntS.f k bt335.1 bt317.1).bind fun t339 => (if t339 = true then (laws_FnExactQueryWorld.j0 k bt317.1 bt317.2 bt335.1 bt335.2 (bt335.2 != bt317.2) a0_0 a0_1 l0_2 l1_0 l1_1 a1_2 bt321.1 bt321.2.1 bt321.2.2 bt327.1 bt327.2.1 bt327.2.2) else (laws_FnExactQueryWorld.j0 k bt317.1 bt317.2 bt335.1 bt335.2 true a0_0 a0_1 l0_2 l1_0 l1_1 a1_2 bt321.1 bt321.2.1 bt321.2.2 bt327.1 bt327.2.1 bt327.2.2))))))))))))
theorem laws_FnExactQueryWorld.mono_l : ∀ k, (∀ y0 y1 y2 y3 y4 y5 y6 y7 y8 y9 y10 y11 y12 y13 y14 y15 y16, LeO (laws_FnExactQueryWorld.j0 k y0 y1 y2 y3 y4 y5 y6 y7 y8 y9 y10 y11 y12 y13 y14 y15 y16) (laws_FnExactQueryWorld.j0 (k + 1) y0 y1 y2 y3 y4 y5 y6 y7 y8 y9 y10 y11 y12 y13 y14 y15 y16)) ∧ (∀ y0 y1 y2 y3 y4 y5 y6 y7 y8 y9, LeO (laws_FnExactQueryWorld.j1 k y0 y1 y2 y3 y4 y5 y6 y7 y8 y9) (laws_FnExactQueryWorld.j1 (k + 1) y0 y1 y2 y3 y4 y5 y6 y7 y8 y9)) ∧ (∀ y0 y1 y2, LeO (laws_FnExactQueryWorld.j2 k y0 y1 y2) (laws_FnExactQueryWorld.j2 (k + 1) y0 y1 y2))
 | 0 => ⟨fun _ _ _ _ _ _ _ _ _ _ _ _ _ _ _ _ _ r h => by simp [laws_FnExactQueryWorld.j0] at h, fun _ _ _ _ _ _ _ _ _ _ r h => by simp [laws_FnExactQueryWorld.j1] at h, fun _ _ _ r h => by simp [laws_FnExactQueryWorld.j2] at h⟩
 | k + 1 => by
  obtain ⟨ih0, ih1, ih2⟩ := laws_FnExactQueryWorld.mono_l k
  refine ⟨?_, ?_, ?_⟩
  ·intro y0 y1 y2 y3 y4 y5 y6 y7 y8 y9 y10 y11 y12 y13 y14 y15 y16
   unfold laws_FnExactQueryWorld.j0
   repeat' first
   | (with_reducible exact ih0 _ _ _ _ _ _ _ _ _ _ _ _ _ _ _ _ _)
   | (with_reducible exact ih1 _ _ _ _ _ _ _ _ _ _)
   | (with_reducible exact ih2 _ _ _)
   | (with_reducible exact impl_QueryWorld.mono _ _ _ _ _ _ _)
   | (with_reducible exact laws_eqIntS.mono _ _ _)
   | (with_reducible exact laws_eqQuery.mono _ _ _ _ _ _ _)
   | (with_reducible exact laws_eqWorld.mono _ _ _ _ _ _ _)
   | (with_reducible exact laws_heldIntS.mono _ _ _)
   | (with_reducible exact laws_markIntS.mono _ _ _)
   | (with_reducible exact laws_markQuery.mono _ _ _ _ _)
   | (with_reducible exact laws_markWorld.mono _ _ _ _ _)
   | (with_reducible exact laws_szQuery.mono _ _ _ _ _)
   | (with_reducible exact laws_szWorld.mono _ _ _ _ _)
   | (with_reducible exact laws_toQuery.mono _ _ _ _)
   | (with_reducible exact laws_toWorld.mono _ _ _ _)
   | (with_reducible exact spec_QueryWorld.mono _ _ _ _ _ _ _)
   | (with_reducible exact LeO.refl _)
   | (with_reducible exact LeO.none _)
   | (with_reducible refine LeO.ite ?_ ?_)
   | (with_reducible refine LeO.bind ?_ (fun _ => ?_))
   | exact ih0 _ _ _ _ _ _ _ _ _ _ _ _ _ _ _ _ _
   | exact ih1 _ _ _ _ _ _ _ _ _ _
   | exact ih2 _ _ _
   | exact impl_QueryWorld.mono _ _ _ _ _ _ _
   | exact laws_eqIntS.mono _ _ _
   | exact laws_eqQuery.mono _ _ _ _ _ _ _
   | exact laws_eqWorld.mono _ _ _ _ _ _ _
   | exact laws_heldIntS.mono _ _ _
   | exact laws_markIntS.mono _ _ _
   | exact laws_markQuery.mono _ _ _ _ _
   | exact laws_markWorld.mono _ _ _ _ _
   | exact laws_szQuery.mono _ _ _ _ _
   | exact laws_szWorld.mono _ _ _ _ _
   | exact laws_toQuery.mono _ _ _ _
   | exact laws_toWorld.mono _ _ _ _
   | exact spec_QueryWorld.mono _ _ _ _ _ _ _
   | exact LeO.none _
   | refine LeO.ite ?_ ?_
   | refine LeO.bind ?_ (fun _ => ?_)
  ·intro y0 y1 y2 y3 y4 y5 y6 y7 y8 y9
   unfold laws_FnExactQueryWorld.j1
   repeat' first
   | (with_reducible exact ih0 _ _ _ _ _ _ _ _ _ _ _ _ _ _ _ _ _)
   | (with_reducible exact ih1 _ _ _ _ _ _ _ _ _ _)
   | (with_reducible exact ih2 _ _ _)
   | (with_reducible exact impl_QueryWorld.mono _ _ _ _ _ _ _)
   | (with_reducible exact laws_eqIntS.mono _ _ _)
   | (with_reducible exact laws_eqQuery.mono _ _ _ _ _ _ _)
   | (with_reducible exact laws_eqWorld.mono _ _ _ _ _ _ _)
   | (with_reducible exact laws_heldIntS.mono _ _ _)
   | (with_reducible exact laws_markIntS.mono _ _ _)
   | (with_reducible exact laws_markQuery.mono _ _ _ _ _)
   | (with_reducible exact laws_markWorld.mono _ _ _ _ _)
   | (with_reducible exact laws_szQuery.mono _ _ _ _ _)
   | (with_reducible exact laws_szWorld.mono _ _ _ _ _)
   | (with_reducible exact laws_toQuery.mono _ _ _ _)
   | (with_reducible exact laws_toWorld.mono _ _ _ _)
   | (with_reducible exact spec_QueryWorld.mono _ _ _ _ _ _ _)
   | (with_reducible exact LeO.refl _)
   | (with_reducible exact LeO.none _)
   | (with_reducible refine LeO.ite ?_ ?_)
   | (with_reducible refine LeO.bind ?_ (fun _ => ?_))
   | exact ih0 _ _ _ _ _ _ _ _ _ _ _ _ _ _ _ _ _
   | exact ih1 _ _ _ _ _ _ _ _ _ _
   | exact ih2 _ _ _
   | exact impl_QueryWorld.mono _ _ _ _ _ _ _
   | exact laws_eqIntS.mono _ _ _
   | exact laws_eqQuery.mono _ _ _ _ _ _ _
   | exact laws_eqWorld.mono _ _ _ _ _ _ _
   | exact laws_heldIntS.mono _ _ _
   | exact laws_markIntS.mono _ _ _
   | exact laws_markQuery.mono _ _ _ _ _
   | exact laws_markWorld.mono _ _ _ _ _
   | exact laws_szQuery.mono _ _ _ _ _
   | exact laws_szWorld.mono _ _ _ _ _
   | exact laws_toQuery.mono _ _ _ _
   | exact laws_toWorld.mono _ _ _ _
   | exact spec_QueryWorld.mono _ _ _ _ _ _ _
   | exact LeO.none _
   | refine LeO.ite ?_ ?_
   | refine LeO.bind ?_ (fun _ => ?_)
  ·intro y0 y1 y2
   unfold laws_FnExactQueryWorld.j2
   repeat' first
   | (with_reducible exact ih0 _ _ _ _ _ _ _ _ _ _ _ _ _ _ _ _ _)
   | (with_reducible exact ih1 _ _ _ _ _ _ _ _ _ _)
   | (with_reducible exact ih2 _ _ _)
   | (with_reducible exact impl_QueryWorld.mono _ _ _ _ _ _ _)
   | (with_reducible exact laws_eqIntS.mono _ _ _)
   | (with_reducible exact laws_eqQuery.mono _ _ _ _ _ _ _)
   | (with_reducible exact laws_eqWorld.mono _ _ _ _ _ _ _)
   | (with_reducible exact laws_heldIntS.mono _ _ _)
   | (with_reducible exact laws_markIntS.mono _ _ _)
   | (with_reducible exact laws_markQuery.mono _ _ _ _ _)
   | (with_reducible exact laws_markWorld.mono _ _ _ _ _)
   | (with_reducible exact laws_szQuery.mono _ _ _ _ _)
   | (with_reducible exact laws_szWorld.mono _ _ _ _ _)
   | (with_reducible exact laws_toQuery.mono _ _ _ _)
   | (with_reducible exact laws_toWorld.mono _ _ _ _)
   | (with_reducible exact spec_QueryWorld.mono _ _ _ _ _ _ _)
   | (with_reducible exact LeO.refl _)
   | (with_reducible exact LeO.none _)
   | (with_reducible refine LeO.ite ?_ ?_)
   | (with_reducible refine LeO.bind ?_ (fun _ => ?_))
   | exact ih0 _ _ _ _ _ _ _ _ _ _ _ _ _ _ _ _ _
   | exact ih1 _ _ _ _ _ _ _ _ _ _
   | exact ih2 _ _ _
   | exact impl_QueryWorld.mono _ _ _ _ _ _ _
   | exact laws_eqIntS.mono _ _ _
   | exact laws_eqQuery.mono _ _ _ _ _ _ _
   | exact laws_eqWorld.mono _ _ _ _ _ _ _
   | exact laws_heldIntS.mono _ _ _
   | exact laws_markIntS.mono _ _ _
   | exact laws_markQuery.mono _ _ _ _ _
   | exact laws_markWorld.mono _ _ _ _ _
   | exact laws_szQuery.mono _ _ _ _ _
   | exact laws_szWorld.mono _ _ _ _ _
   | exact laws_toQuery.mono _ _ _ _
   | exact laws_toWorld.mono _ _ _ _
   | exact spec_QueryWorld.mono _ _ _ _ _ _ _
   | exact LeO.none _
   | refine LeO.ite ?_ ?_
   | refine LeO.bind ?_ (fun _ => ?_)
theorem laws_FnExactQueryWorld.mono : ∀ a0 a1 a2 a3 a4 a5 k, LeO (laws_FnExactQueryWorld.f k a0 a1 a2 a3 a4 a5) (laws_FnExactQueryWorld.f (k + 1) a0 a1 a2 a3 a4 a5) := by
 intro a0 a1 a2 a3 a4 a5 k
 obtain ⟨ih0, ih1, ih2⟩ := laws_FnExactQueryWorld.mono_l k
 unfold laws_FnExactQueryWorld.f
 repeat' first
   | (with_reducible exact ih0 _ _ _ _ _ _ _ _ _ _ _ _ _ _ _ _ _)
   | (with_reducible exact ih1 _ _ _ _ _ _ _ _ _ _)
   | (with_reducible exact ih2 _ _ _)
   | (with_reducible exact impl_QueryWorld.mono _ _ _ _ _ _ _)
   | (with_reducible exact laws_eqIntS.mono _ _ _)
   | (with_reducible exact laws_eqQuery.mono _ _ _ _ _ _ _)
   | (with_reducible exact laws_eqWorld.mono _ _ _ _ _ _ _)
   | (with_reducible exact laws_heldIntS.mono _ _ _)
   | (with_reducible exact laws_markIntS.mono _ _ _)
   | (with_reducible exact laws_markQuery.mono _ _ _ _ _)
   | (with_reducible exact laws_markWorld.mono _ _ _ _ _)
   | (with_reducible exact laws_szQuery.mono _ _ _ _ _)
   | (with_reducible exact laws_szWorld.mono _ _ _ _ _)
   | (with_reducible exact laws_toQuery.mono _ _ _ _)
   | (with_reducible exact laws_toWorld.mono _ _ _ _)
   | (with_reducible exact spec_QueryWorld.mono _ _ _ _ _ _ _)
   | (with_reducible exact LeO.refl _)
   | (with_reducible exact LeO.none _)
   | (with_reducible refine LeO.ite ?_ ?_)
   | (with_reducible refine LeO.bind ?_ (fun _ => ?_))
   | exact ih0 _ _ _ _ _ _ _ _ _ _ _ _ _ _ _ _ _
   | exact ih1 _ _ _ _ _ _ _ _ _ _
   | exact ih2 _ _ _
   | exact impl_QueryWorld.mono _ _ _ _ _ _ _
   | exact laws_eqIntS.mono _ _ _
   | exact laws_eqQuery.mono _ _ _ _ _ _ _
   | exact laws_eqWorld.mono _ _ _ _ _ _ _
   | exact laws_heldIntS.mono _ _ _
   | exact laws_markIntS.mono _ _ _
   | exact laws_markQuery.mono _ _ _ _ _
   | exact laws_markWorld.mono _ _ _ _ _
   | exact laws_szQuery.mono _ _ _ _ _
   | exact laws_szWorld.mono _ _ _ _ _
   | exact laws_toQuery.mono _ _ _ _
   | exact laws_toWorld.mono _ _ _ _
   | exact spec_QueryWorld.mono _ _ _ _ _ _ _
   | exact LeO.none _
   | refine LeO.ite ?_ ?_
   | refine LeO.bind ?_ (fun _ => ?_)
def laws_FnExactQueryWorld.T8 : Bool × List (List Nat × List Nat) := (true, [([], []), ([0], [0]), ([], []), ([2, 1], [2]), ([1, 3, 3], [1, 3]), ([4], [4]), ([5], [5]), ([5], [5]), ([6, 4, 0, 1, 2, 3, 4, 5, 6], [6]), ([7, 8, 0, 1, 2, 3, 4, 5, 6, 7, 8], [7])])
def laws_FnExactQueryWorld.B8 : List Nat := [0, 1, 0, 7, 15, 31, 63, 63, 127, 511]
theorem laws_FnExactQueryWorld.tab8 : rtab .any (opsOf Try.f5 8) = laws_FnExactQueryWorld.T8 := by kernel_rfl
theorem laws_FnExactQueryWorld.bits8 : waitsOk laws_FnExactQueryWorld.T8.2 laws_FnExactQueryWorld.B8 = true := by kernel_rfl
def laws_FnExactQueryWorld.T31 : Bool × List (List Nat × List Nat) := (true, [([], []), ([0], [0]), ([], []), ([2, 1], [2]), ([1, 3, 3], [1, 3]), ([4], [4]), ([5], [5]), ([5], [5]), ([6, 4, 0, 1, 2, 3, 4, 5, 6], [6]), ([7, 8, 0, 1, 2, 3, 4, 5, 6, 7, 8], [7])])
def laws_FnExactQueryWorld.B31 : List Nat := [0, 1, 0, 7, 15, 31, 63, 63, 127, 511]
theorem laws_FnExactQueryWorld.tab31 : rtab .any (opsOf Try.f5 31) = laws_FnExactQueryWorld.T31 := by kernel_rfl
theorem laws_FnExactQueryWorld.bits31 : waitsOk laws_FnExactQueryWorld.T31.2 laws_FnExactQueryWorld.B31 = true := by kernel_rfl
set_option maxHeartbeats 8000000 in
set_option maxRecDepth 100000 in
theorem laws_FnExactQueryWorld.calls (k : Nat) (a0_0 : Int) (a0_1 : Int) (A0_2 : Option Addr) (c0_2 : Nat) (l0_2 : List (S91)) (A1_0 : Option Addr) (c1_0 : Nat) (l1_0 : List ByteArray) (A1_1 : Option Addr) (c1_1 : Nat) (l1_1 : List ByteArray) (a1_2 : Int) (r : Bool) (w : World) (hr0_2 : Kd.C k91 w A0_2 l0_2.length l0_2) (hc0_2 : l0_2.length ≤ c0_2) (hr1_0 : Kd.C Kd.string w A1_0 l1_0.length l1_0) (hc1_0 : l1_0.length ≤ c1_0) (hr1_1 : Kd.C Kd.string w A1_1 l1_1.length l1_1) (hc1_1 : l1_1.length ≤ c1_1) (h : laws_FnExactQueryWorld.f k a0_0 a0_1 l0_2 l1_0 l1_1 a1_2 = some r) :
  Calls Try.prog 5 #[.agg #[.int .i64 a0_0, .int .i64 a0_1, .slice A0_2 l0_2.length c0_2], .agg #[.slice A1_0 l1_0.length c1_0, .slice A1_1 l1_1.length c1_1, .int .i64 a1_2]] w fun e w' => e = .returned (.bool r) ∧ Below w.heap.size w w' := by
 have hu39 := Try.underlying39
 have hu42 := Try.underlying42
 have hu50 := Try.underlying50
 have hu52 := Try.underlying52
 have HR0_2 := Aside0.mk hr0_2
 have HC0_2 := Aside0.mk hc0_2
 clear hr0_2 hc0_2
 have HR1_0 := Aside0.mk hr1_0
 have HC1_0 := Aside0.mk hc1_0
 clear hr1_0 hc1_0
 have HR1_1 := Aside0.mk hr1_1
 have HC1_1 := Aside0.mk hc1_1
 clear hr1_1 hc1_1
 have HB := Aside0.mk (Below.refl w.heap.size w)
 have H : ((laws_szWorld.f k a0_0 a0_1 l0_2 1048576).bind fun t303 => (if t303 < 0 then (some true) else ((laws_szQuery.f k l1_0 l1_1 a1_2 t303).bind fun t304 => (if t304 < 0 then (some true) else ((laws_toWorld.f k a0_0 a0_1 l0_2).bind fun bt305 => ((laws_toQuery.f k l1_0 l1_1 a1_2).bind fun bt310 => ((spec_QueryWorld.f k bt305.1 bt305.2.1 bt305.2.2 bt310.1 bt310.2.1 bt310.2.2).bind fun bt317 => ((laws_toWorld.f k a0_0 a0_1 l0_2).bind fun bt321 => ((laws_toQuery.f k l1_0 l1_1 a1_2).bind fun bt327 => ((impl_QueryWorld.f k bt321.1 bt321.2.1 bt321.2.2 bt327.1 bt327.2.1 bt327.2.2).bind fun bt335 => ((laws_eqIntS.f k bt335.1 bt317.1).bind fun t339 => (if t339 = true then (laws_FnExactQueryWorld.j0 k bt317.1 bt317.2 bt335.1 bt335.2 (bt335.2 != bt317.2) a0_0 a0_1 l0_2 l1_0 l1_1 a1_2 bt321.1 bt321.2.1 bt321.2.2 bt327.1 bt327.2.1 bt327.2.2) else (laws_FnExactQueryWorld.j0 k bt317.1 bt317.2 bt335.1 bt335.2 true a0_0 a0_1 l0_2 l1_0 l1_1 a1_2 bt321.1 bt321.2.1 bt321.2.2 bt327.1 bt327.2.1 bt327.2.2))))))))))))) = some r := h
 clear h
 replace H := Option.bind_eq_some_iff.mp H
 obtain ⟨t303, A30, H⟩ := H
 replace H : (if t303 < 0 then (some true) else ((laws_szQuery.f k l1_0 l1_1 a1_2 t303).bind fun t304 => (if t304 < 0 then (some true) else ((laws_toWorld.f k a0_0 a0_1 l0_2).bind fun bt305 => ((laws_toQuery.f k l1_0 l1_1 a1_2).bind fun bt310 => ((spec_QueryWorld.f k bt305.1 bt305.2.1 bt305.2.2 bt310.1 bt310.2.1 bt310.2.2).bind fun bt317 => ((laws_toWorld.f k a0_0 a0_1 l0_2).bind fun bt321 => ((laws_toQuery.f k l1_0 l1_1 a1_2).bind fun bt327 => ((impl_QueryWorld.f k bt321.1 bt321.2.1 bt321.2.2 bt327.1 bt327.2.1 bt327.2.2).bind fun bt335 => ((laws_eqIntS.f k bt335.1 bt317.1).bind fun t339 => (if t339 = true then (laws_FnExactQueryWorld.j0 k bt317.1 bt317.2 bt335.1 bt335.2 (bt335.2 != bt317.2) a0_0 a0_1 l0_2 l1_0 l1_1 a1_2 bt321.1 bt321.2.1 bt321.2.2 bt327.1 bt327.2.1 bt327.2.2) else (laws_FnExactQueryWorld.j0 k bt317.1 bt317.2 bt335.1 bt335.2 true a0_0 a0_1 l0_2 l1_0 l1_1 a1_2 bt321.1 bt321.2.1 bt321.2.2 bt327.1 bt327.2.1 bt327.2.2)))))))))))) = some r := H
 have A3 := Aside0.mk A30
 clear A30
 by_cases c4 : t303 < 0
 ·rw [if_pos c4] at H
  have c4b0 : decide (t303 < 0) = true := decide_eq_true c4
  clear c4
  obtain rfl := Option.some.inj H
  go_enter Try.func5, Try.ntmps5
  go_wp2_with (first | ((with_reducible refine gate_dst (N := 2) rfl ?_); refine box_event rfl (N := 2) rfl (cs := #[.int .i64 a0_0, .int .i64 a0_1, .slice A0_2 l0_2.length c0_2]) (t := 39) sE ?_; intro gb301 hg w5 hbox hb; have BK301 := Aside0.mk hbox; have GW301 := gS w hg (lU); have GE301 := gS w hg (lU); replace HB := bH (lU) hb; clear hb hbox hg) | ((with_reducible refine gate_dst (N := 3) rfl ?_); refine box_event rfl (N := 3) rfl (cs := #[.slice A1_0 l1_0.length c1_0, .slice A1_1 l1_1.length c1_1, .int .i64 a1_2]) (t := 42) sE ?_; intro gb302 hg w6 hbox hb; have BK302 := Aside0.mk hbox; have GW302 := gS w hg (lV1 GE301); have GE302 := gS w hg (lV1 GE301); replace HB := bH (lV1 GE301) hb; have NB301_302 := nL hg (bV BK301); have NB302_301 := nG hg (bV BK301); replace BK301 := bB (bV BK301) hb; clear hb hbox hg; have hnb7 := NB301_302.out; have hnc7 := NB302_301.out; have hcz8_0 := cz BK301 0 (.int .i64 a0_0); have hcz8_1 := cz BK301 1 (.int .i64 a0_1); have hcz8_2 := cz BK301 2 (.slice A0_2 l0_2.length c0_2); have hfz8_0 := fz BK301 0; have hfz8_1 := fz BK301 1; have hfz8_2 := fz BK301 2) | ((with_reducible refine gate_callee (f := 19) rfl ?_); refine goesL_ (some 19) rfl rfl Try.func19 (by kernel_rfl) rfl #[.agg #[.int .i64 a0_0, .int .i64 a0_1, .slice A0_2 l0_2.length c0_2], .int .i64 1048576] rfl aE ?_; (with_reducible refine (laws_szWorld.calls k a0_0 a0_1 _ _ l0_2 1048576 t303 _ ?side1 ?side2 A3.out).mono ?_); (case side1 => exact cU (Kd.C_below HR0_2.out HB.out)); (case side2 => exact HC0_2.out); rintro e w9 ⟨rfl, hb⟩; refine ⟨_, rfl, ?_⟩; replace BK301 := bB (bV BK301) hb; replace BK302 := bB (bV BK302) hb; replace HB := bH (lV2 GE301 GE302) hb; (try clear hb)))
  go_ret
  exact ⟨eE, lV2 GE301 GE302⟩
 ·rw [if_neg c4] at H
  have c4b0 : decide (t303 < 0) = false := decide_eq_false c4
  clear c4
  replace H := Option.bind_eq_some_iff.mp H
  obtain ⟨t304, A100, H⟩ := H
  replace H : (if t304 < 0 then (some true) else ((laws_toWorld.f k a0_0 a0_1 l0_2).bind fun bt305 => ((laws_toQuery.f k l1_0 l1_1 a1_2).bind fun bt310 => ((spec_QueryWorld.f k bt305.1 bt305.2.1 bt305.2.2 bt310.1 bt310.2.1 bt310.2.2).bind fun bt317 => ((laws_toWorld.f k a0_0 a0_1 l0_2).bind fun bt321 => ((laws_toQuery.f k l1_0 l1_1 a1_2).bind fun bt327 => ((impl_QueryWorld.f k bt321.1 bt321.2.1 bt321.2.2 bt327.1 bt327.2.1 bt327.2.2).bind fun bt335 => ((laws_eqIntS.f k bt335.1 bt317.1).bind fun t339 => (if t339 = true then (laws_FnExactQueryWorld.j0 k bt317.1 bt317.2 bt335.1 bt335.2 (bt335.2 != bt317.2) a0_0 a0_1 l0_2 l1_0 l1_1 a1_2 bt321.1 bt321.2.1 bt321.2.2 bt327.1 bt327.2.1 bt327.2.2) else (laws_FnExactQueryWorld.j0 k bt317.1 bt317.2 bt335.1 bt335.2 true a0_0 a0_1 l0_2 l1_0 l1_1 a1_2 bt321.1 bt321.2.1 bt321.2.2 bt327.1 bt327.2.1 bt327.2.2)))))))))) = some r := H
  have A10 := Aside0.mk A100
  clear A100
  by_cases c11 : t304 < 0
  ·rw [if_pos c11] at H
   have c11b0 : decide (t304 < 0) = true := decide_eq_true c11
   clear c11
   obtain rfl := Option.some.inj H
   go_enter Try.func5, Try.ntmps5
   go_wp2_with (first | ((with_reducible refine gate_dst (N := 2) rfl ?_); refine box_event rfl (N := 2) rfl (cs := #[.int .i64 a0_0, .int .i64 a0_1, .slice A0_2 l0_2.length c0_2]) (t := 39) sE ?_; intro gb301 hg w12 hbox hb; have BK301 := Aside0.mk hbox; have GW301 := gS w hg (lU); have GE301 := gS w hg (lU); replace HB := bH (lU) hb; clear hb hbox hg) | ((with_reducible refine gate_dst (N := 3) rfl ?_); refine box_event rfl (N := 3) rfl (cs := #[.slice A1_0 l1_0.length c1_0, .slice A1_1 l1_1.length c1_1, .int .i64 a1_2]) (t := 42) sE ?_; intro gb302 hg w13 hbox hb; have BK302 := Aside0.mk hbox; have GW302 := gS w hg (lV1 GE301); have GE302 := gS w hg (lV1 GE301); replace HB := bH (lV1 GE301) hb; have NB301_302 := nL hg (bV BK301); have NB302_301 := nG hg (bV BK301); replace BK301 := bB (bV BK301) hb; clear hb hbox hg; have hnb14 := NB301_302.out; have hnc14 := NB302_301.out; have hcz15_0 := cz BK301 0 (.int .i64 a0_0); have hcz15_1 := cz BK301 1 (.int .i64 a0_1); have hcz15_2 := cz BK301 2 (.slice A0_2 l0_2.length c0_2); have hfz15_0 := fz BK301 0; have hfz15_1 := fz BK301 1; have hfz15_2 := fz BK301 2) | ((with_reducible refine gate_callee (f := 19) rfl ?_); refine goesL_ (some 19) rfl rfl Try.func19 (by kernel_rfl) rfl #[.agg #[.int .i64 a0_0, .int .i64 a0_1, .slice A0_2 l0_2.length c0_2], .int .i64 1048576] rfl aE ?_; (with_reducible refine (laws_szWorld.calls k a0_0 a0_1 _ _ l0_2 1048576 t303 _ ?side1 ?side2 A3.out).mono ?_); (case side1 => exact cU (Kd.C_below HR0_2.out HB.out)); (case side2 => exact HC0_2.out); rintro e w16 ⟨rfl, hb⟩; refine ⟨_, rfl, ?_⟩; replace BK301 := bB (bV BK301) hb; replace BK302 := bB (bV BK302) hb; replace HB := bH (lV2 GE301 GE302) hb; (try clear hb); have hcz17_0 := cz BK302 0 (.slice A1_0 l1_0.length c1_0); have hcz17_1 := cz BK302 1 (.slice A1_1 l1_1.length c1_1); have hcz17_2 := cz BK302 2 (.int .i64 a1_2); have hfz17_0 := fz BK302 0; have hfz17_1 := fz BK302 1; have hfz17_2 := fz BK302 2) | ((with_reducible refine gate_callee (f := 20) rfl ?_); refine goesL_ (some 24) rfl rfl Try.func20 (by kernel_rfl) rfl #[.agg #[.slice A1_0 l1_0.length c1_0, .slice A1_1 l1_1.length c1_1, .int .i64 a1_2], .int .i64 t303] rfl aE ?_; (with_reducible refine (laws_szQuery.calls k _ _ l1_0 _ _ l1_1 a1_2 t303 t304 _ ?side1 ?side2 ?side3 ?side4 A10.out).mono ?_); (case side1 => exact cU (Kd.C_below HR1_0.out HB.out)); (case side2 => exact HC1_0.out); (case side3 => exact cU (Kd.C_below HR1_1.out HB.out)); (case side4 => exact HC1_1.out); rintro e w18 ⟨rfl, hb⟩; refine ⟨_, rfl, ?_⟩; replace BK301 := bB (bV BK301) hb; replace BK302 := bB (bV BK302) hb; replace HB := bH (lV2 GE301 GE302) hb; (try clear hb)))
   go_ret
   exact ⟨eE, lV2 GE301 GE302⟩
  ·rw [if_neg c11] at H
   have c11b0 : decide (t304 < 0) = false := decide_eq_false c11
   clear c11
   replace H := Option.bind_eq_some_iff.mp H
   obtain ⟨⟨t305, t306, t307⟩, A190, H⟩ := H
   replace H : ((laws_toQuery.f k l1_0 l1_1 a1_2).bind fun bt310 => ((spec_QueryWorld.f k t305 t306 t307 bt310.1 bt310.2.1 bt310.2.2).bind fun bt317 => ((laws_toWorld.f k a0_0 a0_1 l0_2).bind fun bt321 => ((laws_toQuery.f k l1_0 l1_1 a1_2).bind fun bt327 => ((impl_QueryWorld.f k bt321.1 bt321.2.1 bt321.2.2 bt327.1 bt327.2.1 bt327.2.2).bind fun bt335 => ((laws_eqIntS.f k bt335.1 bt317.1).bind fun t339 => (if t339 = true then (laws_FnExactQueryWorld.j0 k bt317.1 bt317.2 bt335.1 bt335.2 (bt335.2 != bt317.2) a0_0 a0_1 l0_2 l1_0 l1_1 a1_2 bt321.1 bt321.2.1 bt321.2.2 bt327.1 bt327.2.1 bt327.2.2) else (laws_FnExactQueryWorld.j0 k bt317.1 bt317.2 bt335.1 bt335.2 true a0_0 a0_1 l0_2 l1_0 l1_1 a1_2 bt321.1 bt321.2.1 bt321.2.2 bt327.1 bt327.2.1 bt327.2.2)))))))) = some r := H
   have A19 := Aside0.mk A190
   clear A190
   replace H := Option.bind_eq_some_iff.mp H
   obtain ⟨⟨t310, t313, t316⟩, A200, H⟩ := H
   replace H : ((spec_QueryWorld.f k t305 t306 t307 t310 t313 t316).bind fun bt317 => ((laws_toWorld.f k a0_0 a0_1 l0_2).bind fun bt321 => ((laws_toQuery.f k l1_0 l1_1 a1_2).bind fun bt327 => ((impl_QueryWorld.f k bt321.1 bt321.2.1 bt321.2.2 bt327.1 bt327.2.1 bt327.2.2).bind fun bt335 => ((laws_eqIntS.f k bt335.1 bt317.1).bind fun t339 => (if t339 = true then (laws_FnExactQueryWorld.j0 k bt317.1 bt317.2 bt335.1 bt335.2 (bt335.2 != bt317.2) a0_0 a0_1 l0_2 l1_0 l1_1 a1_2 bt321.1 bt321.2.1 bt321.2.2 bt327.1 bt327.2.1 bt327.2.2) else (laws_FnExactQueryWorld.j0 k bt317.1 bt317.2 bt335.1 bt335.2 true a0_0 a0_1 l0_2 l1_0 l1_1 a1_2 bt321.1 bt321.2.1 bt321.2.2 bt327.1 bt327.2.1 bt327.2.2))))))) = some r := H
   have A20 := Aside0.mk A200
   clear A200
   replace H := Option.bind_eq_some_iff.mp H
   obtain ⟨⟨t317, t320⟩, A210, H⟩ := H
   replace H : ((laws_toWorld.f k a0_0 a0_1 l0_2).bind fun bt321 => ((laws_toQuery.f k l1_0 l1_1 a1_2).bind fun bt327 => ((impl_QueryWorld.f k bt321.1 bt321.2.1 bt321.2.2 bt327.1 bt327.2.1 bt327.2.2).bind fun bt335 => ((laws_eqIntS.f k bt335.1 t317).bind fun t339 => (if t339 = true then (laws_FnExactQueryWorld.j0 k t317 t320 bt335.1 bt335.2 (bt335.2 != t320) a0_0 a0_1 l0_2 l1_0 l1_1 a1_2 bt321.1 bt321.2.1 bt321.2.2 bt327.1 bt327.2.1 bt327.2.2) else (laws_FnExactQueryWorld.j0 k t317 t320 bt335.1 bt335.2 true a0_0 a0_1 l0_2 l1_0 l1_1 a1_2 bt321.1 bt321.2.1 bt321.2.2 bt327.1 bt327.2.1 bt327.2.2)))))) = some r := H
   have A21 := Aside0.mk A210
   clear A210
   replace H := Option.bind_eq_some_iff.mp H
   obtain ⟨⟨t321, t322, t323⟩, A220, H⟩ := H
   replace H : ((laws_toQuery.f k l1_0 l1_1 a1_2).bind fun bt327 => ((impl_QueryWorld.f k t321 t322 t323 bt327.1 bt327.2.1 bt327.2.2).bind fun bt335 => ((laws_eqIntS.f k bt335.1 t317).bind fun t339 => (if t339 = true then (laws_FnExactQueryWorld.j0 k t317 t320 bt335.1 bt335.2 (bt335.2 != t320) a0_0 a0_1 l0_2 l1_0 l1_1 a1_2 t321 t322 t323 bt327.1 bt327.2.1 bt327.2.2) else (laws_FnExactQueryWorld.j0 k t317 t320 bt335.1 bt335.2 true a0_0 a0_1 l0_2 l1_0 l1_1 a1_2 t321 t322 t323 bt327.1 bt327.2.1 bt327.2.2))))) = some r := H
   have A22 := Aside0.mk A220
   clear A220
   replace H := Option.bind_eq_some_iff.mp H
   obtain ⟨⟨t327, t330, t333⟩, A230, H⟩ := H
   replace H : ((impl_QueryWorld.f k t321 t322 t323 t327 t330 t333).bind fun bt335 => ((laws_eqIntS.f k bt335.1 t317).bind fun t339 => (if t339 = true then (laws_FnExactQueryWorld.j0 k t317 t320 bt335.1 bt335.2 (bt335.2 != t320) a0_0 a0_1 l0_2 l1_0 l1_1 a1_2 t321 t322 t323 t327 t330 t333) else (laws_FnExactQueryWorld.j0 k t317 t320 bt335.1 bt335.2 true a0_0 a0_1 l0_2 l1_0 l1_1 a1_2 t321 t322 t323 t327 t330 t333)))) = some r := H
   have A23 := Aside0.mk A230
   clear A230
   replace H := Option.bind_eq_some_iff.mp H
   obtain ⟨⟨t335, t338⟩, A240, H⟩ := H
   replace H : ((laws_eqIntS.f k t335 t317).bind fun t339 => (if t339 = true then (laws_FnExactQueryWorld.j0 k t317 t320 t335 t338 (t338 != t320) a0_0 a0_1 l0_2 l1_0 l1_1 a1_2 t321 t322 t323 t327 t330 t333) else (laws_FnExactQueryWorld.j0 k t317 t320 t335 t338 true a0_0 a0_1 l0_2 l1_0 l1_1 a1_2 t321 t322 t323 t327 t330 t333))) = some r := H
   have A24 := Aside0.mk A240
   clear A240
   have HC25 := Aside0.mk H
   clear H
   go_enter Try.func5, Try.ntmps5
   try go_wp2_with (first | ((with_reducible refine gate_dst (N := 2) rfl ?_); refine box_event rfl (N := 2) rfl (cs := #[.int .i64 a0_0, .int .i64 a0_1, .slice A0_2 l0_2.length c0_2]) (t := 39) sE ?_; intro gb301 hg w26 hbox hb; have BK301 := Aside0.mk hbox; have GW301 := gS w hg (lU); have GE301 := gS w hg (lU); replace HB := bH (lU) hb; clear hb hbox hg) | ((with_reducible refine gate_dst (N := 3) rfl ?_); refine box_event rfl (N := 3) rfl (cs := #[.slice A1_0 l1_0.length c1_0, .slice A1_1 l1_1.length c1_1, .int .i64 a1_2]) (t := 42) sE ?_; intro gb302 hg w27 hbox hb; have BK302 := Aside0.mk hbox; have GW302 := gS w hg (lV1 GE301); have GE302 := gS w hg (lV1 GE301); replace HB := bH (lV1 GE301) hb; have NB301_302 := nL hg (bV BK301); have NB302_301 := nG hg (bV BK301); replace BK301 := bB (bV BK301) hb; clear hb hbox hg; have hnb28 := NB301_302.out; have hnc28 := NB302_301.out; have hcz29_0 := cz BK301 0 (.int .i64 a0_0); have hcz29_1 := cz BK301 1 (.int .i64 a0_1); have hcz29_2 := cz BK301 2 (.slice A0_2 l0_2.length c0_2); have hfz29_0 := fz BK301 0; have hfz29_1 := fz BK301 1; have hfz29_2 := fz BK301 2) | ((with_reducible refine gate_callee (f := 19) rfl ?_); refine goesL_ (some 19) rfl rfl Try.func19 (by kernel_rfl) rfl #[.agg #[.int .i64 a0_0, .int .i64 a0_1, .slice A0_2 l0_2.length c0_2], .int .i64 1048576] rfl aE ?_; (with_reducible refine (laws_szWorld.calls k a0_0 a0_1 _ _ l0_2 1048576 t303 _ ?side1 ?side2 A3.out).mono ?_); (case side1 => exact cU (Kd.C_below HR0_2.out HB.out)); (case side2 => exact HC0_2.out); rintro e w30 ⟨rfl, hb⟩; refine ⟨_, rfl, ?_⟩; replace BK301 := bB (bV BK301) hb; replace BK302 := bB (bV BK302) hb; replace HB := bH (lV2 GE301 GE302) hb; (try clear hb); have hcz31_0 := cz BK302 0 (.slice A1_0 l1_0.length c1_0); have hcz31_1 := cz BK302 1 (.slice A1_1 l1_1.length c1_1); have hcz31_2 := cz BK302 2 (.int .i64 a1_2); have hfz31_0 := fz BK302 0; have hfz31_1 := fz BK302 1; have hfz31_2 := fz BK302 2) | ((with_reducible refine gate_callee (f := 20) rfl ?_); refine goesL_ (some 24) rfl rfl Try.func20 (by kernel_rfl) rfl #[.agg #[.slice A1_0 l1_0.length c1_0, .slice A1_1 l1_1.length c1_1, .int .i64 a1_2], .int .i64 t303] rfl aE ?_; (with_reducible refine (laws_szQuery.calls k _ _ l1_0 _ _ l1_1 a1_2 t303 t304 _ ?side1 ?side2 ?side3 ?side4 A10.out).mono ?_); (case side1 => exact cU (Kd.C_below HR1_0.out HB.out)); (case side2 => exact HC1_0.out); (case side3 => exact cU (Kd.C_below HR1_1.out HB.out)); (case side4 => exact HC1_1.out); rintro e w32 ⟨rfl, hb⟩; refine ⟨_, rfl, ?_⟩; replace BK301 := bB (bV BK301) hb; replace BK302 := bB (bV BK302) hb; replace HB := bH (lV2 GE301 GE302) hb; (try clear hb)))
   replace BK301 := Aside0.mk (blk_drew BK301.out)
   replace BK302 := Aside0.mk (blk_drew BK302.out)
   replace HB := Aside0.mk (below_drew1 HB.out)
   refine start_ (n := 10) (S := fun w' => w'.cell? ⟨gb301, 0, none⟩ = some (.int .i64 a0_0) ∧ w'.cell? ⟨gb301, 1, none⟩ = some (.int .i64 a0_1) ∧ w'.cell? ⟨gb301, 2, none⟩ = some (.slice A0_2 l0_2.length c0_2) ∧ w'.cell? ⟨gb302, 0, none⟩ = some (.slice A1_0 l1_0.length c1_0) ∧ w'.cell? ⟨gb302, 1, none⟩ = some (.slice A1_1 l1_1.length c1_1) ∧ w'.cell? ⟨gb302, 2, none⟩ = some (.int .i64 a1_2)) (ds := []) #[false, false, false, false, false, false, false, false, false, false] (by kernel_rfl) rfl rfl ⟨cz BK301 0 _, cz BK301 1 _, cz BK301 2 _, cz BK302 0 _, cz BK302 1 _, cz BK302 2 _⟩ (fun hHeld => ?_); refine with_tabW laws_FnExactQueryWorld.tab8 laws_FnExactQueryWorld.bits8 (fun HT_ HW_ => ?_)
   generalize w32.drew = w33 at BK301 BK302 HB hHeld ⊢
   refine takeA 0 28 (bz 10 1) rfl rfl (take_ofW HT_.out HW_.out (by kernel_rfl)) hHeld (by rintro w' ⟨s0, s1, s2, s3, s4, s5⟩; go_simp; with_reducible rfl) ?_
   refine takeA 2 30 (bz 10 5) rfl rfl (take_ofW HT_.out HW_.out (by kernel_rfl)) hHeld (by rintro w' ⟨s0, s1, s2, s3, s4, s5⟩; go_simp; with_reducible rfl) ?_
   refine one_ (i := 1) (N := some 29) (bz 10 7) rfl rfl (one_of HT_.out (by kernel_rfl)) (by decide) (fun K hK => ?_)
   refine goes_ Try.func22 (by kernel_rfl) rfl #[.agg #[.int .i64 a0_0, .int .i64 a0_1, .slice A0_2 l0_2.length c0_2]] (by rfl) rfl rfl aE ?_
   with_reducible refine (laws_toWorld.calls k a0_0 a0_1 _ _ l0_2 t305 t306 t307 _ ?side1 ?side2 A19.out).mono ?_
   (case side1 => exact cU (Kd.C_below HR0_2.out HB.out))
   (case side2 => exact HC0_2.out)
   rintro e w34 ⟨v308, rfl, ho0, hb⟩
   refine ⟨_, rfl, ?_⟩
   have HO309 := Aside0.mk (Kd.S_lower ho0 (below_size (lV2 GE301 GE302)))
   replace BK301 := bB (bV BK301) hb
   replace BK302 := bB (bV BK302) hb
   replace HB := bH (lV2 GE301 GE302) hb
   (try clear hb)
   (try clear hb2)
   (try clear hk)
   (try clear hi)
   (try clear ho0)
   refine hK.out _ _ ⟨cz BK301 0 _, cz BK301 1 _, cz BK301 2 _, cz BK302 0 _, cz BK302 1 _, cz BK302 2 _⟩ (fun hHeld => ?_)
   clear hK K
   refine norm_ (a' := ?_) ?_ ?_
   rotate_left
   ·show Act.put _ (some 29) _ = _
    simp only [Act.put, List.setIfInBounds_toArray, List.set_cons_zero, List.set_cons_succ, i64_w, i32_w]
    rfl
   refine one_ (i := 3) (N := some 31) (bz 10 15) rfl rfl (one_of HT_.out (by kernel_rfl)) (by decide) (fun K hK => ?_)
   refine goes_ Try.func23 (by kernel_rfl) rfl #[.agg #[.slice A1_0 l1_0.length c1_0, .slice A1_1 l1_1.length c1_1, .int .i64 a1_2]] (by rfl) rfl rfl aE ?_
   with_reducible refine (laws_toQuery.calls k _ _ l1_0 _ _ l1_1 a1_2 t310 t313 t316 _ ?side1 ?side2 ?side3 ?side4 A20.out).mono ?_
   (case side1 => exact cU (Kd.C_below HR1_0.out HB.out))
   (case side2 => exact HC1_0.out)
   (case side3 => exact cU (Kd.C_below HR1_1.out HB.out))
   (case side4 => exact HC1_1.out)
   rintro e w35 ⟨v311, v314, rfl, ho0, ho1, hb⟩
   refine ⟨_, rfl, ?_⟩
   replace HO309 := Aside0.mk (Kd.S_below (by (with_reducible repeat (first | apply Kd.S_alloc | apply Kd.S_drewN | apply Kd.S_drew)); exact HO309.out) hb)
   have HO312 := Aside0.mk (Kd.R_lower ho0 (below_size (lV2 GE301 GE302)))
   have HO315 := Aside0.mk (Kd.R_lower ho1 (below_size (lV2 GE301 GE302)))
   replace BK301 := bB (bV BK301) hb
   replace BK302 := bB (bV BK302) hb
   replace HB := bH (lV2 GE301 GE302) hb
   (try clear hb)
   (try clear hb2)
   (try clear hk)
   (try clear hi)
   (try clear ho0)
   (try clear ho1)
   obtain ⟨Ao36, co36, eo36⟩ := Kd.S_slice HO309.out
   (first | subst eo36 | (injection eo36 with f1_ f2_ f3_; have f4_ := f1_.symm; have f5_ := f3_.symm; clear f1_ f2_ f3_; subst f4_; subst f5_))
   obtain ⟨Ao37, co37, eo37⟩ := Kd.R_slice HO312.out
   (first | subst eo37 | (injection eo37 with f1_ f2_ f3_; have f4_ := f1_.symm; have f5_ := f3_.symm; clear f1_ f2_ f3_; subst f4_; subst f5_))
   obtain ⟨Ao38, co38, eo38⟩ := Kd.R_slice HO315.out
   (first | subst eo38 | (injection eo38 with f1_ f2_ f3_; have f4_ := f1_.symm; have f5_ := f3_.symm; clear f1_ f2_ f3_; subst f4_; subst f5_))
   refine hK.out _ _ ⟨cz BK301 0 _, cz BK301 1 _, cz BK301 2 _, cz BK302 0 _, cz BK302 1 _, cz BK302 2 _⟩ (fun hHeld => ?_)
   clear hK K
   refine norm_ (a' := ?_) ?_ ?_
   rotate_left
   ·show Act.put _ (some 31) _ = _
    simp only [Act.put, List.setIfInBounds_toArray, List.set_cons_zero, List.set_cons_succ, i64_w, i32_w]
    rfl
   refine one_ (i := 4) (N := some 32) (bz 10 31) rfl rfl (one_of HT_.out (by kernel_rfl)) (by decide) (fun K hK => ?_)
   refine goes_ Try.func21 (by kernel_rfl) rfl #[.agg #[.int .i64 t305, .int .i64 t306, .slice Ao36 t307.length co36], .agg #[.slice Ao37 t310.length co37, .slice Ao38 t313.length co38, .int .i64 t316]] (by rfl) rfl rfl aE ?_
   with_reducible refine (spec_QueryWorld.calls k t305 t306 _ _ t307 _ _ t310 _ _ t313 t316 t317 t320 _ ?side1 ?side2 ?side3 ?side4 ?side5 ?side6 A21.out).mono ?_
   (case side1 => exact cU (Kd.S_reads' HO309.out).2.2)
   (case side2 => exact (Kd.S_reads' HO309.out).2.1)
   (case side3 => exact cU (Kd.R_reads' HO312.out).2.2)
   (case side4 => exact (Kd.R_reads' HO312.out).2.1)
   (case side5 => exact cU (Kd.R_reads' HO315.out).2.2)
   (case side6 => exact (Kd.R_reads' HO315.out).2.1)
   rintro e w39 ⟨v318, rfl, ho0, hb⟩
   refine ⟨_, rfl, ?_⟩
   replace HO309 := Aside0.mk (Kd.S_below (by (with_reducible repeat (first | apply Kd.S_alloc | apply Kd.S_drewN | apply Kd.S_drew)); exact HO309.out) hb)
   replace HO312 := Aside0.mk (Kd.R_below (rU HO312.out) hb)
   replace HO315 := Aside0.mk (Kd.R_below (rU HO315.out) hb)
   have HO319 := Aside0.mk (Kd.R_lower ho0 (below_size (lV2 GE301 GE302)))
   replace BK301 := bB (bV BK301) hb
   replace BK302 := bB (bV BK302) hb
   replace HB := bH (lV2 GE301 GE302) hb
   (try clear hb)
   (try clear hb2)
   (try clear hk)
   (try clear hi)
   (try clear ho0)
   refine hK.out _ _ ⟨cz BK301 0 _, cz BK301 1 _, cz BK301 2 _, cz BK302 0 _, cz BK302 1 _, cz BK302 2 _⟩ (fun hHeld => ?_)
   clear hK K
   refine norm_ (a' := ?_) ?_ ?_
   rotate_left
   ·show Act.put _ (some 32) _ = _
    simp only [Act.put, List.setIfInBounds_toArray, List.set_cons_zero, List.set_cons_succ, i64_w, i32_w]
    rfl
   refine pureA 5 27 (bz 10 63) rfl rfl (any_of HT_.out (by kernel_rfl)) ?_
   refine pureA 6 33 (bz 10 127) rfl rfl (any_of HT_.out (by kernel_rfl)) ?_
   refine pureA 7 34 (bz 10 255) rfl rfl (any_of HT_.out (by kernel_rfl)) ?_
   refine pureA 8 6 (bz 10 511) rfl rfl (any_of HT_.out (by kernel_rfl)) ?_
   refine pureA 9 7 (bz 10 1023) rfl rfl (any_of HT_.out (by kernel_rfl)) ?_
   refine done_ (done_of HT_.out (by kernel_rfl)) ?_
   have hcz40_0 := cz BK301 0 (.int .i64 a0_0)
   have hcz40_1 := cz BK301 1 (.int .i64 a0_1)
   have hcz40_2 := cz BK301 2 (.slice A0_2 l0_2.length c0_2)
   have hfz40_0 := fz BK301 0
   have hfz40_1 := fz BK301 1
   have hfz40_2 := fz BK301 2
   go_upto_region 12 with (first | ((with_reducible refine gate_callee (f := 22) rfl ?_); refine goesL_ (some 36) rfl rfl Try.func22 (by kernel_rfl) rfl #[.agg #[.int .i64 a0_0, .int .i64 a0_1, .slice A0_2 l0_2.length c0_2]] rfl aE ?_; (with_reducible refine (laws_toWorld.calls k a0_0 a0_1 _ _ l0_2 t321 t322 t323 _ ?side1 ?side2 A22.out).mono ?_); (case side1 => exact cU (Kd.C_below HR0_2.out HB.out)); (case side2 => exact HC0_2.out); rintro e w41 ⟨v324, rfl, ho0, hb⟩; refine ⟨_, rfl, ?_⟩; replace HO312 := Aside0.mk (Kd.R_below (rU HO312.out) hb); replace HO315 := Aside0.mk (Kd.R_below (rU HO315.out) hb); replace HO319 := Aside0.mk (Kd.R_below (rU HO319.out) hb); have HO325 := Aside0.mk (Kd.S_lower (Kd.S_new' ho0 (Kd.S_lt (by (with_reducible repeat (first | apply Kd.S_alloc | apply Kd.S_drewN | apply Kd.S_drew)); exact HO309.out))) (below_size (lV2 GE301 GE302))); replace HO309 := Aside0.mk (Kd.S_elder' (by (with_reducible repeat (first | apply Kd.S_alloc | apply Kd.S_drewN | apply Kd.S_drew)); exact HO309.out) (Kd.S_base ho0) hb); replace BK301 := bB (bV BK301) hb; replace BK302 := bB (bV BK302) hb; replace HB := bH (lV2 GE301 GE302) hb; (try clear hb); (try clear ho0)) | ((with_reducible refine gate_dst (N := 8) rfl ?_); refine box_event rfl (N := 8) rfl (cs := #[.int .i64 0, .int .i64 0, .slice none 0 0]) (t := 50) sE ?_; intro gb326 hg w42 hbox hb; replace HO309 := Aside0.mk (Kd.S_below (by (with_reducible repeat (first | apply Kd.S_alloc | apply Kd.S_drewN | apply Kd.S_drew)); exact HO309.out) hb); replace HO312 := Aside0.mk (Kd.R_below (rU HO312.out) hb); replace HO315 := Aside0.mk (Kd.R_below (rU HO315.out) hb); replace HO319 := Aside0.mk (Kd.R_below (rU HO319.out) hb); replace HO325 := Aside0.mk (Kd.S_below (by (with_reducible repeat (first | apply Kd.S_alloc | apply Kd.S_drewN | apply Kd.S_drew)); exact HO325.out) hb); have BK326 := Aside0.mk hbox; have GW326 := gS w hg (lV2 GE301 GE302); have GE326 := gS w hg (lV2 GE301 GE302); replace HB := bH (lV2 GE301 GE302) hb; have NB301_326 := nL hg (bV BK301); have NB326_301 := nG hg (bV BK301); replace BK301 := bB (bV BK301) hb; have NB302_326 := nL hg (bV BK302); have NB326_302 := nG hg (bV BK302); replace BK302 := bB (bV BK302) hb; clear hb hbox hg; have hnb43 := NB326_301.out; have hnc43 := NB301_326.out; have hnb44 := NB326_302.out; have hnc44 := NB302_326.out; have hcz45_0 := cz BK326 0 (.int .i64 0); have hcz45_1 := cz BK326 1 (.int .i64 0); have hcz45_2 := cz BK326 2 (.slice none 0 0); have hfz45_0 := fz BK326 0; have hfz45_1 := fz BK326 1; have hfz45_2 := fz BK326 2; obtain ⟨Ao46, co46, eo46⟩ := Kd.S_slice HO325.out; subst eo46) | ((with_reducible refine gate_store (t := 50) (p := 8) rfl ?_); refine store_event (t := 50) (p := 8) (v := ?vo_w47) (w1 := (((w42.setCell ⟨gb326, 0, none⟩ (.int .i64 t321)).setCell ⟨gb326, 1, none⟩ (.int .i64 t322)).setCell ⟨gb326, 2, none⟩ (.slice Ao46 t323.length co46))) ?hg ?ho ?hn ?hr ?_; (case ho => rfl); (case hg => rfl); (case hn => rfl); (case hr => first | (go_simp; done) | (go_simp; rfl) | (have hq0_ := (blk_cell BK326.out 0).trans (show _ = some _ from rfl); have hf0_ := blk_frozen BK326.out 0; have hq1_ := (blk_cell BK326.out 1).trans (show _ = some _ from rfl); have hf1_ := blk_frozen BK326.out 1; have hq2_ := (blk_cell BK326.out 2).trans (show _ = some _ from rfl); have hf2_ := blk_frozen BK326.out 2; first | (go_simp; done) | (go_simp; rfl))); intro w47 hw; replace HO309 : Aside0 (Kd.S k77 77 w47 w.heap.size (fun k_ => some k_ ≠ (.slice Ao46 t323.length co46 : Value).ownBlock) (.slice Ao36 t307.length co36) t307) := ⟨(by rw [hw]; exact (by (with_reducible repeat (first | apply Kd.S_alloc | apply Kd.S_drewN | apply Kd.S_drew)); exact Kd.S_mono (Kd.S_far (p := ⟨gb326, 2, none⟩) (Kd.S_far (p := ⟨gb326, 1, none⟩) (Kd.S_far (p := ⟨gb326, 0, none⟩) (Kd.S_types HO309.out BK326.out (by decide)) (fun _ hk => hk.2) (.int .i64 t321)) (fun _ hk => hk.2) (.int .i64 t322)) (fun _ hk => hk.2) (.slice Ao46 t323.length co46)) (fun _ hk => hk.1.2)))⟩; replace HO312 : Aside0 (Kd.R Kd.string 9 w47 w.heap.size (fun k_ => some k_ ≠ (.slice Ao38 t313.length co38 : Value).ownBlock) (.slice Ao37 t310.length co37) t310) := ⟨(by rw [hw]; exact (by (with_reducible repeat (first | apply Kd.R_alloc | apply Kd.R_drewN | apply Kd.R_drew)); exact Kd.R_mono (Kd.R_far (p := ⟨gb326, 2, none⟩) (Kd.R_far (p := ⟨gb326, 1, none⟩) (Kd.R_far (p := ⟨gb326, 0, none⟩) (Kd.R_types HO312.out BK326.out (by decide)) (fun _ hk => hk.2) (.int .i64 t321)) (fun _ hk => hk.2) (.int .i64 t322)) (fun _ hk => hk.2) (.slice Ao46 t323.length co46)) (fun _ hk => hk.1)))⟩; replace HO315 : Aside0 (Kd.R Kd.string 9 w47 w.heap.size (fun k_ => some k_ ≠ (.slice Ao37 t310.length co37 : Value).ownBlock) (.slice Ao38 t313.length co38) t313) := ⟨(by rw [hw]; exact (by (with_reducible repeat (first | apply Kd.R_alloc | apply Kd.R_drewN | apply Kd.R_drew)); exact Kd.R_mono (Kd.R_far (p := ⟨gb326, 2, none⟩) (Kd.R_far (p := ⟨gb326, 1, none⟩) (Kd.R_far (p := ⟨gb326, 0, none⟩) (Kd.R_types HO315.out BK326.out (by decide)) (fun _ hk => hk.2) (.int .i64 t321)) (fun _ hk => hk.2) (.int .i64 t322)) (fun _ hk => hk.2) (.slice Ao46 t323.length co46)) (fun _ hk => hk.1)))⟩; replace HO319 : Aside0 (Kd.R (Kd.int .i64) 3 w47 w.heap.size (fun _ => True) v318 t317) := ⟨(by rw [hw]; exact (by (with_reducible repeat (first | apply Kd.R_alloc | apply Kd.R_drewN | apply Kd.R_drew)); exact Kd.R_mono (Kd.R_far (p := ⟨gb326, 2, none⟩) (Kd.R_far (p := ⟨gb326, 1, none⟩) (Kd.R_far (p := ⟨gb326, 0, none⟩) (Kd.R_types HO319.out BK326.out (by decide)) (fun _ hk => hk.2) (.int .i64 t321)) (fun _ hk => hk.2) (.int .i64 t322)) (fun _ hk => hk.2) (.slice Ao46 t323.length co46)) (fun _ hk => trivial)))⟩; replace HO325 : Aside0 (Kd.S k77 77 w47 w.heap.size (fun k_ => some k_ ≠ (.slice Ao36 t307.length co36 : Value).ownBlock) (.slice Ao46 t323.length co46) t323) := ⟨(by rw [hw]; exact (by (with_reducible repeat (first | apply Kd.S_alloc | apply Kd.S_drewN | apply Kd.S_drew)); exact Kd.S_mono (Kd.S_far (p := ⟨gb326, 2, none⟩) (Kd.S_far (p := ⟨gb326, 1, none⟩) (Kd.S_far (p := ⟨gb326, 0, none⟩) (Kd.S_types HO325.out BK326.out (by decide)) (fun _ hk => hk.2) (.int .i64 t321)) (fun _ hk => hk.2) (.int .i64 t322)) (fun _ hk => hk.2) (.slice Ao46 t323.length co46)) (fun _ hk => hk.1.2)))⟩; replace BK301 : Aside0 (w47.heap[gb301]? = some (.cells #[.int .i64 a0_0, .int .i64 a0_1, .slice A0_2 l0_2.length c0_2] 39 (0, 0))) := ⟨(by rw [hw]; exact (bG NB301_326 BK301))⟩; replace BK302 : Aside0 (w47.heap[gb302]? = some (.cells #[.slice A1_0 l1_0.length c1_0, .slice A1_1 l1_1.length c1_1, .int .i64 a1_2] 42 (0, 0))) := ⟨(by rw [hw]; exact (bG NB302_326 BK302))⟩; replace BK326 : Aside0 (w47.heap[gb326]? = some (.cells #[.int .i64 t321, .int .i64 t322, .slice Ao46 t323.length co46] 50 (0, 0))) := ⟨(by rw [hw]; exact (by refine bU ?_; refine blk_put (cs := #[.int .i64 t321, .int .i64 t322, .slice none 0 0]) ?_ 2 _ rfl; refine bU ?_; refine blk_put (cs := #[.int .i64 t321, .int .i64 0, .slice none 0 0]) ?_ 1 _ rfl; refine bU ?_; refine blk_put (cs := #[.int .i64 0, .int .i64 0, .slice none 0 0]) ?_ 0 _ rfl; refine bU ?_; exact BK326.out))⟩; replace HB : Aside0 (Below w.heap.size w w47) := ⟨(by rw [hw]; exact (lV3 GE301 GE302 GE326))⟩; clear hw; have hcz48_0 := cz BK302 0 (.slice A1_0 l1_0.length c1_0); have hcz48_1 := cz BK302 1 (.slice A1_1 l1_1.length c1_1); have hcz48_2 := cz BK302 2 (.int .i64 a1_2); have hfz48_0 := fz BK302 0; have hfz48_1 := fz BK302 1; have hfz48_2 := fz BK302 2) | ((with_reducible refine gate_callee (f := 23) rfl ?_); refine goesL_ (some 38) rfl rfl Try.func23 (by kernel_rfl) rfl #[.agg #[.slice A1_0 l1_0.length c1_0, .slice A1_1 l1_1.length c1_1, .int .i64 a1_2]] rfl aE ?_; (with_reducible refine (laws_toQuery.calls k _ _ l1_0 _ _ l1_1 a1_2 t327 t330 t333 _ ?side1 ?side2 ?side3 ?side4 A23.out).mono ?_); (case side1 => exact cU (Kd.C_below HR1_0.out HB.out)); (case side2 => exact HC1_0.out); (case side3 => exact cU (Kd.C_below HR1_1.out HB.out)); (case side4 => exact HC1_1.out); rintro e w49 ⟨v328, v331, rfl, ho0, ho1, hb⟩; refine ⟨_, rfl, ?_⟩; replace HO309 := Aside0.mk (Kd.S_below (by (with_reducible repeat (first | apply Kd.S_alloc | apply Kd.S_drewN | apply Kd.S_drew)); exact HO309.out) hb); replace HO319 := Aside0.mk (Kd.R_below (rU HO319.out) hb); replace HO325 := Aside0.mk (Kd.S_below (by (with_reducible repeat (first | apply Kd.S_alloc | apply Kd.S_drewN | apply Kd.S_drew)); exact HO325.out) hb); have HO329 := Aside0.mk (Kd.R_lower (Kd.R_new' (Kd.R_new' ho0 (Kd.R_lt (rU HO312.out))) (Kd.R_lt (rU HO315.out))) (below_size (lV3 GE301 GE302 GE326))); have HO332 := Aside0.mk (Kd.R_lower (Kd.R_new' (Kd.R_new' ho1 (Kd.R_lt (rU HO312.out))) (Kd.R_lt (rU HO315.out))) (below_size (lV3 GE301 GE302 GE326))); replace HO312 := Aside0.mk (Kd.R_mono (Kd.R_told (Kd.R_told (Kd.R_old (rU HO312.out) hb) (Kd.R_base ho0)) (Kd.R_base ho1)) (fun _ h_ => h_.1)); replace HO315 := Aside0.mk (Kd.R_mono (Kd.R_told (Kd.R_told (Kd.R_old (rU HO315.out) hb) (Kd.R_base ho0)) (Kd.R_base ho1)) (fun _ h_ => h_.1)); replace BK301 := bB (bV BK301) hb; replace BK302 := bB (bV BK302) hb; replace BK326 := bB (bV BK326) hb; replace HB := bH (lV3 GE301 GE302 GE326) hb; (try clear hb); (try clear ho0); (try clear ho1)) | ((with_reducible refine gate_dst (N := 9) rfl ?_); refine box_event rfl (N := 9) rfl (cs := #[.slice none 0 0, .slice none 0 0, .int .i64 0]) (t := 52) sE ?_; intro gb334 hg w50 hbox hb; replace HO309 := Aside0.mk (Kd.S_below (by (with_reducible repeat (first | apply Kd.S_alloc | apply Kd.S_drewN | apply Kd.S_drew)); exact HO309.out) hb); replace HO312 := Aside0.mk (Kd.R_below (rU HO312.out) hb); replace HO315 := Aside0.mk (Kd.R_below (rU HO315.out) hb); replace HO319 := Aside0.mk (Kd.R_below (rU HO319.out) hb); replace HO325 := Aside0.mk (Kd.S_below (by (with_reducible repeat (first | apply Kd.S_alloc | apply Kd.S_drewN | apply Kd.S_drew)); exact HO325.out) hb); replace HO329 := Aside0.mk (Kd.R_below (rU HO329.out) hb); replace HO332 := Aside0.mk (Kd.R_below (rU HO332.out) hb); have BK334 := Aside0.mk hbox; have GW334 := gS w hg (lV3 GE301 GE302 GE326); have GE334 := gS w hg (lV3 GE301 GE302 GE326); replace HB := bH (lV3 GE301 GE302 GE326) hb; have NB301_334 := nL hg (bV BK301); have NB334_301 := nG hg (bV BK301); replace BK301 := bB (bV BK301) hb; have NB302_334 := nL hg (bV BK302); have NB334_302 := nG hg (bV BK302); replace BK302 := bB (bV BK302) hb; have NB326_334 := nL hg (bV BK326); have NB334_326 := nG hg (bV BK326); replace BK326 := bB (bV BK326) hb; clear hb hbox hg; obtain ⟨Ao51, co51, eo51⟩ := Kd.R_slice HO329.out; subst eo51; have hnb52 := NB334_301.out; have hnc52 := NB301_334.out; have hnb53 := NB334_302.out; have hnc53 := NB302_334.out; have hnb54 := NB334_326.out; have hnc54 := NB326_334.out; have hcz55_0 := cz BK334 0 (.slice none 0 0); have hcz55_1 := cz BK334 1 (.slice none 0 0); have hcz55_2 := cz BK334 2 (.int .i64 0); have hfz55_0 := fz BK334 0; have hfz55_1 := fz BK334 1; have hfz55_2 := fz BK334 2; obtain ⟨Ao56, co56, eo56⟩ := Kd.R_slice HO332.out; subst eo56) | ((with_reducible refine gate_store (t := 52) (p := 9) rfl ?_); refine store_event (t := 52) (p := 9) (v := ?vo_w57) (w1 := (((w50.setCell ⟨gb334, 0, none⟩ (.slice Ao51 t327.length co51)).setCell ⟨gb334, 1, none⟩ (.slice Ao56 t330.length co56)).setCell ⟨gb334, 2, none⟩ (.int .i64 t333))) ?hg ?ho ?hn ?hr ?_; (case ho => rfl); (case hg => rfl); (case hn => rfl); (case hr => first | (go_simp; done) | (go_simp; rfl) | (have hq0_ := (blk_cell BK334.out 0).trans (show _ = some _ from rfl); have hf0_ := blk_frozen BK334.out 0; have hq1_ := (blk_cell BK334.out 1).trans (show _ = some _ from rfl); have hf1_ := blk_frozen BK334.out 1; have hq2_ := (blk_cell BK334.out 2).trans (show _ = some _ from rfl); have hf2_ := blk_frozen BK334.out 2; first | (go_simp; done) | (go_simp; rfl))); intro w57 hw; replace HO309 : Aside0 (Kd.S k77 77 w57 w.heap.size (fun k_ => some k_ ≠ (.slice Ao46 t323.length co46 : Value).ownBlock) (.slice Ao36 t307.length co36) t307) := ⟨(by rw [hw]; exact (by (with_reducible repeat (first | apply Kd.S_alloc | apply Kd.S_drewN | apply Kd.S_drew)); exact Kd.S_mono (Kd.S_far (p := ⟨gb334, 2, none⟩) (Kd.S_far (p := ⟨gb334, 1, none⟩) (Kd.S_far (p := ⟨gb334, 0, none⟩) (Kd.S_types HO309.out BK334.out (by decide)) (fun _ hk => hk.2) (.slice Ao51 t327.length co51)) (fun _ hk => hk.2) (.slice Ao56 t330.length co56)) (fun _ hk => hk.2) (.int .i64 t333)) (fun _ hk => hk.1)))⟩; replace HO312 : Aside0 (Kd.R Kd.string 9 w57 w.heap.size (fun k_ => some k_ ≠ (.slice Ao38 t313.length co38 : Value).ownBlock ∧ some k_ ≠ (.slice Ao51 t327.length co51 : Value).ownBlock ∧ some k_ ≠ (.slice Ao56 t330.length co56 : Value).ownBlock) (.slice Ao37 t310.length co37) t310) := ⟨(by rw [hw]; exact (by (with_reducible repeat (first | apply Kd.R_alloc | apply Kd.R_drewN | apply Kd.R_drew)); exact Kd.R_mono (Kd.R_far (p := ⟨gb334, 2, none⟩) (Kd.R_far (p := ⟨gb334, 1, none⟩) (Kd.R_far (p := ⟨gb334, 0, none⟩) (Kd.R_types HO312.out BK334.out (by decide)) (fun _ hk => hk.2) (.slice Ao51 t327.length co51)) (fun _ hk => hk.2) (.slice Ao56 t330.length co56)) (fun _ hk => hk.2) (.int .i64 t333)) (fun _ hk => ⟨hk.1.1.1, ⟨hk.1.1.2, hk.1.2⟩⟩)))⟩; replace HO315 : Aside0 (Kd.R Kd.string 9 w57 w.heap.size (fun k_ => some k_ ≠ (.slice Ao37 t310.length co37 : Value).ownBlock ∧ some k_ ≠ (.slice Ao51 t327.length co51 : Value).ownBlock ∧ some k_ ≠ (.slice Ao56 t330.length co56 : Value).ownBlock) (.slice Ao38 t313.length co38) t313) := ⟨(by rw [hw]; exact (by (with_reducible repeat (first | apply Kd.R_alloc | apply Kd.R_drewN | apply Kd.R_drew)); exact Kd.R_mono (Kd.R_far (p := ⟨gb334, 2, none⟩) (Kd.R_far (p := ⟨gb334, 1, none⟩) (Kd.R_far (p := ⟨gb334, 0, none⟩) (Kd.R_types HO315.out BK334.out (by decide)) (fun _ hk => hk.2) (.slice Ao51 t327.length co51)) (fun _ hk => hk.2) (.slice Ao56 t330.length co56)) (fun _ hk => hk.2) (.int .i64 t333)) (fun _ hk => ⟨hk.1.1.1, ⟨hk.1.1.2, hk.1.2⟩⟩)))⟩; replace HO319 : Aside0 (Kd.R (Kd.int .i64) 3 w57 w.heap.size (fun _ => True) v318 t317) := ⟨(by rw [hw]; exact (by (with_reducible repeat (first | apply Kd.R_alloc | apply Kd.R_drewN | apply Kd.R_drew)); exact Kd.R_mono (Kd.R_far (p := ⟨gb334, 2, none⟩) (Kd.R_far (p := ⟨gb334, 1, none⟩) (Kd.R_far (p := ⟨gb334, 0, none⟩) (Kd.R_types HO319.out BK334.out (by decide)) (fun _ hk => hk.2) (.slice Ao51 t327.length co51)) (fun _ hk => hk.2) (.slice Ao56 t330.length co56)) (fun _ hk => hk.2) (.int .i64 t333)) (fun _ hk => trivial)))⟩; replace HO325 : Aside0 (Kd.S k77 77 w57 w.heap.size (fun k_ => some k_ ≠ (.slice Ao36 t307.length co36 : Value).ownBlock) (.slice Ao46 t323.length co46) t323) := ⟨(by rw [hw]; exact (by (with_reducible repeat (first | apply Kd.S_alloc | apply Kd.S_drewN | apply Kd.S_drew)); exact Kd.S_mono (Kd.S_far (p := ⟨gb334, 2, none⟩) (Kd.S_far (p := ⟨gb334, 1, none⟩) (Kd.S_far (p := ⟨gb334, 0, none⟩) (Kd.S_types HO325.out BK334.out (by decide)) (fun _ hk => hk.2) (.slice Ao51 t327.length co51)) (fun _ hk => hk.2) (.slice Ao56 t330.length co56)) (fun _ hk => hk.2) (.int .i64 t333)) (fun _ hk => hk.1)))⟩; replace HO329 : Aside0 (Kd.R Kd.string 9 w57 w.heap.size (fun k_ => some k_ ≠ (.slice Ao37 t310.length co37 : Value).ownBlock ∧ some k_ ≠ (.slice Ao38 t313.length co38 : Value).ownBlock ∧ some k_ ≠ (.slice Ao56 t330.length co56 : Value).ownBlock) (.slice Ao51 t327.length co51) t327) := ⟨(by rw [hw]; exact (by (with_reducible repeat (first | apply Kd.R_alloc | apply Kd.R_drewN | apply Kd.R_drew)); exact Kd.R_mono (Kd.R_far (p := ⟨gb334, 2, none⟩) (Kd.R_far (p := ⟨gb334, 1, none⟩) (Kd.R_far (p := ⟨gb334, 0, none⟩) (Kd.R_types HO329.out BK334.out (by decide)) (fun _ hk => hk.2) (.slice Ao51 t327.length co51)) (fun _ hk => hk.2) (.slice Ao56 t330.length co56)) (fun _ hk => hk.2) (.int .i64 t333)) (fun _ hk => ⟨hk.1.1.2, ⟨hk.1.2, hk.1.1.1⟩⟩)))⟩; replace HO332 : Aside0 (Kd.R Kd.string 9 w57 w.heap.size (fun k_ => some k_ ≠ (.slice Ao37 t310.length co37 : Value).ownBlock ∧ some k_ ≠ (.slice Ao38 t313.length co38 : Value).ownBlock ∧ some k_ ≠ (.slice Ao51 t327.length co51 : Value).ownBlock) (.slice Ao56 t330.length co56) t330) := ⟨(by rw [hw]; exact (by (with_reducible repeat (first | apply Kd.R_alloc | apply Kd.R_drewN | apply Kd.R_drew)); exact Kd.R_mono (Kd.R_far (p := ⟨gb334, 2, none⟩) (Kd.R_far (p := ⟨gb334, 1, none⟩) (Kd.R_far (p := ⟨gb334, 0, none⟩) (Kd.R_types HO332.out BK334.out (by decide)) (fun _ hk => hk.2) (.slice Ao51 t327.length co51)) (fun _ hk => hk.2) (.slice Ao56 t330.length co56)) (fun _ hk => hk.2) (.int .i64 t333)) (fun _ hk => ⟨hk.1.1.2, ⟨hk.1.2, hk.1.1.1⟩⟩)))⟩; replace BK301 : Aside0 (w57.heap[gb301]? = some (.cells #[.int .i64 a0_0, .int .i64 a0_1, .slice A0_2 l0_2.length c0_2] 39 (0, 0))) := ⟨(by rw [hw]; exact (bG NB301_334 BK301))⟩; replace BK302 : Aside0 (w57.heap[gb302]? = some (.cells #[.slice A1_0 l1_0.length c1_0, .slice A1_1 l1_1.length c1_1, .int .i64 a1_2] 42 (0, 0))) := ⟨(by rw [hw]; exact (bG NB302_334 BK302))⟩; replace BK326 : Aside0 (w57.heap[gb326]? = some (.cells #[.int .i64 t321, .int .i64 t322, .slice Ao46 t323.length co46] 50 (0, 0))) := ⟨(by rw [hw]; exact (bG NB326_334 BK326))⟩; replace BK334 : Aside0 (w57.heap[gb334]? = some (.cells #[.slice Ao51 t327.length co51, .slice Ao56 t330.length co56, .int .i64 t333] 52 (0, 0))) := ⟨(by rw [hw]; exact (by refine bU ?_; refine blk_put (cs := #[.slice Ao51 t327.length co51, .slice Ao56 t330.length co56, .int .i64 0]) ?_ 2 _ rfl; refine bU ?_; refine blk_put (cs := #[.slice Ao51 t327.length co51, .slice none 0 0, .int .i64 0]) ?_ 1 _ rfl; refine bU ?_; refine blk_put (cs := #[.slice none 0 0, .slice none 0 0, .int .i64 0]) ?_ 0 _ rfl; refine bU ?_; exact BK334.out))⟩; replace HB : Aside0 (Below w.heap.size w w57) := ⟨(by rw [hw]; exact (lV4 GE301 GE302 GE326 GE334))⟩; clear hw; have hcz58_0 := cz BK326 0 (.int .i64 t321); have hcz58_1 := cz BK326 1 (.int .i64 t322); have hcz58_2 := cz BK326 2 (.slice Ao46 t323.length co46); have hfz58_0 := fz BK326 0; have hfz58_1 := fz BK326 1; have hfz58_2 := fz BK326 2; have hcz59_0 := cz BK334 0 (.slice Ao51 t327.length co51); have hcz59_1 := cz BK334 1 (.slice Ao56 t330.length co56); have hcz59_2 := cz BK334 2 (.int .i64 t333); have hfz59_0 := fz BK334 0; have hfz59_1 := fz BK334 1; have hfz59_2 := fz BK334 2) | ((with_reducible refine gate_callee (f := 24) rfl ?_); refine goesL_ (some 42) rfl rfl Try.func24 (by kernel_rfl) rfl #[.agg #[.int .i64 t321, .int .i64 t322, .slice Ao46 t323.length co46], .agg #[.slice Ao51 t327.length co51, .slice Ao56 t330.length co56, .int .i64 t333]] rfl aE ?_; (with_reducible refine (impl_QueryWorld.calls k t321 t322 _ _ t323 _ _ t327 _ _ t330 t333 t335 t338 _ ?side1 ?side2 ?side3 ?side4 ?side5 ?side6 A24.out).mono ?_); (case side1 => exact cU (Kd.S_reads' HO325.out).2.2); (case side2 => exact (Kd.S_reads' HO325.out).2.1); (case side3 => exact cU (Kd.R_reads' HO329.out).2.2); (case side4 => exact (Kd.R_reads' HO329.out).2.1); (case side5 => exact cU (Kd.R_reads' HO332.out).2.2); (case side6 => exact (Kd.R_reads' HO332.out).2.1); rintro e w60 ⟨v336, rfl, ho0, hb⟩; refine ⟨_, rfl, ?_⟩; replace HO309 := Aside0.mk (Kd.S_below (by (with_reducible repeat (first | apply Kd.S_alloc | apply Kd.S_drewN | apply Kd.S_drew)); exact HO309.out) hb); replace HO312 := Aside0.mk (Kd.R_below (rU HO312.out) hb); replace HO315 := Aside0.mk (Kd.R_below (rU HO315.out) hb); replace HO325 := Aside0.mk (Kd.S_below (by (with_reducible repeat (first | apply Kd.S_alloc | apply Kd.S_drewN | apply Kd.S_drew)); exact HO325.out) hb); replace HO329 := Aside0.mk (Kd.R_below (rU HO329.out) hb); replace HO332 := Aside0.mk (Kd.R_below (rU HO332.out) hb); have HO337 := Aside0.mk (Kd.R_lower (Kd.R_new' ho0 (Kd.R_lt (rU HO319.out))) (below_size (lV4 GE301 GE302 GE326 GE334))); replace HO319 := Aside0.mk (Kd.R_elder' (rU HO319.out) (Kd.R_base ho0) hb); replace BK301 := bB (bV BK301) hb; replace BK302 := bB (bV BK302) hb; replace BK326 := bB (bV BK326) hb; replace BK334 := bB (bV BK334) hb; replace HB := bH (lV4 GE301 GE302 GE326 GE334) hb; (try clear hb); (try clear ho0)))
   (try simp only [Act.put, List.setIfInBounds_toArray, List.set_cons_zero, List.set_cons_succ])
   go_cut [53] (fun v53 wc => ∃ (kq : Nat) (x53_24 : Bool), v53 = .bool x53_24 ∧ Aside0 (laws_FnExactQueryWorld.j0 kq t317 t320 t335 t338 x53_24 a0_0 a0_1 l0_2 l1_0 l1_1 a1_2 t321 t322 t323 t327 t330 t333 = some r) ∧ Aside0 (kq ≤ k) ∧ Aside0 (Kd.R (Kd.int .i64) 3 wc w.heap.size (fun k_ => some k_ ≠ (v336 : Value).ownBlock) v318 t317) ∧ Aside0 (Kd.R (Kd.int .i64) 3 wc w.heap.size (fun k_ => some k_ ≠ (v318 : Value).ownBlock) v336 t335) ∧ Aside0 (Kd.S k77 77 wc w.heap.size (fun _ => True) (.slice Ao46 t323.length co46) t323) ∧ Aside0 (Kd.R Kd.string 9 wc w.heap.size (fun k_ => some k_ ≠ ((.slice Ao56 t330.length co56) : Value).ownBlock) (.slice Ao51 t327.length co51) t327) ∧ Aside0 (Kd.R Kd.string 9 wc w.heap.size (fun k_ => some k_ ≠ ((.slice Ao51 t327.length co51) : Value).ownBlock) (.slice Ao56 t330.length co56) t330) ∧ Aside0 (wc.heap[gb301]? = some (.cells #[.int .i64 a0_0, .int .i64 a0_1, (.slice A0_2 l0_2.length c0_2)] 39 (0, 0))) ∧ Aside0 (wc.heap[gb302]? = some (.cells #[(.slice A1_0 l1_0.length c1_0), (.slice A1_1 l1_1.length c1_1), .int .i64 a1_2] 42 (0, 0))) ∧ Aside0 (wc.heap[gb326]? = some (.cells #[.int .i64 t321, .int .i64 t322, (.slice Ao46 t323.length co46)] 50 (0, 0))) ∧ Aside0 (wc.heap[gb334]? = some (.cells #[(.slice Ao51 t327.length co51), (.slice Ao56 t330.length co56), .int .i64 t333] 52 (0, 0))) ∧ Aside0 (Below w.heap.size w wc))
   case first =>
    have H := HC25.out
    clear HC25
    replace H := Option.bind_eq_some_iff.mp H
    obtain ⟨t339, A610, H⟩ := H
    replace H : (if t339 = true then (laws_FnExactQueryWorld.j0 k t317 t320 t335 t338 (t338 != t320) a0_0 a0_1 l0_2 l1_0 l1_1 a1_2 t321 t322 t323 t327 t330 t333) else (laws_FnExactQueryWorld.j0 k t317 t320 t335 t338 true a0_0 a0_1 l0_2 l1_0 l1_1 a1_2 t321 t322 t323 t327 t330 t333)) = some r := H
    have A61 := Aside0.mk A610
    clear A610
    by_cases c62 : t339 = true
    ·subst c62
     have H1 : (laws_FnExactQueryWorld.j0 k t317 t320 t335 t338 (t338 != t320) a0_0 a0_1 l0_2 l1_0 l1_1 a1_2 t321 t322 t323 t327 t330 t333) = some r := by rw [if_pos rfl] at H; exact H
     clear H
     have H := H1
     clear H1
     have H' := Aside0.mk H
     clear H
     obtain ⟨Ao63, co63, eo63⟩ := Kd.R_slice HO337.out
     subst eo63
     obtain ⟨Ao64, co64, eo64⟩ := Kd.R_slice HO319.out
     subst eo64
     go_wp2_with (first | ((with_reducible refine gate_callee (f := 25) rfl ?_); refine goesL_ (some 47) rfl rfl Try.func25 (by kernel_rfl) rfl #[.slice Ao63 t335.length co63, .slice Ao64 t317.length co64] rfl aE ?_; (with_reducible refine (laws_eqIntS.calls k _ _ t335 _ _ t317 true _ ?side1 ?side2 ?side3 ?side4 A61.out).mono ?_); (case side1 => exact cU (Kd.R_reads' HO337.out).2.2); (case side2 => exact (Kd.R_reads' HO337.out).2.1); (case side3 => exact cU (Kd.R_reads' HO319.out).2.2); (case side4 => exact (Kd.R_reads' HO319.out).2.1); rintro e w' ⟨rfl, ⟨nd, rfl⟩⟩; refine ⟨_, rfl, ?_⟩))
     go_meet
     case rel => exact ⟨_, ((t338 != t320)), tE, H', ⟨by first | omega | exact Nat.le_refl _⟩, ⟨by (with_reducible repeat (first | apply Kd.R_alloc | apply Kd.R_drewN | apply Kd.R_drew)); exact Kd.R_mono HO319.out (fun _ hk => hk.2)⟩, ⟨by (with_reducible repeat (first | apply Kd.R_alloc | apply Kd.R_drewN | apply Kd.R_drew)); exact Kd.R_mono HO337.out (fun _ hk => hk.2)⟩, ⟨by (with_reducible repeat (first | apply Kd.S_alloc | apply Kd.S_drewN | apply Kd.S_drew)); exact Kd.S_mono HO325.out (fun _ hk => trivial)⟩, ⟨by (with_reducible repeat (first | apply Kd.R_alloc | apply Kd.R_drewN | apply Kd.R_drew)); exact Kd.R_mono HO329.out (fun _ hk => hk.2.2)⟩, ⟨by (with_reducible repeat (first | apply Kd.R_alloc | apply Kd.R_drewN | apply Kd.R_drew)); exact Kd.R_mono HO332.out (fun _ hk => hk.2.2)⟩, ⟨by refine bU ?_; exact BK301.out⟩, ⟨by refine bU ?_; exact BK302.out⟩, ⟨by refine bU ?_; exact BK326.out⟩, ⟨by refine bU ?_; exact BK334.out⟩, ⟨by repeat (first | (with_reducible first | exact HB.out | apply below_alloc | apply pw_below_drewN | apply below_drew1 | refine below_set ?_ GE301.out | refine below_set ?_ GE302.out | refine below_set ?_ GE326.out | refine below_set ?_ GE334.out) | exact HB.out)⟩⟩
    ·replace c62 := Bool.eq_false_iff.mpr c62
     subst c62
     have H1 : (laws_FnExactQueryWorld.j0 k t317 t320 t335 t338 true a0_0 a0_1 l0_2 l1_0 l1_1 a1_2 t321 t322 t323 t327 t330 t333) = some r := by rw [if_neg (show ¬ (false = true) by decide)] at H; exact H
     clear H
     have H := H1
     clear H1
     have H' := Aside0.mk H
     clear H
     obtain ⟨Ao65, co65, eo65⟩ := Kd.R_slice HO337.out
     subst eo65
     obtain ⟨Ao66, co66, eo66⟩ := Kd.R_slice HO319.out
     subst eo66
     go_wp2_with (first | ((with_reducible refine gate_callee (f := 25) rfl ?_); refine goesL_ (some 47) rfl rfl Try.func25 (by kernel_rfl) rfl #[.slice Ao65 t335.length co65, .slice Ao66 t317.length co66] rfl aE ?_; (with_reducible refine (laws_eqIntS.calls k _ _ t335 _ _ t317 false _ ?side1 ?side2 ?side3 ?side4 A61.out).mono ?_); (case side1 => exact cU (Kd.R_reads' HO337.out).2.2); (case side2 => exact (Kd.R_reads' HO337.out).2.1); (case side3 => exact cU (Kd.R_reads' HO319.out).2.2); (case side4 => exact (Kd.R_reads' HO319.out).2.1); rintro e w' ⟨rfl, ⟨nd, rfl⟩⟩; refine ⟨_, rfl, ?_⟩))
     go_meet
     case rel => exact ⟨_, (true), tE, H', ⟨by first | omega | exact Nat.le_refl _⟩, ⟨by (with_reducible repeat (first | apply Kd.R_alloc | apply Kd.R_drewN | apply Kd.R_drew)); exact Kd.R_mono HO319.out (fun _ hk => hk.2)⟩, ⟨by (with_reducible repeat (first | apply Kd.R_alloc | apply Kd.R_drewN | apply Kd.R_drew)); exact Kd.R_mono HO337.out (fun _ hk => hk.2)⟩, ⟨by (with_reducible repeat (first | apply Kd.S_alloc | apply Kd.S_drewN | apply Kd.S_drew)); exact Kd.S_mono HO325.out (fun _ hk => trivial)⟩, ⟨by (with_reducible repeat (first | apply Kd.R_alloc | apply Kd.R_drewN | apply Kd.R_drew)); exact Kd.R_mono HO329.out (fun _ hk => hk.2.2)⟩, ⟨by (with_reducible repeat (first | apply Kd.R_alloc | apply Kd.R_drewN | apply Kd.R_drew)); exact Kd.R_mono HO332.out (fun _ hk => hk.2.2)⟩, ⟨by refine bU ?_; exact BK301.out⟩, ⟨by refine bU ?_; exact BK302.out⟩, ⟨by refine bU ?_; exact BK326.out⟩, ⟨by refine bU ?_; exact BK334.out⟩, ⟨by repeat (first | (with_reducible first | exact HB.out | apply below_alloc | apply pw_below_drewN | apply below_drew1 | refine below_set ?_ GE301.out | refine below_set ?_ GE302.out | refine below_set ?_ GE326.out | refine below_set ?_ GE334.out) | exact HB.out)⟩⟩
   case rest =>
    clear HC25
    try clear c1
    try clear q1
    try clear c2
    try clear p2
    try clear q2
    try clear hf2
    try clear c4
    try clear c4b0
    try clear c5
    try clear c6
    try clear c7
    try clear c11
    try clear c11b0
    try clear c14
    try clear c19
    try clear c20
    try clear c21
    try clear c22
    try clear c23
    try clear c24
    try clear c25
    try clear c28
    try clear c43
    try clear c44
    try clear c52
    try clear c53
    try clear c54
    try clear c62
    try clear hcz15_0
    try clear hcz15_1
    try clear hcz15_2
    try clear hcz17_0
    try clear hcz17_1
    try clear hcz17_2
    try clear hcz29_0
    try clear hcz29_1
    try clear hcz29_2
    try clear hcz31_0
    try clear hcz31_1
    try clear hcz31_2
    try clear hcz40_0
    try clear hcz40_1
    try clear hcz40_2
    try clear hcz45_0
    try clear hcz45_1
    try clear hcz45_2
    try clear hcz48_0
    try clear hcz48_1
    try clear hcz48_2
    try clear hcz55_0
    try clear hcz55_1
    try clear hcz55_2
    try clear hcz58_0
    try clear hcz58_1
    try clear hcz58_2
    try clear hcz59_0
    try clear hcz59_1
    try clear hcz59_2
    try clear hcz8_0
    try clear hcz8_1
    try clear hcz8_2
    try clear hfz15_0
    try clear hfz15_1
    try clear hfz15_2
    try clear hfz17_0
    try clear hfz17_1
    try clear hfz17_2
    try clear hfz29_0
    try clear hfz29_1
    try clear hfz29_2
    try clear hfz31_0
    try clear hfz31_1
    try clear hfz31_2
    try clear hfz40_0
    try clear hfz40_1
    try clear hfz40_2
    try clear hfz45_0
    try clear hfz45_1
    try clear hfz45_2
    try clear hfz48_0
    try clear hfz48_1
    try clear hfz48_2
    try clear hfz55_0
    try clear hfz55_1
    try clear hfz55_2
    try clear hfz58_0
    try clear hfz58_1
    try clear hfz58_2
    try clear hfz59_0
    try clear hfz59_1
    try clear hfz59_2
    try clear hfz8_0
    try clear hfz8_1
    try clear hfz8_2
    obtain ⟨kq, x53_24, rfl, HA, HJ24, HO_6, HO_10, HO_327002, HO_335000, HO_335001, BK301, BK302, BK326, BK334, HB⟩ := hcut
    cases kq with
    | zero => exact absurd HA.out (by simp [laws_FnExactQueryWorld.j0])
    | succ kj24 =>
     have H := HA.out
     clear HA
     simp only [laws_FnExactQueryWorld.j0] at H
     by_cases c67 : x53_24 = true
     ·subst c67
      have H1 : (some false) = some r := by rw [if_pos rfl] at H; exact H
      clear H
      have H := H1
      clear H1
      obtain rfl := Option.some.inj H
      go_wp2
      go_ret
      exact ⟨eE, lV4 GE301 GE302 GE326 GE334⟩
     ·replace c67 := Bool.eq_false_iff.mpr c67
      subst c67
      have H1 : ((laws_toWorld.f kj24 a0_0 a0_1 l0_2).bind fun bt340 => ((laws_eqWorld.f kj24 t321 t322 t323 bt340.1 bt340.2.1 bt340.2.2).bind fun t345 => (if t345 = true then ((laws_toQuery.f kj24 l1_0 l1_1 a1_2).bind fun bt346 => ((laws_eqQuery.f kj24 t327 t330 t333 bt346.1 bt346.2.1 bt346.2.2).bind fun t353 => (if t353 = true then ((laws_markWorld.f kj24 t321 t322 t323 1).bind fun bt354 => ((laws_markQuery.f kj24 t327 t330 t333 bt354.1).bind fun bt356 => (if bt356.1 < 0 then (laws_FnExactQueryWorld.j1 kj24 t317 t320 t335 true a0_0 a0_1 l0_2 l1_0 l1_1 a1_2) else ((laws_eqIntS.f kj24 t335 t317).bind fun t359 => (if t359 = true then (laws_FnExactQueryWorld.j1 kj24 t317 t320 t335 (t338 != t320) a0_0 a0_1 l0_2 l1_0 l1_1 a1_2) else (laws_FnExactQueryWorld.j1 kj24 t317 t320 t335 true a0_0 a0_1 l0_2 l1_0 l1_1 a1_2)))))) else (some false)))) else (some false)))) = some r := by rw [if_neg (show ¬ (false = true) by decide)] at H; exact H
      clear H
      have H := H1
      clear H1
      replace H := Option.bind_eq_some_iff.mp H
      obtain ⟨⟨t340, t341, t342⟩, A680, H⟩ := H
      replace H : ((laws_eqWorld.f kj24 t321 t322 t323 t340 t341 t342).bind fun t345 => (if t345 = true then ((laws_toQuery.f kj24 l1_0 l1_1 a1_2).bind fun bt346 => ((laws_eqQuery.f kj24 t327 t330 t333 bt346.1 bt346.2.1 bt346.2.2).bind fun t353 => (if t353 = true then ((laws_markWorld.f kj24 t321 t322 t323 1).bind fun bt354 => ((laws_markQuery.f kj24 t327 t330 t333 bt354.1).bind fun bt356 => (if bt356.1 < 0 then (laws_FnExactQueryWorld.j1 kj24 t317 t320 t335 true a0_0 a0_1 l0_2 l1_0 l1_1 a1_2) else ((laws_eqIntS.f kj24 t335 t317).bind fun t359 => (if t359 = true then (laws_FnExactQueryWorld.j1 kj24 t317 t320 t335 (t338 != t320) a0_0 a0_1 l0_2 l1_0 l1_1 a1_2) else (laws_FnExactQueryWorld.j1 kj24 t317 t320 t335 true a0_0 a0_1 l0_2 l1_0 l1_1 a1_2)))))) else (some false)))) else (some false))) = some r := H
      have A68 := Aside0.mk A680
      clear A680
      replace H := Option.bind_eq_some_iff.mp H
      obtain ⟨t345, A690, H⟩ := H
      replace H : (if t345 = true then ((laws_toQuery.f kj24 l1_0 l1_1 a1_2).bind fun bt346 => ((laws_eqQuery.f kj24 t327 t330 t333 bt346.1 bt346.2.1 bt346.2.2).bind fun t353 => (if t353 = true then ((laws_markWorld.f kj24 t321 t322 t323 1).bind fun bt354 => ((laws_markQuery.f kj24 t327 t330 t333 bt354.1).bind fun bt356 => (if bt356.1 < 0 then (laws_FnExactQueryWorld.j1 kj24 t317 t320 t335 true a0_0 a0_1 l0_2 l1_0 l1_1 a1_2) else ((laws_eqIntS.f kj24 t335 t317).bind fun t359 => (if t359 = true then (laws_FnExactQueryWorld.j1 kj24 t317 t320 t335 (t338 != t320) a0_0 a0_1 l0_2 l1_0 l1_1 a1_2) else (laws_FnExactQueryWorld.j1 kj24 t317 t320 t335 true a0_0 a0_1 l0_2 l1_0 l1_1 a1_2)))))) else (some false)))) else (some false)) = some r := H
      have A69 := Aside0.mk A690
      clear A690
      by_cases c70 : t345 = true
      ·subst c70
       have H1 : ((laws_toQuery.f kj24 l1_0 l1_1 a1_2).bind fun bt346 => ((laws_eqQuery.f kj24 t327 t330 t333 bt346.1 bt346.2.1 bt346.2.2).bind fun t353 => (if t353 = true then ((laws_markWorld.f kj24 t321 t322 t323 1).bind fun bt354 => ((laws_markQuery.f kj24 t327 t330 t333 bt354.1).bind fun bt356 => (if bt356.1 < 0 then (laws_FnExactQueryWorld.j1 kj24 t317 t320 t335 true a0_0 a0_1 l0_2 l1_0 l1_1 a1_2) else ((laws_eqIntS.f kj24 t335 t317).bind fun t359 => (if t359 = true then (laws_FnExactQueryWorld.j1 kj24 t317 t320 t335 (t338 != t320) a0_0 a0_1 l0_2 l1_0 l1_1 a1_2) else (laws_FnExactQueryWorld.j1 kj24 t317 t320 t335 true a0_0 a0_1 l0_2 l1_0 l1_1 a1_2)))))) else (some false)))) = some r := by rw [if_pos rfl] at H; exact H
       clear H
       have H := H1
       clear H1
       replace H := Option.bind_eq_some_iff.mp H
       obtain ⟨⟨t346, t349, t352⟩, A710, H⟩ := H
       replace H : ((laws_eqQuery.f kj24 t327 t330 t333 t346 t349 t352).bind fun t353 => (if t353 = true then ((laws_markWorld.f kj24 t321 t322 t323 1).bind fun bt354 => ((laws_markQuery.f kj24 t327 t330 t333 bt354.1).bind fun bt356 => (if bt356.1 < 0 then (laws_FnExactQueryWorld.j1 kj24 t317 t320 t335 true a0_0 a0_1 l0_2 l1_0 l1_1 a1_2) else ((laws_eqIntS.f kj24 t335 t317).bind fun t359 => (if t359 = true then (laws_FnExactQueryWorld.j1 kj24 t317 t320 t335 (t338 != t320) a0_0 a0_1 l0_2 l1_0 l1_1 a1_2) else (laws_FnExactQueryWorld.j1 kj24 t317 t320 t335 true a0_0 a0_1 l0_2 l1_0 l1_1 a1_2)))))) else (some false))) = some r := H
       have A71 := Aside0.mk A710
       clear A710
       replace H := Option.bind_eq_some_iff.mp H
       obtain ⟨t353, A720, H⟩ := H
       replace H : (if t353 = true then ((laws_markWorld.f kj24 t321 t322 t323 1).bind fun bt354 => ((laws_markQuery.f kj24 t327 t330 t333 bt354.1).bind fun bt356 => (if bt356.1 < 0 then (laws_FnExactQueryWorld.j1 kj24 t317 t320 t335 true a0_0 a0_1 l0_2 l1_0 l1_1 a1_2) else ((laws_eqIntS.f kj24 t335 t317).bind fun t359 => (if t359 = true then (laws_FnExactQueryWorld.j1 kj24 t317 t320 t335 (t338 != t320) a0_0 a0_1 l0_2 l1_0 l1_1 a1_2) else (laws_FnExactQueryWorld.j1 kj24 t317 t320 t335 true a0_0 a0_1 l0_2 l1_0 l1_1 a1_2)))))) else (some false)) = some r := H
       have A72 := Aside0.mk A720
       clear A720
       by_cases c73 : t353 = true
       ·subst c73
        have H1 : ((laws_markWorld.f kj24 t321 t322 t323 1).bind fun bt354 => ((laws_markQuery.f kj24 t327 t330 t333 bt354.1).bind fun bt356 => (if bt356.1 < 0 then (laws_FnExactQueryWorld.j1 kj24 t317 t320 t335 true a0_0 a0_1 l0_2 l1_0 l1_1 a1_2) else ((laws_eqIntS.f kj24 t335 t317).bind fun t359 => (if t359 = true then (laws_FnExactQueryWorld.j1 kj24 t317 t320 t335 (t338 != t320) a0_0 a0_1 l0_2 l1_0 l1_1 a1_2) else (laws_FnExactQueryWorld.j1 kj24 t317 t320 t335 true a0_0 a0_1 l0_2 l1_0 l1_1 a1_2)))))) = some r := by rw [if_pos rfl] at H; exact H
        clear H
        have H := H1
        clear H1
        replace H := Option.bind_eq_some_iff.mp H
        obtain ⟨⟨t354, t355⟩, A740, H⟩ := H
        replace H : ((laws_markQuery.f kj24 t327 t330 t333 t354).bind fun bt356 => (if bt356.1 < 0 then (laws_FnExactQueryWorld.j1 kj24 t317 t320 t335 true a0_0 a0_1 l0_2 l1_0 l1_1 a1_2) else ((laws_eqIntS.f kj24 t335 t317).bind fun t359 => (if t359 = true then (laws_FnExactQueryWorld.j1 kj24 t317 t320 t335 (t338 != t320) a0_0 a0_1 l0_2 l1_0 l1_1 a1_2) else (laws_FnExactQueryWorld.j1 kj24 t317 t320 t335 true a0_0 a0_1 l0_2 l1_0 l1_1 a1_2))))) = some r := H
        have A74 := Aside0.mk A740
        clear A740
        replace H := Option.bind_eq_some_iff.mp H
        obtain ⟨⟨t356, t357, t358⟩, A750, H⟩ := H
        replace H : (if t356 < 0 then (laws_FnExactQueryWorld.j1 kj24 t317 t320 t335 true a0_0 a0_1 l0_2 l1_0 l1_1 a1_2) else ((laws_eqIntS.f kj24 t335 t317).bind fun t359 => (if t359 = true then (laws_FnExactQueryWorld.j1 kj24 t317 t320 t335 (t338 != t320) a0_0 a0_1 l0_2 l1_0 l1_1 a1_2) else (laws_FnExactQueryWorld.j1 kj24 t317 t320 t335 true a0_0 a0_1 l0_2 l1_0 l1_1 a1_2)))) = some r := H
        have A75 := Aside0.mk A750
        clear A750
        have HC76 := Aside0.mk H
        clear H
        try go_wp2
        replace HO_6 := Aside0.mk (Kd.R_drew HO_6.out)
        replace HO_10 := Aside0.mk (Kd.R_drew HO_10.out)
        replace HO_327002 := Aside0.mk (Kd.S_drew HO_327002.out)
        replace HO_335000 := Aside0.mk (Kd.R_drew HO_335000.out)
        replace HO_335001 := Aside0.mk (Kd.R_drew HO_335001.out)
        replace BK301 := Aside0.mk (blk_drew BK301.out)
        replace BK302 := Aside0.mk (blk_drew BK302.out)
        replace BK326 := Aside0.mk (blk_drew BK326.out)
        replace BK334 := Aside0.mk (blk_drew BK334.out)
        replace HB := Aside0.mk (below_drew1 HB.out)
        refine start_ (n := 5) (S := fun w' => w'.cell? ⟨gb326, 0, none⟩ = some (.int .i64 t321) ∧ w'.cell? ⟨gb326, 1, none⟩ = some (.int .i64 t322) ∧ w'.cell? ⟨gb326, 2, none⟩ = some (.slice Ao46 t323.length co46) ∧ w'.cell? ⟨gb301, 0, none⟩ = some (.int .i64 a0_0) ∧ w'.cell? ⟨gb301, 1, none⟩ = some (.int .i64 a0_1) ∧ w'.cell? ⟨gb301, 2, none⟩ = some (.slice A0_2 l0_2.length c0_2)) (ds := []) #[false, false, false, false, false] (by kernel_rfl) rfl rfl ⟨cz BK326 0 _, cz BK326 1 _, cz BK326 2 _, cz BK301 0 _, cz BK301 1 _, cz BK301 2 _⟩ (fun hHeld => ?_)
        generalize wc.drew = w77 at HO_6 HO_10 HO_327002 HO_335000 HO_335001 BK301 BK302 BK326 BK334 HB hHeld ⊢
        refine take_ (i := 0) (N := some 54) (v := ?_) (a' := ?_) (bz 5 1) rfl rfl (by kernel_rfl) (fun _ _ _ h => h) (Or.inl ⟨by rfl, ?_⟩) hHeld ?_ ?_
        rotate_left
        ·rintro w' ⟨s0, s1, s2, s3, s4, s5⟩
         go_simp
         with_reducible rfl
        rotate_left
        ·simp only [Act.put, List.setIfInBounds_toArray, List.set_cons_zero, List.set_cons_succ, i64_w, i32_w]
         rfl
        refine take_ (i := 1) (N := some 55) (v := ?_) (a' := ?_) (bz 5 3) rfl rfl (by kernel_rfl) (fun _ _ _ h => h) (Or.inl ⟨by rfl, ?_⟩) hHeld ?_ ?_
        rotate_left
        ·rintro w' ⟨s0, s1, s2, s3, s4, s5⟩
         go_simp
         with_reducible rfl
        rotate_left
        ·simp only [Act.put, List.setIfInBounds_toArray, List.set_cons_zero, List.set_cons_succ, i64_w, i32_w]
         rfl
        refine one_ (i := 2) (N := some 56) (bz 5 7) rfl rfl (by kernel_rfl) (by decide) (fun K hK => ?_)
        refine goes_ Try.func22 (by kernel_rfl) rfl #[.agg #[.int .i64 a0_0, .int .i64 a0_1, .slice A0_2 l0_2.length c0_2]] (by rfl) rfl rfl aE ?_
        with_reducible refine (laws_toWorld.calls kj24 a0_0 a0_1 _ _ l0_2 t340 t341 t342 _ ?side1 ?side2 A68.out).mono ?_
        (case side1 => exact cU (Kd.C_below HR0_2.out HB.out))
        (case side2 => exact HC0_2.out)
        rintro e w78 ⟨v343, rfl, ho0, hb⟩
        refine ⟨_, rfl, ?_⟩
        replace HO_6 := Aside0.mk (Kd.R_below (rU HO_6.out) hb)
        replace HO_10 := Aside0.mk (Kd.R_below (rU HO_10.out) hb)
        replace HO_335000 := Aside0.mk (Kd.R_below (rU HO_335000.out) hb)
        replace HO_335001 := Aside0.mk (Kd.R_below (rU HO_335001.out) hb)
        have HO344 := Aside0.mk (Kd.S_lower (Kd.S_new' ho0 (Kd.S_lt (by (with_reducible repeat (first | apply Kd.S_alloc | apply Kd.S_drewN | apply Kd.S_drew)); exact HO_327002.out))) (below_size (lV4 GE301 GE302 GE326 GE334)))
        replace HO_327002 := Aside0.mk (Kd.S_elder' (by (with_reducible repeat (first | apply Kd.S_alloc | apply Kd.S_drewN | apply Kd.S_drew)); exact HO_327002.out) (Kd.S_base ho0) hb)
        replace BK301 := bB (bV BK301) hb
        replace BK302 := bB (bV BK302) hb
        replace BK326 := bB (bV BK326) hb
        replace BK334 := bB (bV BK334) hb
        replace HB := bH (lV4 GE301 GE302 GE326 GE334) hb
        (try clear hb)
        (try clear hb2)
        (try clear hk)
        (try clear hi)
        (try clear ho0)
        obtain ⟨Ao79, co79, eo79⟩ := Kd.S_slice HO344.out
        (first | subst eo79 | (injection eo79 with f1_ f2_ f3_; have f4_ := f1_.symm; have f5_ := f3_.symm; clear f1_ f2_ f3_; subst f4_; subst f5_))
        refine hK.out _ _ ⟨cz BK326 0 _, cz BK326 1 _, cz BK326 2 _, cz BK301 0 _, cz BK301 1 _, cz BK301 2 _⟩ (fun hHeld => ?_)
        clear hK K
        refine norm_ (a' := ?_) ?_ ?_
        rotate_left
        ·show Act.put _ (some 56) _ = _
         simp only [Act.put, List.setIfInBounds_toArray, List.set_cons_zero, List.set_cons_succ, i64_w, i32_w]
         rfl
        refine one_ (i := 3) (N := some 57) (bz 5 15) rfl rfl (by kernel_rfl) (by decide) (fun K hK => ?_)
        refine goes_ Try.func26 (by kernel_rfl) rfl #[.agg #[.int .i64 t321, .int .i64 t322, .slice Ao46 t323.length co46], .agg #[.int .i64 t340, .int .i64 t341, .slice Ao79 t342.length co79]] (by rfl) rfl rfl aE ?_
        with_reducible refine (laws_eqWorld.calls kj24 t321 t322 _ _ t323 t340 t341 _ _ t342 true _ ?side1 ?side2 ?side3 ?side4 A69.out).mono ?_
        (case side1 => exact cU (Kd.S_reads' HO_327002.out).2.2)
        (case side2 => exact (Kd.S_reads' HO_327002.out).2.1)
        (case side3 => exact cU (Kd.S_reads' HO344.out).2.2)
        (case side4 => exact (Kd.S_reads' HO344.out).2.1)
        rintro e w80 ⟨rfl, hb⟩
        refine ⟨_, rfl, ?_⟩
        replace HO_6 := Aside0.mk (Kd.R_below (rU HO_6.out) hb)
        replace HO_10 := Aside0.mk (Kd.R_below (rU HO_10.out) hb)
        replace HO_327002 := Aside0.mk (Kd.S_below (by (with_reducible repeat (first | apply Kd.S_alloc | apply Kd.S_drewN | apply Kd.S_drew)); exact HO_327002.out) hb)
        replace HO_335000 := Aside0.mk (Kd.R_below (rU HO_335000.out) hb)
        replace HO_335001 := Aside0.mk (Kd.R_below (rU HO_335001.out) hb)
        replace HO344 := Aside0.mk (Kd.S_below (by (with_reducible repeat (first | apply Kd.S_alloc | apply Kd.S_drewN | apply Kd.S_drew)); exact HO344.out) hb)
        replace BK301 := bB (bV BK301) hb
        replace BK302 := bB (bV BK302) hb
        replace BK326 := bB (bV BK326) hb
        replace BK334 := bB (bV BK334) hb
        replace HB := bH (lV4 GE301 GE302 GE326 GE334) hb
        (try clear hb)
        (try clear hb2)
        (try clear hk)
        (try clear hi)
        refine hK.out _ _ ⟨cz BK326 0 _, cz BK326 1 _, cz BK326 2 _, cz BK301 0 _, cz BK301 1 _, cz BK301 2 _⟩ (fun hHeld => ?_)
        clear hK K
        refine norm_ (a' := ?_) ?_ ?_
        rotate_left
        ·show Act.put _ (some 57) _ = _
         simp only [Act.put, List.setIfInBounds_toArray, List.set_cons_zero, List.set_cons_succ, i64_w, i32_w]
         rfl
        refine pure_ (i := 4) (N := some 58) (v := ?_) (a' := ?_) (bz 5 31) rfl rfl (by kernel_rfl) (fun _ _ _ h => h) (Or.inl ⟨by rfl, ?_⟩) ?_ ?_
        rotate_left
        ·intro w'
         go_simp
         with_reducible rfl
        rotate_left
        ·simp only [Act.put, List.setIfInBounds_toArray, List.set_cons_zero, List.set_cons_succ, i64_w, i32_w]
         rfl
        refine done_ (by kernel_rfl) ?_
        try go_wp2
        replace HO_6 := Aside0.mk (Kd.R_drew HO_6.out)
        replace HO_10 := Aside0.mk (Kd.R_drew HO_10.out)
        replace HO_327002 := Aside0.mk (Kd.S_drew HO_327002.out)
        replace HO_335000 := Aside0.mk (Kd.R_drew HO_335000.out)
        replace HO_335001 := Aside0.mk (Kd.R_drew HO_335001.out)
        replace HO344 := Aside0.mk (Kd.S_drew HO344.out)
        replace BK301 := Aside0.mk (blk_drew BK301.out)
        replace BK302 := Aside0.mk (blk_drew BK302.out)
        replace BK326 := Aside0.mk (blk_drew BK326.out)
        replace BK334 := Aside0.mk (blk_drew BK334.out)
        replace HB := Aside0.mk (below_drew1 HB.out)
        refine start_ (n := 5) (S := fun w' => w'.cell? ⟨gb334, 0, none⟩ = some (.slice Ao51 t327.length co51) ∧ w'.cell? ⟨gb334, 1, none⟩ = some (.slice Ao56 t330.length co56) ∧ w'.cell? ⟨gb334, 2, none⟩ = some (.int .i64 t333) ∧ w'.cell? ⟨gb302, 0, none⟩ = some (.slice A1_0 l1_0.length c1_0) ∧ w'.cell? ⟨gb302, 1, none⟩ = some (.slice A1_1 l1_1.length c1_1) ∧ w'.cell? ⟨gb302, 2, none⟩ = some (.int .i64 a1_2)) (ds := []) #[false, false, false, false, false] (by kernel_rfl) rfl rfl ⟨cz BK334 0 _, cz BK334 1 _, cz BK334 2 _, cz BK302 0 _, cz BK302 1 _, cz BK302 2 _⟩ (fun hHeld => ?_)
        generalize w80.drew = w81 at HO_6 HO_10 HO_327002 HO_335000 HO_335001 HO344 BK301 BK302 BK326 BK334 HB hHeld ⊢
        refine take_ (i := 0) (N := some 59) (v := ?_) (a' := ?_) (bz 5 1) rfl rfl (by kernel_rfl) (fun _ _ _ h => h) (Or.inl ⟨by rfl, ?_⟩) hHeld ?_ ?_
        rotate_left
        ·rintro w' ⟨s0, s1, s2, s3, s4, s5⟩
         go_simp
         with_reducible rfl
        rotate_left
        ·simp only [Act.put, List.setIfInBounds_toArray, List.set_cons_zero, List.set_cons_succ, i64_w, i32_w]
         rfl
        refine take_ (i := 1) (N := some 60) (v := ?_) (a' := ?_) (bz 5 3) rfl rfl (by kernel_rfl) (fun _ _ _ h => h) (Or.inl ⟨by rfl, ?_⟩) hHeld ?_ ?_
        rotate_left
        ·rintro w' ⟨s0, s1, s2, s3, s4, s5⟩
         go_simp
         with_reducible rfl
        rotate_left
        ·simp only [Act.put, List.setIfInBounds_toArray, List.set_cons_zero, List.set_cons_succ, i64_w, i32_w]
         rfl
        refine one_ (i := 2) (N := some 61) (bz 5 7) rfl rfl (by kernel_rfl) (by decide) (fun K hK => ?_)
        refine goes_ Try.func23 (by kernel_rfl) rfl #[.agg #[.slice A1_0 l1_0.length c1_0, .slice A1_1 l1_1.length c1_1, .int .i64 a1_2]] (by rfl) rfl rfl aE ?_
        with_reducible refine (laws_toQuery.calls kj24 _ _ l1_0 _ _ l1_1 a1_2 t346 t349 t352 _ ?side1 ?side2 ?side3 ?side4 A71.out).mono ?_
        (case side1 => exact cU (Kd.C_below HR1_0.out HB.out))
        (case side2 => exact HC1_0.out)
        (case side3 => exact cU (Kd.C_below HR1_1.out HB.out))
        (case side4 => exact HC1_1.out)
        rintro e w82 ⟨v347, v350, rfl, ho0, ho1, hb⟩
        refine ⟨_, rfl, ?_⟩
        replace HO_6 := Aside0.mk (Kd.R_below (rU HO_6.out) hb)
        replace HO_10 := Aside0.mk (Kd.R_below (rU HO_10.out) hb)
        replace HO_327002 := Aside0.mk (Kd.S_below (by (with_reducible repeat (first | apply Kd.S_alloc | apply Kd.S_drewN | apply Kd.S_drew)); exact HO_327002.out) hb)
        replace HO344 := Aside0.mk (Kd.S_below (by (with_reducible repeat (first | apply Kd.S_alloc | apply Kd.S_drewN | apply Kd.S_drew)); exact HO344.out) hb)
        have HO348 := Aside0.mk (Kd.R_lower (Kd.R_new' (Kd.R_new' ho0 (Kd.R_lt (rU HO_335000.out))) (Kd.R_lt (rU HO_335001.out))) (below_size (lV4 GE301 GE302 GE326 GE334)))
        have HO351 := Aside0.mk (Kd.R_lower (Kd.R_new' (Kd.R_new' ho1 (Kd.R_lt (rU HO_335000.out))) (Kd.R_lt (rU HO_335001.out))) (below_size (lV4 GE301 GE302 GE326 GE334)))
        replace HO_335000 := Aside0.mk (Kd.R_mono (Kd.R_told (Kd.R_told (Kd.R_old (rU HO_335000.out) hb) (Kd.R_base ho0)) (Kd.R_base ho1)) (fun _ h_ => h_.1))
        replace HO_335001 := Aside0.mk (Kd.R_mono (Kd.R_told (Kd.R_told (Kd.R_old (rU HO_335001.out) hb) (Kd.R_base ho0)) (Kd.R_base ho1)) (fun _ h_ => h_.1))
        replace BK301 := bB (bV BK301) hb
        replace BK302 := bB (bV BK302) hb
        replace BK326 := bB (bV BK326) hb
        replace BK334 := bB (bV BK334) hb
        replace HB := bH (lV4 GE301 GE302 GE326 GE334) hb
        (try clear hb)
        (try clear hb2)
        (try clear hk)
        (try clear hi)
        (try clear ho0)
        (try clear ho1)
        obtain ⟨Ao83, co83, eo83⟩ := Kd.R_slice HO348.out
        (first | subst eo83 | (injection eo83 with f1_ f2_ f3_; have f4_ := f1_.symm; have f5_ := f3_.symm; clear f1_ f2_ f3_; subst f4_; subst f5_))
        obtain ⟨Ao84, co84, eo84⟩ := Kd.R_slice HO351.out
        (first | subst eo84 | (injection eo84 with f1_ f2_ f3_; have f4_ := f1_.symm; have f5_ := f3_.symm; clear f1_ f2_ f3_; subst f4_; subst f5_))
        refine hK.out _ _ ⟨cz BK334 0 _, cz BK334 1 _, cz BK334 2 _, cz BK302 0 _, cz BK302 1 _, cz BK302 2 _⟩ (fun hHeld => ?_)
        clear hK K
        refine norm_ (a' := ?_) ?_ ?_
        rotate_left
        ·show Act.put _ (some 61) _ = _
         simp only [Act.put, List.setIfInBounds_toArray, List.set_cons_zero, List.set_cons_succ, i64_w, i32_w]
         rfl
        refine one_ (i := 3) (N := some 62) (bz 5 15) rfl rfl (by kernel_rfl) (by decide) (fun K hK => ?_)
        refine goes_ Try.func27 (by kernel_rfl) rfl #[.agg #[.slice Ao51 t327.length co51, .slice Ao56 t330.length co56, .int .i64 t333], .agg #[.slice Ao83 t346.length co83, .slice Ao84 t349.length co84, .int .i64 t352]] (by rfl) rfl rfl aE ?_
        with_reducible refine (laws_eqQuery.calls kj24 _ _ t327 _ _ t330 t333 _ _ t346 _ _ t349 t352 true _ ?side1 ?side2 ?side3 ?side4 ?side5 ?side6 ?side7 ?side8 A72.out).mono ?_
        (case side1 => exact cU (Kd.R_reads' HO_335000.out).2.2)
        (case side2 => exact (Kd.R_reads' HO_335000.out).2.1)
        (case side3 => exact cU (Kd.R_reads' HO_335001.out).2.2)
        (case side4 => exact (Kd.R_reads' HO_335001.out).2.1)
        (case side5 => exact cU (Kd.R_reads' HO348.out).2.2)
        (case side6 => exact (Kd.R_reads' HO348.out).2.1)
        (case side7 => exact cU (Kd.R_reads' HO351.out).2.2)
        (case side8 => exact (Kd.R_reads' HO351.out).2.1)
        rintro e w85 ⟨rfl, hb⟩
        refine ⟨_, rfl, ?_⟩
        replace HO_6 := Aside0.mk (Kd.R_below (rU HO_6.out) hb)
        replace HO_10 := Aside0.mk (Kd.R_below (rU HO_10.out) hb)
        replace HO_327002 := Aside0.mk (Kd.S_below (by (with_reducible repeat (first | apply Kd.S_alloc | apply Kd.S_drewN | apply Kd.S_drew)); exact HO_327002.out) hb)
        replace HO_335000 := Aside0.mk (Kd.R_below (rU HO_335000.out) hb)
        replace HO_335001 := Aside0.mk (Kd.R_below (rU HO_335001.out) hb)
        replace HO344 := Aside0.mk (Kd.S_below (by (with_reducible repeat (first | apply Kd.S_alloc | apply Kd.S_drewN | apply Kd.S_drew)); exact HO344.out) hb)
        replace HO348 := Aside0.mk (Kd.R_below (rU HO348.out) hb)
        replace HO351 := Aside0.mk (Kd.R_below (rU HO351.out) hb)
        replace BK301 := bB (bV BK301) hb
        replace BK302 := bB (bV BK302) hb
        replace BK326 := bB (bV BK326) hb
        replace BK334 := bB (bV BK334) hb
        replace HB := bH (lV4 GE301 GE302 GE326 GE334) hb
        (try clear hb)
        (try clear hb2)
        (try clear hk)
        (try clear hi)
        refine hK.out _ _ ⟨cz BK334 0 _, cz BK334 1 _, cz BK334 2 _, cz BK302 0 _, cz BK302 1 _, cz BK302 2 _⟩ (fun hHeld => ?_)
        clear hK K
        refine norm_ (a' := ?_) ?_ ?_
        rotate_left
        ·show Act.put _ (some 62) _ = _
         simp only [Act.put, List.setIfInBounds_toArray, List.set_cons_zero, List.set_cons_succ, i64_w, i32_w]
         rfl
        refine pure_ (i := 4) (N := some 63) (v := ?_) (a' := ?_) (bz 5 31) rfl rfl (by kernel_rfl) (fun _ _ _ h => h) (Or.inl ⟨by rfl, ?_⟩) ?_ ?_
        rotate_left
        ·intro w'
         go_simp
         with_reducible rfl
        rotate_left
        ·simp only [Act.put, List.setIfInBounds_toArray, List.set_cons_zero, List.set_cons_succ, i64_w, i32_w]
         rfl
        refine done_ (by kernel_rfl) ?_
        have hnb86 := NB326_301.out
        have hnc86 := NB301_326.out
        have hnb87 := NB326_302.out
        have hnc87 := NB302_326.out
        have hnb88 := NB326_334.out
        have hnc88 := NB334_326.out
        have hcz89_0 := cz BK326 0 (.int .i64 t321)
        have hcz89_1 := cz BK326 1 (.int .i64 t322)
        have hcz89_2 := cz BK326 2 (.slice Ao46 t323.length co46)
        have hfz89_0 := fz BK326 0
        have hfz89_1 := fz BK326 1
        have hfz89_2 := fz BK326 2
        obtain ⟨PS90, hPS90, HPS90⟩ : ∃ PS_ : Nat → Prop, (∀ k_, PS_ k_ → ((True ∧ some k_ ≠ (.slice Ao79 t342.length co79 : Value).ownBlock)) ∧ w.heap.size ≤ k_ ∧ k_ < w85.heap.size ∧ ∃ q_, q_ ∈ 77 :: (k77).E ∧ ∃ cells_, w85.heap[k_]? = some (.cells cells_ q_ (0, 0))) ∧ Kd.S k77 77 w85 w.heap.size PS_ (.slice Ao46 t323.length co46) t323 := ⟨_, fun _ h_ => h_, Kd.S_bound HO_327002.out⟩
        go_upto_region 21 with (first | ((with_reducible refine gate_callee (f := 28) rfl ?_); refine goesL_ (some 66) rfl rfl Try.func28 (by kernel_rfl) rfl #[.agg #[.int .i64 t321, .int .i64 t322, .slice Ao46 t323.length co46], .int .i64 1] rfl aE ?_; (with_reducible refine (laws_markWorld.calls kj24 t321 t322 PS90 (.slice Ao46 t323.length co46) t323 1 t354 t355 w _ ?side1 ?side2 A74.out).mono ?_); (case side1 => repeat (first | (with_reducible first | exact HB.out | apply below_alloc | apply pw_below_drewN | apply below_drew1 | refine below_set ?_ GE301.out | refine below_set ?_ GE302.out | refine below_set ?_ GE326.out | refine below_set ?_ GE334.out) | exact HB.out)); (case side2 => exact HPS90); rintro e w91 ⟨rfl, hy0, hb, hkp⟩; refine ⟨_, rfl, ?_⟩; replace HO_6 := Aside0.mk (Kd.R_mono (ok' := fun k_ => some k_ ≠ (v336 : Value).ownBlock) (Kd.R_keptB ((Kd.R_apartP HO_6.out (fun k_ h_ => (hPS90 k_ h_).2.2.2) (by decide))) hkp (fun k_ hk_ hs_ => (hk_.2) hs_)) (fun k_ hk_ => hk_.1.1)); replace HO_10 := Aside0.mk (Kd.R_mono (ok' := fun k_ => some k_ ≠ (v318 : Value).ownBlock) (Kd.R_keptB ((Kd.R_apartP HO_10.out (fun k_ h_ => (hPS90 k_ h_).2.2.2) (by decide))) hkp (fun k_ hk_ hs_ => (hk_.2) hs_)) (fun k_ hk_ => hk_.1.1)); replace HO_327002 := Aside0.mk (Kd.S_mono (ok' := fun k_ => True) hy0 (fun k_ hk_ => Or.elim hk_ (fun hs_ => trivial) (fun hn_ => trivial))); replace HO_335000 := Aside0.mk (Kd.R_mono (ok' := fun k_ => some k_ ≠ (.slice Ao56 t330.length co56 : Value).ownBlock ∧ some k_ ≠ (.slice Ao83 t346.length co83 : Value).ownBlock ∧ some k_ ≠ (.slice Ao84 t349.length co84 : Value).ownBlock) (Kd.R_keptB ((Kd.R_apartP HO_335000.out (fun k_ h_ => (hPS90 k_ h_).2.2.2) (by decide))) hkp (fun k_ hk_ hs_ => (hk_.2) hs_)) (fun k_ hk_ => ⟨hk_.1.1.1.1, hk_.1.1.1.2, hk_.1.1.2⟩)); replace HO_335001 := Aside0.mk (Kd.R_mono (ok' := fun k_ => some k_ ≠ (.slice Ao51 t327.length co51 : Value).ownBlock ∧ some k_ ≠ (.slice Ao83 t346.length co83 : Value).ownBlock ∧ some k_ ≠ (.slice Ao84 t349.length co84 : Value).ownBlock) (Kd.R_keptB ((Kd.R_apartP HO_335001.out (fun k_ h_ => (hPS90 k_ h_).2.2.2) (by decide))) hkp (fun k_ hk_ hs_ => (hk_.2) hs_)) (fun k_ hk_ => ⟨hk_.1.1.1.1, hk_.1.1.1.2, hk_.1.1.2⟩)); replace BK301 := Aside0.mk (blk_kept (bV BK301) hkp (fun hs_ => (fun e_ => blk_notP BK301.out (fun k_ h_ => (hPS90 k_ h_).2.2.2) (by decide) e_) hs_)); replace BK302 := Aside0.mk (blk_kept (bV BK302) hkp (fun hs_ => (fun e_ => blk_notP BK302.out (fun k_ h_ => (hPS90 k_ h_).2.2.2) (by decide) e_) hs_)); replace BK326 := Aside0.mk (blk_kept (bV BK326) hkp (fun hs_ => (fun e_ => blk_notP BK326.out (fun k_ h_ => (hPS90 k_ h_).2.2.2) (by decide) e_) hs_)); replace BK334 := Aside0.mk (blk_kept (bV BK334) hkp (fun hs_ => (fun e_ => blk_notP BK334.out (fun k_ h_ => (hPS90 k_ h_).2.2.2) (by decide) e_) hs_)); replace HO348 := Aside0.mk (Kd.R_mono (ok' := fun k_ => some k_ ≠ (.slice Ao51 t327.length co51 : Value).ownBlock ∧ some k_ ≠ (.slice Ao56 t330.length co56 : Value).ownBlock ∧ some k_ ≠ (.slice Ao84 t349.length co84 : Value).ownBlock) (Kd.R_keptB ((Kd.R_apartP HO348.out (fun k_ h_ => (hPS90 k_ h_).2.2.2) (by decide))) hkp (fun k_ hk_ hs_ => (hk_.2) hs_)) (fun k_ hk_ => ⟨hk_.1.1.1.2, hk_.1.1.2, hk_.1.1.1.1⟩)); replace HO351 := Aside0.mk (Kd.R_mono (ok' := fun k_ => some k_ ≠ (.slice Ao51 t327.length co51 : Value).ownBlock ∧ some k_ ≠ (.slice Ao56 t330.length co56 : Value).ownBlock ∧ some k_ ≠ (.slice Ao83 t346.length co83 : Value).ownBlock) (Kd.R_keptB ((Kd.R_apartP HO351.out (fun k_ h_ => (hPS90 k_ h_).2.2.2) (by decide))) hkp (fun k_ hk_ hs_ => (hk_.2) hs_)) (fun k_ hk_ => ⟨hk_.1.1.1.2, hk_.1.1.2, hk_.1.1.1.1⟩)); replace HB := Aside0.mk hb; clear HO344; (try clear hb); (try clear hkp); (try clear hg_); (try clear hp_); (try clear hy0); have hnb92 := NB334_301.out; have hnc92 := NB301_334.out; have hnb93 := NB334_302.out; have hnc93 := NB302_334.out; have hcz94_0 := cz BK334 0 (.slice Ao51 t327.length co51); have hcz94_1 := cz BK334 1 (.slice Ao56 t330.length co56); have hcz94_2 := cz BK334 2 (.int .i64 t333); have hfz94_0 := fz BK334 0; have hfz94_1 := fz BK334 1; have hfz94_2 := fz BK334 2) | ((with_reducible refine gate_callee (f := 29) rfl ?_); refine goesL_ (some 69) rfl rfl Try.func29 (by kernel_rfl) rfl #[.agg #[.slice Ao51 t327.length co51, .slice Ao56 t330.length co56, .int .i64 t333], .int .i64 t354] rfl aE ?_; (with_reducible refine (laws_markQuery.calls kj24 (fun k_ => some k_ = (.slice Ao51 t327.length co51 : Value).ownBlock) (.slice Ao51 t327.length co51) t327 (fun k_ => some k_ = (.slice Ao56 t330.length co56 : Value).ownBlock) (.slice Ao56 t330.length co56) t330 t333 t354 t356 t357 t358 w _ ?side1 ?side2 ?side3 ?side4 ?side5 A75.out).mono ?_); (case side1 => repeat (first | (with_reducible first | exact HB.out | apply below_alloc | apply pw_below_drewN | apply below_drew1 | refine below_set ?_ GE301.out | refine below_set ?_ GE302.out | refine below_set ?_ GE326.out | refine below_set ?_ GE334.out) | exact HB.out)); (case side2 => exact Kd.R_tight rfl HO_335000.out); (case side3 => exact fun k_ e_ => (HO_335000.out.1 k_ e_.symm).1); (case side4 => exact Kd.R_tight rfl HO_335001.out); (case side5 => exact fun k_ e_ => (HO_335001.out.1 k_ e_.symm).1); rintro e w95 ⟨rfl, hy0, hy1, hb, hkp⟩; refine ⟨_, rfl, ?_⟩; replace HO_6 := Aside0.mk (Kd.R_mono (ok' := fun k_ => some k_ ≠ (v336 : Value).ownBlock) (Kd.R_keptB ((Kd.R_apart' (Kd.R_apart' HO_6.out (Kd.R_typed HO_335000.out) (by decide)) (Kd.R_typed HO_335001.out) (by decide))) hkp (fun k_ hk_ hs_ => Or.elim hs_ (fun e_ => (hk_.1.2) e_) (fun e_ => (hk_.2) e_))) (fun k_ hk_ => hk_.1.1.1)); replace HO_10 := Aside0.mk (Kd.R_mono (ok' := fun k_ => some k_ ≠ (v318 : Value).ownBlock) (Kd.R_keptB ((Kd.R_apart' (Kd.R_apart' HO_10.out (Kd.R_typed HO_335000.out) (by decide)) (Kd.R_typed HO_335001.out) (by decide))) hkp (fun k_ hk_ hs_ => Or.elim hs_ (fun e_ => (hk_.1.2) e_) (fun e_ => (hk_.2) e_))) (fun k_ hk_ => hk_.1.1.1)); replace HO_327002 := Aside0.mk (Kd.S_mono (ok' := fun k_ => True) (Kd.S_keptB ((Kd.S_apart' (Kd.S_apart' HO_327002.out (Kd.R_typed HO_335000.out) (by decide)) (Kd.R_typed HO_335001.out) (by decide))) hkp (fun k_ hk_ hs_ => Or.elim hs_ (fun e_ => (hk_.1.2) e_) (fun e_ => (hk_.2) e_))) (fun k_ hk_ => trivial)); replace BK301 := Aside0.mk (blk_kept (bV BK301) hkp (fun hs_ => Or.elim hs_ (fun e_ => (fun e_ => (Kd.R_ne HO_335000.out BK301.out (by decide)) e_) e_) (fun e_ => (fun e_ => (Kd.R_ne HO_335001.out BK301.out (by decide)) e_) e_))); replace BK302 := Aside0.mk (blk_kept (bV BK302) hkp (fun hs_ => Or.elim hs_ (fun e_ => (fun e_ => (Kd.R_ne HO_335000.out BK302.out (by decide)) e_) e_) (fun e_ => (fun e_ => (Kd.R_ne HO_335001.out BK302.out (by decide)) e_) e_))); replace BK326 := Aside0.mk (blk_kept (bV BK326) hkp (fun hs_ => Or.elim hs_ (fun e_ => (fun e_ => (Kd.R_ne HO_335000.out BK326.out (by decide)) e_) e_) (fun e_ => (fun e_ => (Kd.R_ne HO_335001.out BK326.out (by decide)) e_) e_))); replace BK334 := Aside0.mk (blk_kept (bV BK334) hkp (fun hs_ => Or.elim hs_ (fun e_ => (fun e_ => (Kd.R_ne HO_335000.out BK334.out (by decide)) e_) e_) (fun e_ => (fun e_ => (Kd.R_ne HO_335001.out BK334.out (by decide)) e_) e_))); replace HO_335000 := Aside0.mk (Kd.R_reok rfl hy0 (fun k_ e_ => HO_335000.out.1 k_ e_)); replace HO_335001 := Aside0.mk (Kd.R_reok rfl hy1 (fun k_ e_ => HO_335001.out.1 k_ e_)); replace HO348 := Aside0.mk (Kd.R_mono (ok' := fun k_ => some k_ ≠ (.slice Ao51 t327.length co51 : Value).ownBlock ∧ some k_ ≠ (.slice Ao56 t330.length co56 : Value).ownBlock ∧ some k_ ≠ (.slice Ao84 t349.length co84 : Value).ownBlock) (Kd.R_keptB (HO348.out) hkp (fun k_ hk_ hs_ => Or.elim hs_ (fun e_ => (hk_.1) e_) (fun e_ => (hk_.2.1) e_))) (fun k_ hk_ => ⟨hk_.1.1, hk_.1.2.1, hk_.1.2.2⟩)); replace HO351 := Aside0.mk (Kd.R_mono (ok' := fun k_ => some k_ ≠ (.slice Ao51 t327.length co51 : Value).ownBlock ∧ some k_ ≠ (.slice Ao56 t330.length co56 : Value).ownBlock ∧ some k_ ≠ (.slice Ao83 t346.length co83 : Value).ownBlock) (Kd.R_keptB (HO351.out) hkp (fun k_ hk_ hs_ => Or.elim hs_ (fun e_ => (hk_.1) e_) (fun e_ => (hk_.2.1) e_))) (fun k_ hk_ => ⟨hk_.1.1, hk_.1.2.1, hk_.1.2.2⟩)); replace HB := Aside0.mk hb; (try clear hb); (try clear hkp); (try clear hg_); (try clear hp_); (try clear hy0); (try clear hy1)))
        (try simp only [Act.put, List.setIfInBounds_toArray, List.set_cons_zero, List.set_cons_succ])
        go_cut [82] (fun v82 wc => ∃ (kq : Nat) (x82_75 : Bool), v82 = .bool x82_75 ∧ Aside0 (laws_FnExactQueryWorld.j1 kq t317 t320 t335 x82_75 a0_0 a0_1 l0_2 l1_0 l1_1 a1_2 = some r) ∧ Aside0 (kq ≤ kj24) ∧ Aside0 (Kd.R (Kd.int .i64) 3 wc w.heap.size (fun k_ => some k_ ≠ (v336 : Value).ownBlock) v318 t317) ∧ Aside0 (Kd.R (Kd.int .i64) 3 wc w.heap.size (fun k_ => some k_ ≠ (v318 : Value).ownBlock) v336 t335) ∧ Aside0 (Kd.S k77 77 wc w.heap.size (fun _ => True) (.slice Ao46 t323.length co46) t355) ∧ Aside0 (Kd.R Kd.string 9 wc w.heap.size (fun k_ => some k_ ≠ ((.slice Ao56 t330.length co56) : Value).ownBlock) (.slice Ao51 t327.length co51) t357) ∧ Aside0 (Kd.R Kd.string 9 wc w.heap.size (fun k_ => some k_ ≠ ((.slice Ao51 t327.length co51) : Value).ownBlock) (.slice Ao56 t330.length co56) t358) ∧ Aside0 (wc.heap[gb301]? = some (.cells #[.int .i64 a0_0, .int .i64 a0_1, (.slice A0_2 l0_2.length c0_2)] 39 (0, 0))) ∧ Aside0 (wc.heap[gb302]? = some (.cells #[(.slice A1_0 l1_0.length c1_0), (.slice A1_1 l1_1.length c1_1), .int .i64 a1_2] 42 (0, 0))) ∧ Aside0 (wc.heap[gb326]? = some (.cells #[.int .i64 t321, .int .i64 t322, (.slice Ao46 t323.length co46)] 50 (0, 0))) ∧ Aside0 (wc.heap[gb334]? = some (.cells #[(.slice Ao51 t327.length co51), (.slice Ao56 t330.length co56), .int .i64 t333] 52 (0, 0))) ∧ Aside0 (Below w.heap.size w wc))
        case first =>
         have H := HC76.out
         clear HC76
         by_cases c96 : t356 < 0
         ·rw [if_pos c96] at H
          have c96b0 : decide (t356 < 0) = true := decide_eq_true c96
          clear c96
          (first | rw [c96b0] | (simp only [i64_w, i32_w]; rw [c96b0]) | (rw [c96b2]; simp only [Bool.not_false, Bool.not_true]) | skip)
          have H' := Aside0.mk H
          clear H
          go_wp2
          go_meet
          case rel => exact ⟨_, (true), tE, H', ⟨by have := HJ24.out; first | omega | exact Nat.le_refl _⟩, ⟨by (with_reducible repeat (first | apply Kd.R_alloc | apply Kd.R_drewN | apply Kd.R_drew)); exact HO_6.out⟩, ⟨by (with_reducible repeat (first | apply Kd.R_alloc | apply Kd.R_drewN | apply Kd.R_drew)); exact HO_10.out⟩, ⟨by (with_reducible repeat (first | apply Kd.S_alloc | apply Kd.S_drewN | apply Kd.S_drew)); exact HO_327002.out⟩, ⟨by (with_reducible repeat (first | apply Kd.R_alloc | apply Kd.R_drewN | apply Kd.R_drew)); exact Kd.R_mono HO_335000.out (fun _ hk => hk.1)⟩, ⟨by (with_reducible repeat (first | apply Kd.R_alloc | apply Kd.R_drewN | apply Kd.R_drew)); exact Kd.R_mono HO_335001.out (fun _ hk => hk.1)⟩, ⟨by refine bU ?_; exact BK301.out⟩, ⟨by refine bU ?_; exact BK302.out⟩, ⟨by refine bU ?_; exact BK326.out⟩, ⟨by refine bU ?_; exact BK334.out⟩, ⟨by repeat (first | (with_reducible first | exact HB.out | apply below_alloc | apply pw_below_drewN | apply below_drew1 | refine below_set ?_ GE301.out | refine below_set ?_ GE302.out | refine below_set ?_ GE326.out | refine below_set ?_ GE334.out) | exact HB.out)⟩⟩
         ·rw [if_neg c96] at H
          have c96b0 : decide (t356 < 0) = false := decide_eq_false c96
          clear c96
          (first | rw [c96b0] | (simp only [i64_w, i32_w]; rw [c96b0]) | (rw [c96b2]; simp only [Bool.not_false, Bool.not_true]) | skip)
          replace H := Option.bind_eq_some_iff.mp H
          obtain ⟨t359, A970, H⟩ := H
          replace H : (if t359 = true then (laws_FnExactQueryWorld.j1 kj24 t317 t320 t335 (t338 != t320) a0_0 a0_1 l0_2 l1_0 l1_1 a1_2) else (laws_FnExactQueryWorld.j1 kj24 t317 t320 t335 true a0_0 a0_1 l0_2 l1_0 l1_1 a1_2)) = some r := H
          have A97 := Aside0.mk A970
          clear A970
          by_cases c98 : t359 = true
          ·subst c98
           have H1 : (laws_FnExactQueryWorld.j1 kj24 t317 t320 t335 (t338 != t320) a0_0 a0_1 l0_2 l1_0 l1_1 a1_2) = some r := by rw [if_pos rfl] at H; exact H
           clear H
           have H := H1
           clear H1
           have H' := Aside0.mk H
           clear H
           obtain ⟨Ao99, co99, eo99⟩ := Kd.R_slice HO_10.out
           subst eo99
           obtain ⟨Ao100, co100, eo100⟩ := Kd.R_slice HO_6.out
           subst eo100
           go_wp2_with (first | (go_at_call 25; (with_reducible refine (laws_eqIntS.calls kj24 _ _ t335 _ _ t317 true _ ?side1 ?side2 ?side3 ?side4 A97.out).mono ?_); (case side1 => exact cU (Kd.R_reads' HO_10.out).2.2); (case side2 => exact (Kd.R_reads' HO_10.out).2.1); (case side3 => exact cU (Kd.R_reads' HO_6.out).2.2); (case side4 => exact (Kd.R_reads' HO_6.out).2.1); rintro e w' ⟨rfl, ⟨nd, rfl⟩⟩))
           go_meet
           case rel => exact ⟨_, ((t338 != t320)), tE, H', ⟨by have := HJ24.out; first | omega | exact Nat.le_refl _⟩, ⟨by (with_reducible repeat (first | apply Kd.R_alloc | apply Kd.R_drewN | apply Kd.R_drew)); exact HO_6.out⟩, ⟨by (with_reducible repeat (first | apply Kd.R_alloc | apply Kd.R_drewN | apply Kd.R_drew)); exact HO_10.out⟩, ⟨by (with_reducible repeat (first | apply Kd.S_alloc | apply Kd.S_drewN | apply Kd.S_drew)); exact HO_327002.out⟩, ⟨by (with_reducible repeat (first | apply Kd.R_alloc | apply Kd.R_drewN | apply Kd.R_drew)); exact Kd.R_mono HO_335000.out (fun _ hk => hk.1)⟩, ⟨by (with_reducible repeat (first | apply Kd.R_alloc | apply Kd.R_drewN | apply Kd.R_drew)); exact Kd.R_mono HO_335001.out (fun _ hk => hk.1)⟩, ⟨by refine bU ?_; exact BK301.out⟩, ⟨by refine bU ?_; exact BK302.out⟩, ⟨by refine bU ?_; exact BK326.out⟩, ⟨by refine bU ?_; exact BK334.out⟩, ⟨by repeat (first | (with_reducible first | exact HB.out | apply below_alloc | apply pw_below_drewN | apply below_drew1 | refine below_set ?_ GE301.out | refine below_set ?_ GE302.out | refine below_set ?_ GE326.out | refine below_set ?_ GE334.out) | exact HB.out)⟩⟩
          ·replace c98 := Bool.eq_false_iff.mpr c98
           subst c98
           have H1 : (laws_FnExactQueryWorld.j1 kj24 t317 t320 t335 true a0_0 a0_1 l0_2 l1_0 l1_1 a1_2) = some r := by rw [if_neg (show ¬ (false = true) by decide)] at H; exact H
           clear H
           have H := H1
           clear H1
           have H' := Aside0.mk H
           clear H
           obtain ⟨Ao101, co101, eo101⟩ := Kd.R_slice HO_10.out
           subst eo101
           obtain ⟨Ao102, co102, eo102⟩ := Kd.R_slice HO_6.out
           subst eo102
           go_wp2_with (first | (go_at_call 25; (with_reducible refine (laws_eqIntS.calls kj24 _ _ t335 _ _ t317 false _ ?side1 ?side2 ?side3 ?side4 A97.out).mono ?_); (case side1 => exact cU (Kd.R_reads' HO_10.out).2.2); (case side2 => exact (Kd.R_reads' HO_10.out).2.1); (case side3 => exact cU (Kd.R_reads' HO_6.out).2.2); (case side4 => exact (Kd.R_reads' HO_6.out).2.1); rintro e w' ⟨rfl, ⟨nd, rfl⟩⟩))
           go_meet
           case rel => exact ⟨_, (true), tE, H', ⟨by have := HJ24.out; first | omega | exact Nat.le_refl _⟩, ⟨by (with_reducible repeat (first | apply Kd.R_alloc | apply Kd.R_drewN | apply Kd.R_drew)); exact HO_6.out⟩, ⟨by (with_reducible repeat (first | apply Kd.R_alloc | apply Kd.R_drewN | apply Kd.R_drew)); exact HO_10.out⟩, ⟨by (with_reducible repeat (first | apply Kd.S_alloc | apply Kd.S_drewN | apply Kd.S_drew)); exact HO_327002.out⟩, ⟨by (with_reducible repeat (first | apply Kd.R_alloc | apply Kd.R_drewN | apply Kd.R_drew)); exact Kd.R_mono HO_335000.out (fun _ hk => hk.1)⟩, ⟨by (with_reducible repeat (first | apply Kd.R_alloc | apply Kd.R_drewN | apply Kd.R_drew)); exact Kd.R_mono HO_335001.out (fun _ hk => hk.1)⟩, ⟨by refine bU ?_; exact BK301.out⟩, ⟨by refine bU ?_; exact BK302.out⟩, ⟨by refine bU ?_; exact BK326.out⟩, ⟨by refine bU ?_; exact BK334.out⟩, ⟨by repeat (first | (with_reducible first | exact HB.out | apply below_alloc | apply pw_below_drewN | apply below_drew1 | refine below_set ?_ GE301.out | refine below_set ?_ GE302.out | refine below_set ?_ GE326.out | refine below_set ?_ GE334.out) | exact HB.out)⟩⟩
        case rest =>
         clear HC76
         try clear c1
         try clear q1
         try clear c2
         try clear p2
         try clear q2
         try clear hf2
         try clear c4
         try clear c4b0
         try clear c5
         try clear c6
         try clear c7
         try clear c8
         try clear c9
         try clear c11
         try clear c11b0
         try clear c14
         try clear c19
         try clear c20
         try clear c21
         try clear c22
         try clear c23
         try clear c24
         try clear c25
         try clear c26
         try clear c27
         try clear c28
         try clear c29
         try clear c43
         try clear c44
         try clear c52
         try clear c53
         try clear c54
         try clear c62
         try clear c67
         try clear c70
         try clear c73
         try clear c86
         try clear c87
         try clear c88
         try clear c92
         try clear c93
         try clear c96
         try clear c96b0
         try clear c96b2
         try clear c98
         try clear hcz15_0
         try clear hcz15_1
         try clear hcz15_2
         try clear hcz17_0
         try clear hcz17_1
         try clear hcz17_2
         try clear hcz29_0
         try clear hcz29_1
         try clear hcz29_2
         try clear hcz31_0
         try clear hcz31_1
         try clear hcz31_2
         try clear hcz40_0
         try clear hcz40_1
         try clear hcz40_2
         try clear hcz45_0
         try clear hcz45_1
         try clear hcz45_2
         try clear hcz48_0
         try clear hcz48_1
         try clear hcz48_2
         try clear hcz55_0
         try clear hcz55_1
         try clear hcz55_2
         try clear hcz58_0
         try clear hcz58_1
         try clear hcz58_2
         try clear hcz59_0
         try clear hcz59_1
         try clear hcz59_2
         try clear hcz89_0
         try clear hcz89_1
         try clear hcz89_2
         try clear hcz8_0
         try clear hcz8_1
         try clear hcz8_2
         try clear hcz94_0
         try clear hcz94_1
         try clear hcz94_2
         try clear hfz15_0
         try clear hfz15_1
         try clear hfz15_2
         try clear hfz17_0
         try clear hfz17_1
         try clear hfz17_2
         try clear hfz29_0
         try clear hfz29_1
         try clear hfz29_2
         try clear hfz31_0
         try clear hfz31_1
         try clear hfz31_2
         try clear hfz40_0
         try clear hfz40_1
         try clear hfz40_2
         try clear hfz45_0
         try clear hfz45_1
         try clear hfz45_2
         try clear hfz48_0
         try clear hfz48_1
         try clear hfz48_2
         try clear hfz55_0
         try clear hfz55_1
         try clear hfz55_2
         try clear hfz58_0
         try clear hfz58_1
         try clear hfz58_2
         try clear hfz59_0
         try clear hfz59_1
         try clear hfz59_2
         try clear hfz89_0
         try clear hfz89_1
         try clear hfz89_2
         try clear hfz8_0
         try clear hfz8_1
         try clear hfz8_2
         try clear hfz94_0
         try clear hfz94_1
         try clear hfz94_2
         try clear p2
         try clear q1
         try clear q2
         obtain ⟨kq, x82_75, rfl, HA, HJ75, HO_6, HO_10, HO_327002, HO_335000, HO_335001, BK301, BK302, BK326, BK334, HB⟩ := hcut
         have hl327002_75 := (Kd.S_reads' HO_327002.out).1
         rw [hl327002_75] at HO_327002
         (try simp only [hl327002_75])
         (try simp only [hl327002_75] at BK301)
         (try simp only [hl327002_75] at BK302)
         (try simp only [hl327002_75] at BK326)
         (try simp only [hl327002_75] at BK334)
         (try simp only [hl327002_75] at HO_6)
         (try simp only [hl327002_75] at HO_10)
         (try simp only [hl327002_75] at HO_335000)
         (try simp only [hl327002_75] at HO_335001)
         have hl335000_75 := (Kd.R_reads' HO_335000.out).1
         rw [hl335000_75] at HO_335000
         (try simp only [hl335000_75])
         (try simp only [hl335000_75] at BK301)
         (try simp only [hl335000_75] at BK302)
         (try simp only [hl335000_75] at BK326)
         (try simp only [hl335000_75] at BK334)
         (try simp only [hl335000_75] at HO_6)
         (try simp only [hl335000_75] at HO_10)
         (try simp only [hl335000_75] at HO_327002)
         (try simp only [hl335000_75] at HO_335001)
         have hl335001_75 := (Kd.R_reads' HO_335001.out).1
         rw [hl335001_75] at HO_335001
         (try simp only [hl335001_75])
         (try simp only [hl335001_75] at BK301)
         (try simp only [hl335001_75] at BK302)
         (try simp only [hl335001_75] at BK326)
         (try simp only [hl335001_75] at BK334)
         (try simp only [hl335001_75] at HO_6)
         (try simp only [hl335001_75] at HO_10)
         (try simp only [hl335001_75] at HO_327002)
         (try simp only [hl335001_75] at HO_335000)
         cases kq with
         | zero => exact absurd HA.out (by simp [laws_FnExactQueryWorld.j1])
         | succ kj75 =>
          have H := HA.out
          clear HA
          simp only [laws_FnExactQueryWorld.j1] at H
          by_cases c103 : x82_75 = true
          ·subst c103
           have H1 : (some false) = some r := by rw [if_pos rfl] at H; exact H
           clear H
           have H := H1
           clear H1
           obtain rfl := Option.some.inj H
           go_wp2
           go_ret
           exact ⟨eE, lV4 GE301 GE302 GE326 GE334⟩
          ·replace c103 := Bool.eq_false_iff.mpr c103
           subst c103
           have H1 : ((laws_markIntS.f kj75 t335 1).bind fun bt360 => ((laws_heldIntS.f kj75 bt360.2 1).bind fun t362 => (if t362 < 0 then (some false) else (if t362 = bt360.1 then ((laws_toWorld.f kj75 a0_0 a0_1 l0_2).bind fun bt363 => ((laws_toQuery.f kj75 l1_0 l1_1 a1_2).bind fun bt368 => ((impl_QueryWorld.f kj75 bt363.1 bt363.2.1 bt363.2.2 bt368.1 bt368.2.1 bt368.2.2).bind fun bt375 => ((laws_eqIntS.f kj75 bt375.1 t317).bind fun t379 => (if t379 = true then (laws_FnExactQueryWorld.j2 kj75 bt360.2 bt360.1 (bt375.2 != t320)) else (laws_FnExactQueryWorld.j2 kj75 bt360.2 bt360.1 true)))))) else (some false))))) = some r := by rw [if_neg (show ¬ (false = true) by decide)] at H; exact H
           clear H
           have H := H1
           clear H1
           replace H := Option.bind_eq_some_iff.mp H
           obtain ⟨⟨t360, t361⟩, A1040, H⟩ := H
           replace H : ((laws_heldIntS.f kj75 t361 1).bind fun t362 => (if t362 < 0 then (some false) else (if t362 = t360 then ((laws_toWorld.f kj75 a0_0 a0_1 l0_2).bind fun bt363 => ((laws_toQuery.f kj75 l1_0 l1_1 a1_2).bind fun bt368 => ((impl_QueryWorld.f kj75 bt363.1 bt363.2.1 bt363.2.2 bt368.1 bt368.2.1 bt368.2.2).bind fun bt375 => ((laws_eqIntS.f kj75 bt375.1 t317).bind fun t379 => (if t379 = true then (laws_FnExactQueryWorld.j2 kj75 t361 t360 (bt375.2 != t320)) else (laws_FnExactQueryWorld.j2 kj75 t361 t360 true)))))) else (some false)))) = some r := H
           have A104 := Aside0.mk A1040
           clear A1040
           replace H := Option.bind_eq_some_iff.mp H
           obtain ⟨t362, A1050, H⟩ := H
           replace H : (if t362 < 0 then (some false) else (if t362 = t360 then ((laws_toWorld.f kj75 a0_0 a0_1 l0_2).bind fun bt363 => ((laws_toQuery.f kj75 l1_0 l1_1 a1_2).bind fun bt368 => ((impl_QueryWorld.f kj75 bt363.1 bt363.2.1 bt363.2.2 bt368.1 bt368.2.1 bt368.2.2).bind fun bt375 => ((laws_eqIntS.f kj75 bt375.1 t317).bind fun t379 => (if t379 = true then (laws_FnExactQueryWorld.j2 kj75 t361 t360 (bt375.2 != t320)) else (laws_FnExactQueryWorld.j2 kj75 t361 t360 true)))))) else (some false))) = some r := H
           have A105 := Aside0.mk A1050
           clear A1050
           by_cases c106 : t362 < 0
           ·rw [if_pos c106] at H
            have c106b0 : decide (t362 < 0) = true := decide_eq_true c106
            clear c106
            obtain rfl := Option.some.inj H
            obtain ⟨Ao107, co107, eo107⟩ := Kd.R_slice HO_10.out
            subst eo107
            go_wp2_with (first | ((with_reducible refine gate_callee (f := 30) rfl ?_); refine goesL_ (some 85) rfl rfl Try.func30 (by kernel_rfl) rfl #[.slice Ao107 t335.length co107, .int .i64 1] rfl aE ?_; (with_reducible refine (laws_markIntS.calls kj75 (fun k_ => some k_ = (.slice Ao107 t335.length co107 : Value).ownBlock) (.slice Ao107 t335.length co107) t335 1 t360 t361 w _ ?side1 ?side2 A104.out).mono ?_); (case side1 => repeat (first | (with_reducible first | exact HB.out | apply below_alloc | apply pw_below_drewN | apply below_drew1 | refine below_set ?_ GE301.out | refine below_set ?_ GE302.out | refine below_set ?_ GE326.out | refine below_set ?_ GE334.out) | exact HB.out)); (case side2 => exact Kd.R_tight rfl HO_10.out); rintro e w108 ⟨rfl, hy0, hb, hkp⟩; refine ⟨_, rfl, ?_⟩; replace HO_6 := Aside0.mk (Kd.R_mono (ok' := fun k_ => some k_ ≠ (.slice Ao107 t335.length co107 : Value).ownBlock) (Kd.R_keptB (HO_6.out) hkp (fun k_ hk_ hs_ => (hk_) hs_)) (fun k_ hk_ => hk_.1)); replace HO_327002 := Aside0.mk (Kd.S_mono (ok' := fun k_ => True) (Kd.S_keptB ((Kd.S_apart' HO_327002.out (Kd.R_typed HO_10.out) (by decide))) hkp (fun k_ hk_ hs_ => (hk_.2) hs_)) (fun k_ hk_ => trivial)); replace HO_335000 := Aside0.mk (Kd.R_mono (ok' := fun k_ => some k_ ≠ (.slice Ao56 t358.length co56 : Value).ownBlock) (Kd.R_keptB ((Kd.R_apart' HO_335000.out (Kd.R_typed HO_10.out) (by decide))) hkp (fun k_ hk_ hs_ => (hk_.2) hs_)) (fun k_ hk_ => hk_.1.1)); replace HO_335001 := Aside0.mk (Kd.R_mono (ok' := fun k_ => some k_ ≠ (.slice Ao51 t357.length co51 : Value).ownBlock) (Kd.R_keptB ((Kd.R_apart' HO_335001.out (Kd.R_typed HO_10.out) (by decide))) hkp (fun k_ hk_ hs_ => (hk_.2) hs_)) (fun k_ hk_ => hk_.1.1)); replace BK301 := Aside0.mk (blk_kept (bV BK301) hkp (fun hs_ => (fun e_ => (Kd.R_ne HO_10.out BK301.out (by decide)) e_) hs_)); replace BK302 := Aside0.mk (blk_kept (bV BK302) hkp (fun hs_ => (fun e_ => (Kd.R_ne HO_10.out BK302.out (by decide)) e_) hs_)); replace BK326 := Aside0.mk (blk_kept (bV BK326) hkp (fun hs_ => (fun e_ => (Kd.R_ne HO_10.out BK326.out (by decide)) e_) hs_)); replace BK334 := Aside0.mk (blk_kept (bV BK334) hkp (fun hs_ => (fun e_ => (Kd.R_ne HO_10.out BK334.out (by decide)) e_) hs_)); replace HO_10 := Aside0.mk (Kd.R_reok rfl hy0 (fun k_ e_ => HO_10.out.1 k_ e_)); replace HB := Aside0.mk hb; (try clear hb); (try clear hkp); (try clear hg_); (try clear hp_); (try clear hy0)) | ((with_reducible refine gate_callee (f := 31) rfl ?_); refine goesL_ (some 88) rfl rfl Try.func31 (by kernel_rfl) rfl #[.slice Ao107 t361.length co107, .int .i64 1] rfl (by (try simp only [List.map_toArray, List.map_cons, List.map_nil]); first | done | (rw [show t361.length = t335.length from (Kd.R_reads' HO_10.out).1.symm] <;> rfl) | rfl | (simp only [List.length_drop, List.length_take]; rfl)) ?_; (with_reducible refine (laws_heldIntS.calls kj75 _ _ t361 1 t362 _ ?side1 ?side2 A105.out).mono ?_); (case side1 => exact cU (Kd.R_reads' HO_10.out).2.2); (case side2 => rw [show t361.length = t335.length from (Kd.R_reads' HO_10.out).1.symm]; exact (Kd.R_reads' HO_10.out).2.1); rintro e w' ⟨rfl, ⟨nd, rfl⟩⟩; refine ⟨_, rfl, ?_⟩))
            go_ret
            exact ⟨eE, lV4 GE301 GE302 GE326 GE334⟩
           ·rw [if_neg c106] at H
            have c106b0 : decide (t362 < 0) = false := decide_eq_false c106
            clear c106
            by_cases c109 : t362 = t360
            ·rw [if_pos c109] at H
             have c109b0 : (t362 == t360) = true := beq_iff_eq.mpr c109
             have c109b1 : (t362 != t360) = false := bne_eq_false_iff_eq.mpr c109
             clear c109
             replace H := Option.bind_eq_some_iff.mp H
             obtain ⟨⟨t363, t364, t365⟩, A1100, H⟩ := H
             replace H : ((laws_toQuery.f kj75 l1_0 l1_1 a1_2).bind fun bt368 => ((impl_QueryWorld.f kj75 t363 t364 t365 bt368.1 bt368.2.1 bt368.2.2).bind fun bt375 => ((laws_eqIntS.f kj75 bt375.1 t317).bind fun t379 => (if t379 = true then (laws_FnExactQueryWorld.j2 kj75 t361 t360 (bt375.2 != t320)) else (laws_FnExactQueryWorld.j2 kj75 t361 t360 true))))) = some r := H
             have A110 := Aside0.mk A1100
             clear A1100
             replace H := Option.bind_eq_some_iff.mp H
             obtain ⟨⟨t368, t371, t374⟩, A1110, H⟩ := H
             replace H : ((impl_QueryWorld.f kj75 t363 t364 t365 t368 t371 t374).bind fun bt375 => ((laws_eqIntS.f kj75 bt375.1 t317).bind fun t379 => (if t379 = true then (laws_FnExactQueryWorld.j2 kj75 t361 t360 (bt375.2 != t320)) else (laws_FnExactQueryWorld.j2 kj75 t361 t360 true)))) = some r := H
             have A111 := Aside0.mk A1110
             clear A1110
             replace H := Option.bind_eq_some_iff.mp H
             obtain ⟨⟨t375, t378⟩, A1120, H⟩ := H
             replace H : ((laws_eqIntS.f kj75 t375 t317).bind fun t379 => (if t379 = true then (laws_FnExactQueryWorld.j2 kj75 t361 t360 (t378 != t320)) else (laws_FnExactQueryWorld.j2 kj75 t361 t360 true))) = some r := H
             have A112 := Aside0.mk A1120
             clear A1120
             have HC113 := Aside0.mk H
             clear H
             obtain ⟨Ao114, co114, eo114⟩ := Kd.R_slice HO_10.out
             subst eo114
             try go_wp2_with (first | ((with_reducible refine gate_callee (f := 30) rfl ?_); refine goesL_ (some 85) rfl rfl Try.func30 (by kernel_rfl) rfl #[.slice Ao114 t335.length co114, .int .i64 1] rfl aE ?_; (with_reducible refine (laws_markIntS.calls kj75 (fun k_ => some k_ = (.slice Ao114 t335.length co114 : Value).ownBlock) (.slice Ao114 t335.length co114) t335 1 t360 t361 w _ ?side1 ?side2 A104.out).mono ?_); (case side1 => repeat (first | (with_reducible first | exact HB.out | apply below_alloc | apply pw_below_drewN | apply below_drew1 | refine below_set ?_ GE301.out | refine below_set ?_ GE302.out | refine below_set ?_ GE326.out | refine below_set ?_ GE334.out) | exact HB.out)); (case side2 => exact Kd.R_tight rfl HO_10.out); rintro e w115 ⟨rfl, hy0, hb, hkp⟩; refine ⟨_, rfl, ?_⟩; replace HO_6 := Aside0.mk (Kd.R_mono (ok' := fun k_ => some k_ ≠ (.slice Ao114 t335.length co114 : Value).ownBlock) (Kd.R_keptB (HO_6.out) hkp (fun k_ hk_ hs_ => (hk_) hs_)) (fun k_ hk_ => hk_.1)); replace HO_327002 := Aside0.mk (Kd.S_mono (ok' := fun k_ => True) (Kd.S_keptB ((Kd.S_apart' HO_327002.out (Kd.R_typed HO_10.out) (by decide))) hkp (fun k_ hk_ hs_ => (hk_.2) hs_)) (fun k_ hk_ => trivial)); replace HO_335000 := Aside0.mk (Kd.R_mono (ok' := fun k_ => some k_ ≠ (.slice Ao56 t358.length co56 : Value).ownBlock) (Kd.R_keptB ((Kd.R_apart' HO_335000.out (Kd.R_typed HO_10.out) (by decide))) hkp (fun k_ hk_ hs_ => (hk_.2) hs_)) (fun k_ hk_ => hk_.1.1)); replace HO_335001 := Aside0.mk (Kd.R_mono (ok' := fun k_ => some k_ ≠ (.slice Ao51 t357.length co51 : Value).ownBlock) (Kd.R_keptB ((Kd.R_apart' HO_335001.out (Kd.R_typed HO_10.out) (by decide))) hkp (fun k_ hk_ hs_ => (hk_.2) hs_)) (fun k_ hk_ => hk_.1.1)); replace BK301 := Aside0.mk (blk_kept (bV BK301) hkp (fun hs_ => (fun e_ => (Kd.R_ne HO_10.out BK301.out (by decide)) e_) hs_)); replace BK302 := Aside0.mk (blk_kept (bV BK302) hkp (fun hs_ => (fun e_ => (Kd.R_ne HO_10.out BK302.out (by decide)) e_) hs_)); replace BK326 := Aside0.mk (blk_kept (bV BK326) hkp (fun hs_ => (fun e_ => (Kd.R_ne HO_10.out BK326.out (by decide)) e_) hs_)); replace BK334 := Aside0.mk (blk_kept (bV BK334) hkp (fun hs_ => (fun e_ => (Kd.R_ne HO_10.out BK334.out (by decide)) e_) hs_)); replace HO_10 := Aside0.mk (Kd.R_reok rfl hy0 (fun k_ e_ => HO_10.out.1 k_ e_)); replace HB := Aside0.mk hb; (try clear hb); (try clear hkp); (try clear hg_); (try clear hp_); (try clear hy0)) | ((with_reducible refine gate_callee (f := 31) rfl ?_); refine goesL_ (some 88) rfl rfl Try.func31 (by kernel_rfl) rfl #[.slice Ao114 t361.length co114, .int .i64 1] rfl (by (try simp only [List.map_toArray, List.map_cons, List.map_nil]); first | done | (rw [show t361.length = t335.length from (Kd.R_reads' HO_10.out).1.symm] <;> rfl) | rfl | (simp only [List.length_drop, List.length_take]; rfl)) ?_; (with_reducible refine (laws_heldIntS.calls kj75 _ _ t361 1 t362 _ ?side1 ?side2 A105.out).mono ?_); (case side1 => exact cU (Kd.R_reads' HO_10.out).2.2); (case side2 => rw [show t361.length = t335.length from (Kd.R_reads' HO_10.out).1.symm]; exact (Kd.R_reads' HO_10.out).2.1); rintro e w' ⟨rfl, ⟨nd, rfl⟩⟩; refine ⟨_, rfl, ?_⟩))
             (try (rw [drewN_self w115]; generalize hq_ : World.drewN w115 _ = w115; replace HO_10 : Aside0 (Kd.R (Kd.int .i64) 3 w115 w.heap.size (fun k_ => some k_ ≠ (v318 : Value).ownBlock) (.slice Ao114 t335.length co114) t361) := ⟨by rw [← hq_]; exact (rU HO_10.out)⟩; replace HO_327002 : Aside0 (Kd.S k77 77 w115 w.heap.size (fun _ => True) (.slice Ao46 t355.length co46) t355) := ⟨by rw [← hq_]; exact (by (with_reducible repeat (first | apply Kd.S_alloc | apply Kd.S_drewN | apply Kd.S_drew)); exact HO_327002.out)⟩; replace HO_335000 : Aside0 (Kd.R Kd.string 9 w115 w.heap.size (fun k_ => some k_ ≠ (.slice Ao56 t358.length co56 : Value).ownBlock) (.slice Ao51 t357.length co51) t357) := ⟨by rw [← hq_]; exact (rU HO_335000.out)⟩; replace HO_335001 : Aside0 (Kd.R Kd.string 9 w115 w.heap.size (fun k_ => some k_ ≠ (.slice Ao51 t357.length co51 : Value).ownBlock) (.slice Ao56 t358.length co56) t358) := ⟨by rw [← hq_]; exact (rU HO_335001.out)⟩; replace HO_6 : Aside0 (Kd.R (Kd.int .i64) 3 w115 w.heap.size (fun k_ => some k_ ≠ (.slice Ao114 t335.length co114 : Value).ownBlock) v318 t317) := ⟨by rw [← hq_]; exact (rU HO_6.out)⟩; replace BK301 : Aside0 (w115.heap[gb301]? = some (.cells #[.int .i64 a0_0, .int .i64 a0_1, .slice A0_2 l0_2.length c0_2] 39 (0, 0))) := ⟨by rw [← hq_]; exact (bV BK301)⟩; replace BK302 : Aside0 (w115.heap[gb302]? = some (.cells #[.slice A1_0 l1_0.length c1_0, .slice A1_1 l1_1.length c1_1, .int .i64 a1_2] 42 (0, 0))) := ⟨by rw [← hq_]; exact (bV BK302)⟩; replace BK326 : Aside0 (w115.heap[gb326]? = some (.cells #[.int .i64 t321, .int .i64 t322, .slice Ao46 t355.length co46] 50 (0, 0))) := ⟨by rw [← hq_]; exact (bV BK326)⟩; replace BK334 : Aside0 (w115.heap[gb334]? = some (.cells #[.slice Ao51 t357.length co51, .slice Ao56 t358.length co56, .int .i64 t333] 52 (0, 0))) := ⟨by rw [← hq_]; exact (bV BK334)⟩; replace HB : Aside0 (Below w.heap.size w w115) := ⟨by rw [← hq_]; exact (lV4 GE301 GE302 GE326 GE334)⟩; clear hq_))
             replace HO_6 := Aside0.mk (Kd.R_drew HO_6.out)
             replace HO_10 := Aside0.mk (Kd.R_drew HO_10.out)
             replace HO_327002 := Aside0.mk (Kd.S_drew HO_327002.out)
             replace HO_335000 := Aside0.mk (Kd.R_drew HO_335000.out)
             replace HO_335001 := Aside0.mk (Kd.R_drew HO_335001.out)
             replace BK301 := Aside0.mk (blk_drew BK301.out)
             replace BK302 := Aside0.mk (blk_drew BK302.out)
             replace BK326 := Aside0.mk (blk_drew BK326.out)
             replace BK334 := Aside0.mk (blk_drew BK334.out)
             replace HB := Aside0.mk (below_drew1 HB.out)
             refine start_ (n := 10) (S := fun w' => w'.cell? ⟨gb301, 0, none⟩ = some (.int .i64 a0_0) ∧ w'.cell? ⟨gb301, 1, none⟩ = some (.int .i64 a0_1) ∧ w'.cell? ⟨gb301, 2, none⟩ = some (.slice A0_2 l0_2.length c0_2) ∧ w'.cell? ⟨gb302, 0, none⟩ = some (.slice A1_0 l1_0.length c1_0) ∧ w'.cell? ⟨gb302, 1, none⟩ = some (.slice A1_1 l1_1.length c1_1) ∧ w'.cell? ⟨gb302, 2, none⟩ = some (.int .i64 a1_2)) (ds := []) #[false, false, false, false, false, false, false, false, false, false] (by kernel_rfl) rfl rfl ⟨cz BK301 0 _, cz BK301 1 _, cz BK301 2 _, cz BK302 0 _, cz BK302 1 _, cz BK302 2 _⟩ (fun hHeld => ?_); refine with_tabW laws_FnExactQueryWorld.tab31 laws_FnExactQueryWorld.bits31 (fun HT_ HW_ => ?_)
             generalize w115.drew = w116 at HO_6 HO_10 HO_327002 HO_335000 HO_335001 BK301 BK302 BK326 BK334 HB hHeld ⊢
             refine takeA 0 95 (bz 10 1) rfl rfl (take_ofW HT_.out HW_.out (by kernel_rfl)) hHeld (by rintro w' ⟨s0, s1, s2, s3, s4, s5⟩; go_simp; with_reducible rfl) ?_
             refine takeA 2 97 (bz 10 5) rfl rfl (take_ofW HT_.out HW_.out (by kernel_rfl)) hHeld (by rintro w' ⟨s0, s1, s2, s3, s4, s5⟩; go_simp; with_reducible rfl) ?_
             refine one_ (i := 1) (N := some 96) (bz 10 7) rfl rfl (one_of HT_.out (by kernel_rfl)) (by decide) (fun K hK => ?_)
             refine goes_ Try.func22 (by kernel_rfl) rfl #[.agg #[.int .i64 a0_0, .int .i64 a0_1, .slice A0_2 l0_2.length c0_2]] (by rfl) rfl rfl aE ?_
             with_reducible refine (laws_toWorld.calls kj75 a0_0 a0_1 _ _ l0_2 t363 t364 t365 _ ?side1 ?side2 A110.out).mono ?_
             (case side1 => exact cU (Kd.C_below HR0_2.out HB.out))
             (case side2 => exact HC0_2.out)
             rintro e w117 ⟨v366, rfl, ho0, hb⟩
             refine ⟨_, rfl, ?_⟩
             replace HO_6 := Aside0.mk (Kd.R_below (rU HO_6.out) hb)
             replace HO_10 := Aside0.mk (Kd.R_below (rU HO_10.out) hb)
             replace HO_335000 := Aside0.mk (Kd.R_below (rU HO_335000.out) hb)
             replace HO_335001 := Aside0.mk (Kd.R_below (rU HO_335001.out) hb)
             have HO367 := Aside0.mk (Kd.S_lower (Kd.S_new' ho0 (Kd.S_lt (by (with_reducible repeat (first | apply Kd.S_alloc | apply Kd.S_drewN | apply Kd.S_drew)); exact HO_327002.out))) (below_size (lV4 GE301 GE302 GE326 GE334)))
             replace HO_327002 := Aside0.mk (Kd.S_elder' (by (with_reducible repeat (first | apply Kd.S_alloc | apply Kd.S_drewN | apply Kd.S_drew)); exact HO_327002.out) (Kd.S_base ho0) hb)
             replace BK301 := bB (bV BK301) hb
             replace BK302 := bB (bV BK302) hb
             replace BK326 := bB (bV BK326) hb
             replace BK334 := bB (bV BK334) hb
             replace HB := bH (lV4 GE301 GE302 GE326 GE334) hb
             (try clear hb)
             (try clear hb2)
             (try clear hk)
             (try clear hi)
             (try clear ho0)
             refine hK.out _ _ ⟨cz BK301 0 _, cz BK301 1 _, cz BK301 2 _, cz BK302 0 _, cz BK302 1 _, cz BK302 2 _⟩ (fun hHeld => ?_)
             clear hK K
             refine norm_ (a' := ?_) ?_ ?_
             rotate_left
             ·show Act.put _ (some 96) _ = _
              simp only [Act.put, List.setIfInBounds_toArray, List.set_cons_zero, List.set_cons_succ, i64_w, i32_w]
              rfl
             refine one_ (i := 3) (N := some 98) (bz 10 15) rfl rfl (one_of HT_.out (by kernel_rfl)) (by decide) (fun K hK => ?_)
             refine goes_ Try.func23 (by kernel_rfl) rfl #[.agg #[.slice A1_0 l1_0.length c1_0, .slice A1_1 l1_1.length c1_1, .int .i64 a1_2]] (by rfl) rfl rfl aE ?_
             with_reducible refine (laws_toQuery.calls kj75 _ _ l1_0 _ _ l1_1 a1_2 t368 t371 t374 _ ?side1 ?side2 ?side3 ?side4 A111.out).mono ?_
             (case side1 => exact cU (Kd.C_below HR1_0.out HB.out))
             (case side2 => exact HC1_0.out)
             (case side3 => exact cU (Kd.C_below HR1_1.out HB.out))
             (case side4 => exact HC1_1.out)
             rintro e w118 ⟨v369, v372, rfl, ho0, ho1, hb⟩
             refine ⟨_, rfl, ?_⟩
             replace HO_6 := Aside0.mk (Kd.R_below (rU HO_6.out) hb)
             replace HO_10 := Aside0.mk (Kd.R_below (rU HO_10.out) hb)
             replace HO_327002 := Aside0.mk (Kd.S_below (by (with_reducible repeat (first | apply Kd.S_alloc | apply Kd.S_drewN | apply Kd.S_drew)); exact HO_327002.out) hb)
             replace HO367 := Aside0.mk (Kd.S_below (by (with_reducible repeat (first | apply Kd.S_alloc | apply Kd.S_drewN | apply Kd.S_drew)); exact HO367.out) hb)
             have HO370 := Aside0.mk (Kd.R_lower (Kd.R_new' (Kd.R_new' ho0 (Kd.R_lt (rU HO_335000.out))) (Kd.R_lt (rU HO_335001.out))) (below_size (lV4 GE301 GE302 GE326 GE334)))
             have HO373 := Aside0.mk (Kd.R_lower (Kd.R_new' (Kd.R_new' ho1 (Kd.R_lt (rU HO_335000.out))) (Kd.R_lt (rU HO_335001.out))) (below_size (lV4 GE301 GE302 GE326 GE334)))
             replace HO_335000 := Aside0.mk (Kd.R_mono (Kd.R_told (Kd.R_told (Kd.R_old (rU HO_335000.out) hb) (Kd.R_base ho0)) (Kd.R_base ho1)) (fun _ h_ => h_.1))
             replace HO_335001 := Aside0.mk (Kd.R_mono (Kd.R_told (Kd.R_told (Kd.R_old (rU HO_335001.out) hb) (Kd.R_base ho0)) (Kd.R_base ho1)) (fun _ h_ => h_.1))
             replace BK301 := bB (bV BK301) hb
             replace BK302 := bB (bV BK302) hb
             replace BK326 := bB (bV BK326) hb
             replace BK334 := bB (bV BK334) hb
             replace HB := bH (lV4 GE301 GE302 GE326 GE334) hb
             (try clear hb)
             (try clear hb2)
             (try clear hk)
             (try clear hi)
             (try clear ho0)
             (try clear ho1)
             obtain ⟨Ao119, co119, eo119⟩ := Kd.S_slice HO367.out
             (first | subst eo119 | (injection eo119 with f1_ f2_ f3_; have f4_ := f1_.symm; have f5_ := f3_.symm; clear f1_ f2_ f3_; subst f4_; subst f5_))
             obtain ⟨Ao120, co120, eo120⟩ := Kd.R_slice HO370.out
             (first | subst eo120 | (injection eo120 with f1_ f2_ f3_; have f4_ := f1_.symm; have f5_ := f3_.symm; clear f1_ f2_ f3_; subst f4_; subst f5_))
             obtain ⟨Ao121, co121, eo121⟩ := Kd.R_slice HO373.out
             (first | subst eo121 | (injection eo121 with f1_ f2_ f3_; have f4_ := f1_.symm; have f5_ := f3_.symm; clear f1_ f2_ f3_; subst f4_; subst f5_))
             refine hK.out _ _ ⟨cz BK301 0 _, cz BK301 1 _, cz BK301 2 _, cz BK302 0 _, cz BK302 1 _, cz BK302 2 _⟩ (fun hHeld => ?_)
             clear hK K
             refine norm_ (a' := ?_) ?_ ?_
             rotate_left
             ·show Act.put _ (some 98) _ = _
              simp only [Act.put, List.setIfInBounds_toArray, List.set_cons_zero, List.set_cons_succ, i64_w, i32_w]
              rfl
             refine one_ (i := 4) (N := some 99) (bz 10 31) rfl rfl (one_of HT_.out (by kernel_rfl)) (by decide) (fun K hK => ?_)
             refine goes_ Try.func24 (by kernel_rfl) rfl #[.agg #[.int .i64 t363, .int .i64 t364, .slice Ao119 t365.length co119], .agg #[.slice Ao120 t368.length co120, .slice Ao121 t371.length co121, .int .i64 t374]] (by rfl) rfl rfl aE ?_
             with_reducible refine (impl_QueryWorld.calls kj75 t363 t364 _ _ t365 _ _ t368 _ _ t371 t374 t375 t378 _ ?side1 ?side2 ?side3 ?side4 ?side5 ?side6 A112.out).mono ?_
             (case side1 => exact cU (Kd.S_reads' HO367.out).2.2)
             (case side2 => exact (Kd.S_reads' HO367.out).2.1)
             (case side3 => exact cU (Kd.R_reads' HO370.out).2.2)
             (case side4 => exact (Kd.R_reads' HO370.out).2.1)
             (case side5 => exact cU (Kd.R_reads' HO373.out).2.2)
             (case side6 => exact (Kd.R_reads' HO373.out).2.1)
             rintro e w122 ⟨v376, rfl, ho0, hb⟩
             refine ⟨_, rfl, ?_⟩
             replace HO_327002 := Aside0.mk (Kd.S_below (by (with_reducible repeat (first | apply Kd.S_alloc | apply Kd.S_drewN | apply Kd.S_drew)); exact HO_327002.out) hb)
             replace HO_335000 := Aside0.mk (Kd.R_below (rU HO_335000.out) hb)
             replace HO_335001 := Aside0.mk (Kd.R_below (rU HO_335001.out) hb)
             replace HO367 := Aside0.mk (Kd.S_below (by (with_reducible repeat (first | apply Kd.S_alloc | apply Kd.S_drewN | apply Kd.S_drew)); exact HO367.out) hb)
             replace HO370 := Aside0.mk (Kd.R_below (rU HO370.out) hb)
             replace HO373 := Aside0.mk (Kd.R_below (rU HO373.out) hb)
             have HO377 := Aside0.mk (Kd.R_lower (Kd.R_new' (Kd.R_new' ho0 (Kd.R_lt (rU HO_6.out))) (Kd.R_lt (rU HO_10.out))) (below_size (lV4 GE301 GE302 GE326 GE334)))
             replace HO_6 := Aside0.mk (Kd.R_elder' (rU HO_6.out) (Kd.R_base ho0) hb)
             replace HO_10 := Aside0.mk (Kd.R_elder' (rU HO_10.out) (Kd.R_base ho0) hb)
             replace BK301 := bB (bV BK301) hb
             replace BK302 := bB (bV BK302) hb
             replace BK326 := bB (bV BK326) hb
             replace BK334 := bB (bV BK334) hb
             replace HB := bH (lV4 GE301 GE302 GE326 GE334) hb
             (try clear hb)
             (try clear hb2)
             (try clear hk)
             (try clear hi)
             (try clear ho0)
             refine hK.out _ _ ⟨cz BK301 0 _, cz BK301 1 _, cz BK301 2 _, cz BK302 0 _, cz BK302 1 _, cz BK302 2 _⟩ (fun hHeld => ?_)
             clear hK K
             refine norm_ (a' := ?_) ?_ ?_
             rotate_left
             ·show Act.put _ (some 99) _ = _
              simp only [Act.put, List.setIfInBounds_toArray, List.set_cons_zero, List.set_cons_succ, i64_w, i32_w]
              rfl
             refine pureA 5 94 (bz 10 63) rfl rfl (any_of HT_.out (by kernel_rfl)) ?_
             refine pureA 6 100 (bz 10 127) rfl rfl (any_of HT_.out (by kernel_rfl)) ?_
             refine pureA 7 101 (bz 10 255) rfl rfl (any_of HT_.out (by kernel_rfl)) ?_
             refine pureA 8 15 (bz 10 511) rfl rfl (any_of HT_.out (by kernel_rfl)) ?_
             refine pureA 9 16 (bz 10 1023) rfl rfl (any_of HT_.out (by kernel_rfl)) ?_
             refine done_ (done_of HT_.out (by kernel_rfl)) ?_
             go_upto_region 32 with (fail)
             go_cut [110] (fun v110 wc => ∃ (kq : Nat) (x110_112 : Bool), v110 = .bool x110_112 ∧ Aside0 (laws_FnExactQueryWorld.j2 kq t361 t360 x110_112 = some r) ∧ Aside0 (kq ≤ kj75) ∧ Aside0 (Kd.R (Kd.int .i64) 3 wc w.heap.size (fun _ => True) (.slice Ao114 t335.length co114) t361) ∧ Aside0 (Kd.S k77 77 wc w.heap.size (fun _ => True) (.slice Ao46 t355.length co46) t355) ∧ Aside0 (Kd.R Kd.string 9 wc w.heap.size (fun k_ => some k_ ≠ ((.slice Ao56 t358.length co56) : Value).ownBlock) (.slice Ao51 t357.length co51) t357) ∧ Aside0 (Kd.R Kd.string 9 wc w.heap.size (fun k_ => some k_ ≠ ((.slice Ao51 t357.length co51) : Value).ownBlock) (.slice Ao56 t358.length co56) t358) ∧ Aside0 (wc.heap[gb301]? = some (.cells #[.int .i64 a0_0, .int .i64 a0_1, (.slice A0_2 l0_2.length c0_2)] 39 (0, 0))) ∧ Aside0 (wc.heap[gb302]? = some (.cells #[(.slice A1_0 l1_0.length c1_0), (.slice A1_1 l1_1.length c1_1), .int .i64 a1_2] 42 (0, 0))) ∧ Aside0 (wc.heap[gb326]? = some (.cells #[.int .i64 t321, .int .i64 t322, (.slice Ao46 t355.length co46)] 50 (0, 0))) ∧ Aside0 (wc.heap[gb334]? = some (.cells #[(.slice Ao51 t357.length co51), (.slice Ao56 t358.length co56), .int .i64 t333] 52 (0, 0))) ∧ Aside0 (Below w.heap.size w wc))
             case first =>
              have H := HC113.out
              clear HC113
              replace H := Option.bind_eq_some_iff.mp H
              obtain ⟨t379, A1230, H⟩ := H
              replace H : (if t379 = true then (laws_FnExactQueryWorld.j2 kj75 t361 t360 (t378 != t320)) else (laws_FnExactQueryWorld.j2 kj75 t361 t360 true)) = some r := H
              have A123 := Aside0.mk A1230
              clear A1230
              by_cases c124 : t379 = true
              ·subst c124
               have H1 : (laws_FnExactQueryWorld.j2 kj75 t361 t360 (t378 != t320)) = some r := by rw [if_pos rfl] at H; exact H
               clear H
               have H := H1
               clear H1
               have H' := Aside0.mk H
               clear H
               obtain ⟨Ao125, co125, eo125⟩ := Kd.R_slice HO377.out
               subst eo125
               obtain ⟨Ao126, co126, eo126⟩ := Kd.R_slice HO_6.out
               subst eo126
               go_wp2_with (first | ((with_reducible refine gate_callee (f := 25) rfl ?_); refine goesL_ (some 104) rfl rfl Try.func25 (by kernel_rfl) rfl #[.slice Ao125 t375.length co125, .slice Ao126 t317.length co126] rfl aE ?_; (with_reducible refine (laws_eqIntS.calls kj75 _ _ t375 _ _ t317 true _ ?side1 ?side2 ?side3 ?side4 A123.out).mono ?_); (case side1 => exact cU (Kd.R_reads' HO377.out).2.2); (case side2 => exact (Kd.R_reads' HO377.out).2.1); (case side3 => exact cU (Kd.R_reads' HO_6.out).2.2); (case side4 => exact (Kd.R_reads' HO_6.out).2.1); rintro e w' ⟨rfl, ⟨nd, rfl⟩⟩; refine ⟨_, rfl, ?_⟩))
               go_meet
               case rel => exact ⟨_, ((t378 != t320)), tE, H', ⟨by have := HJ24.out; have := HJ75.out; first | omega | exact Nat.le_refl _⟩, ⟨by (try simp only [hl327002_75]); (try simp only [hl335000_75]); (try simp only [hl335001_75]); (with_reducible repeat (first | apply Kd.R_alloc | apply Kd.R_drewN | apply Kd.R_drew)); exact Kd.R_mono HO_10.out (fun _ hk => trivial)⟩, ⟨by (try simp only [hl327002_75]); (try simp only [hl335000_75]); (try simp only [hl335001_75]); (with_reducible repeat (first | apply Kd.S_alloc | apply Kd.S_drewN | apply Kd.S_drew)); exact Kd.S_mono HO_327002.out (fun _ hk => trivial)⟩, ⟨by (try simp only [hl327002_75]); (try simp only [hl335000_75]); (try simp only [hl335001_75]); (with_reducible repeat (first | apply Kd.R_alloc | apply Kd.R_drewN | apply Kd.R_drew)); exact Kd.R_mono HO_335000.out (fun _ hk => hk.1.1)⟩, ⟨by (try simp only [hl327002_75]); (try simp only [hl335000_75]); (try simp only [hl335001_75]); (with_reducible repeat (first | apply Kd.R_alloc | apply Kd.R_drewN | apply Kd.R_drew)); exact Kd.R_mono HO_335001.out (fun _ hk => hk.1.1)⟩, ⟨by (try simp only [hl327002_75]); (try simp only [hl335000_75]); (try simp only [hl335001_75]); refine bU ?_; exact BK301.out⟩, ⟨by (try simp only [hl327002_75]); (try simp only [hl335000_75]); (try simp only [hl335001_75]); refine bU ?_; exact BK302.out⟩, ⟨by (try simp only [hl327002_75]); (try simp only [hl335000_75]); (try simp only [hl335001_75]); refine bU ?_; exact BK326.out⟩, ⟨by (try simp only [hl327002_75]); (try simp only [hl335000_75]); (try simp only [hl335001_75]); refine bU ?_; exact BK334.out⟩, ⟨by repeat (first | (with_reducible first | exact HB.out | apply below_alloc | apply pw_below_drewN | apply below_drew1 | refine below_set ?_ GE301.out | refine below_set ?_ GE302.out | refine below_set ?_ GE326.out | refine below_set ?_ GE334.out) | exact HB.out)⟩⟩
              ·replace c124 := Bool.eq_false_iff.mpr c124
               subst c124
               have H1 : (laws_FnExactQueryWorld.j2 kj75 t361 t360 true) = some r := by rw [if_neg (show ¬ (false = true) by decide)] at H; exact H
               clear H
               have H := H1
               clear H1
               have H' := Aside0.mk H
               clear H
               obtain ⟨Ao127, co127, eo127⟩ := Kd.R_slice HO377.out
               subst eo127
               obtain ⟨Ao128, co128, eo128⟩ := Kd.R_slice HO_6.out
               subst eo128
               go_wp2_with (first | ((with_reducible refine gate_callee (f := 25) rfl ?_); refine goesL_ (some 104) rfl rfl Try.func25 (by kernel_rfl) rfl #[.slice Ao127 t375.length co127, .slice Ao128 t317.length co128] rfl aE ?_; (with_reducible refine (laws_eqIntS.calls kj75 _ _ t375 _ _ t317 false _ ?side1 ?side2 ?side3 ?side4 A123.out).mono ?_); (case side1 => exact cU (Kd.R_reads' HO377.out).2.2); (case side2 => exact (Kd.R_reads' HO377.out).2.1); (case side3 => exact cU (Kd.R_reads' HO_6.out).2.2); (case side4 => exact (Kd.R_reads' HO_6.out).2.1); rintro e w' ⟨rfl, ⟨nd, rfl⟩⟩; refine ⟨_, rfl, ?_⟩))
               go_meet
               case rel => exact ⟨_, (true), tE, H', ⟨by have := HJ24.out; have := HJ75.out; first | omega | exact Nat.le_refl _⟩, ⟨by (try simp only [hl327002_75]); (try simp only [hl335000_75]); (try simp only [hl335001_75]); (with_reducible repeat (first | apply Kd.R_alloc | apply Kd.R_drewN | apply Kd.R_drew)); exact Kd.R_mono HO_10.out (fun _ hk => trivial)⟩, ⟨by (try simp only [hl327002_75]); (try simp only [hl335000_75]); (try simp only [hl335001_75]); (with_reducible repeat (first | apply Kd.S_alloc | apply Kd.S_drewN | apply Kd.S_drew)); exact Kd.S_mono HO_327002.out (fun _ hk => trivial)⟩, ⟨by (try simp only [hl327002_75]); (try simp only [hl335000_75]); (try simp only [hl335001_75]); (with_reducible repeat (first | apply Kd.R_alloc | apply Kd.R_drewN | apply Kd.R_drew)); exact Kd.R_mono HO_335000.out (fun _ hk => hk.1.1)⟩, ⟨by (try simp only [hl327002_75]); (try simp only [hl335000_75]); (try simp only [hl335001_75]); (with_reducible repeat (first | apply Kd.R_alloc | apply Kd.R_drewN | apply Kd.R_drew)); exact Kd.R_mono HO_335001.out (fun _ hk => hk.1.1)⟩, ⟨by (try simp only [hl327002_75]); (try simp only [hl335000_75]); (try simp only [hl335001_75]); refine bU ?_; exact BK301.out⟩, ⟨by (try simp only [hl327002_75]); (try simp only [hl335000_75]); (try simp only [hl335001_75]); refine bU ?_; exact BK302.out⟩, ⟨by (try simp only [hl327002_75]); (try simp only [hl335000_75]); (try simp only [hl335001_75]); refine bU ?_; exact BK326.out⟩, ⟨by (try simp only [hl327002_75]); (try simp only [hl335000_75]); (try simp only [hl335001_75]); refine bU ?_; exact BK334.out⟩, ⟨by repeat (first | (with_reducible first | exact HB.out | apply below_alloc | apply pw_below_drewN | apply below_drew1 | refine below_set ?_ GE301.out | refine below_set ?_ GE302.out | refine below_set ?_ GE326.out | refine below_set ?_ GE334.out) | exact HB.out)⟩⟩
             case rest =>
              clear HC113
              try clear c1
              try clear q1
              try clear c2
              try clear p2
              try clear q2
              try clear hf2
              try clear c3
              try clear c4
              try clear c4b0
              try clear c5
              try clear c6
              try clear c7
              try clear c8
              try clear c9
              try clear c10
              try clear c11
              try clear c11b0
              try clear c12
              try clear c14
              try clear c19
              try clear c20
              try clear c21
              try clear c22
              try clear c23
              try clear c24
              try clear c25
              try clear c26
              try clear c27
              try clear c28
              try clear c29
              try clear c30
              try clear c31
              try clear c43
              try clear c44
              try clear c52
              try clear c53
              try clear c54
              try clear c62
              try clear c67
              try clear c70
              try clear c73
              try clear c86
              try clear c87
              try clear c88
              try clear c92
              try clear c93
              try clear c96
              try clear c96b0
              try clear c96b2
              try clear c98
              try clear c103
              try clear c106
              try clear c106b0
              try clear c109
              try clear c109b0
              try clear c109b1
              try clear c124
              try clear hcz15_0
              try clear hcz15_1
              try clear hcz15_2
              try clear hcz17_0
              try clear hcz17_1
              try clear hcz17_2
              try clear hcz29_0
              try clear hcz29_1
              try clear hcz29_2
              try clear hcz31_0
              try clear hcz31_1
              try clear hcz31_2
              try clear hcz40_0
              try clear hcz40_1
              try clear hcz40_2
              try clear hcz45_0
              try clear hcz45_1
              try clear hcz45_2
              try clear hcz48_0
              try clear hcz48_1
              try clear hcz48_2
              try clear hcz55_0
              try clear hcz55_1
              try clear hcz55_2
              try clear hcz58_0
              try clear hcz58_1
              try clear hcz58_2
              try clear hcz59_0
              try clear hcz59_1
              try clear hcz59_2
              try clear hcz89_0
              try clear hcz89_1
              try clear hcz89_2
              try clear hcz8_0
              try clear hcz8_1
              try clear hcz8_2
              try clear hcz94_0
              try clear hcz94_1
              try clear hcz94_2
              try clear hfz15_0
              try clear hfz15_1
              try clear hfz15_2
              try clear hfz17_0
              try clear hfz17_1
              try clear hfz17_2
              try clear hfz29_0
              try clear hfz29_1
              try clear hfz29_2
              try clear hfz31_0
              try clear hfz31_1
              try clear hfz31_2
              try clear hfz40_0
              try clear hfz40_1
              try clear hfz40_2
              try clear hfz45_0
              try clear hfz45_1
              try clear hfz45_2
              try clear hfz48_0
              try clear hfz48_1
              try clear hfz48_2
              try clear hfz55_0
              try clear hfz55_1
              try clear hfz55_2
              try clear hfz58_0
              try clear hfz58_1
              try clear hfz58_2
              try clear hfz59_0
              try clear hfz59_1
              try clear hfz59_2
              try clear hfz89_0
              try clear hfz89_1
              try clear hfz89_2
              try clear hfz8_0
              try clear hfz8_1
              try clear hfz8_2
              try clear hfz94_0
              try clear hfz94_1
              try clear hfz94_2
              try clear p2
              try clear q1
              try clear q2
              obtain ⟨kq, x110_112, rfl, HA, HJ112, HO_10, HO_327002, HO_335000, HO_335001, BK301, BK302, BK326, BK334, HB⟩ := hcut
              have hl10_112 := (Kd.R_reads' HO_10.out).1
              rw [hl10_112] at HO_10
              (try simp only [hl10_112])
              (try simp only [hl10_112] at BK301)
              (try simp only [hl10_112] at BK302)
              (try simp only [hl10_112] at BK326)
              (try simp only [hl10_112] at BK334)
              (try simp only [hl10_112] at HO_327002)
              (try simp only [hl10_112] at HO_335000)
              (try simp only [hl10_112] at HO_335001)
              cases kq with
              | zero => exact absurd HA.out (by simp [laws_FnExactQueryWorld.j2])
              | succ kj112 =>
               have H := HA.out
               clear HA
               simp only [laws_FnExactQueryWorld.j2] at H
               by_cases c129 : x110_112 = true
               ·subst c129
                have H1 : (some false) = some r := by rw [if_pos rfl] at H; exact H
                clear H
                have H := H1
                clear H1
                obtain rfl := Option.some.inj H
                go_wp2
                go_ret
                exact ⟨eE, lV4 GE301 GE302 GE326 GE334⟩
               ·replace c129 := Bool.eq_false_iff.mpr c129
                subst c129
                have H1 : ((laws_heldIntS.f kj112 t361 1).bind fun t380 => (if t380 < 0 then (some false) else (if t380 = t360 then (some true) else (some false)))) = some r := by rw [if_neg (show ¬ (false = true) by decide)] at H; exact H
                clear H
                have H := H1
                clear H1
                replace H := Option.bind_eq_some_iff.mp H
                obtain ⟨t380, A1300, H⟩ := H
                replace H : (if t380 < 0 then (some false) else (if t380 = t360 then (some true) else (some false))) = some r := H
                have A130 := Aside0.mk A1300
                clear A1300
                by_cases c131 : t380 < 0
                ·rw [if_pos c131] at H
                 have c131b0 : decide (t380 < 0) = true := decide_eq_true c131
                 clear c131
                 obtain rfl := Option.some.inj H
                 go_wp2_with (first | ((with_reducible refine gate_callee (f := 31) rfl ?_); refine goesL_ (some 113) rfl rfl Try.func31 (by kernel_rfl) rfl #[.slice Ao114 t361.length co114, .int .i64 1] rfl aE ?_; (with_reducible refine (laws_heldIntS.calls kj112 _ _ t361 1 t380 _ ?side1 ?side2 A130.out).mono ?_); (case side1 => exact cU (Kd.R_reads' HO_10.out).2.2); (case side2 => exact (Kd.R_reads' HO_10.out).2.1); rintro e w' ⟨rfl, ⟨nd, rfl⟩⟩; refine ⟨_, rfl, ?_⟩))
                 go_ret
                 exact ⟨eE, lV4 GE301 GE302 GE326 GE334⟩
                ·rw [if_neg c131] at H
                 have c131b0 : decide (t380 < 0) = false := decide_eq_false c131
                 clear c131
                 by_cases c132 : t380 = t360
                 ·rw [if_pos c132] at H
                  have c132b0 : (t380 == t360) = true := beq_iff_eq.mpr c132
                  have c132b1 : (t380 != t360) = false := bne_eq_false_iff_eq.mpr c132
                  clear c132
                  obtain rfl := Option.some.inj H
                  go_wp2_with (first | ((with_reducible refine gate_callee (f := 31) rfl ?_); refine goesL_ (some 113) rfl rfl Try.func31 (by kernel_rfl) rfl #[.slice Ao114 t361.length co114, .int .i64 1] rfl aE ?_; (with_reducible refine (laws_heldIntS.calls kj112 _ _ t361 1 t380 _ ?side1 ?side2 A130.out).mono ?_); (case side1 => exact cU (Kd.R_reads' HO_10.out).2.2); (case side2 => exact (Kd.R_reads' HO_10.out).2.1); rintro e w' ⟨rfl, ⟨nd, rfl⟩⟩; refine ⟨_, rfl, ?_⟩))
                  go_ret
                  exact ⟨eE, lV4 GE301 GE302 GE326 GE334⟩
                 ·rw [if_neg c132] at H
                  have c132b0 : (t380 == t360) = false := beq_eq_false_iff_ne.mpr c132
                  have c132b1 : (t380 != t360) = true := bne_iff_ne.mpr c132
                  obtain rfl := Option.some.inj H
                  go_wp2_with (first | ((with_reducible refine gate_callee (f := 31) rfl ?_); refine goesL_ (some 113) rfl rfl Try.func31 (by kernel_rfl) rfl #[.slice Ao114 t361.length co114, .int .i64 1] rfl aE ?_; (with_reducible refine (laws_heldIntS.calls kj112 _ _ t361 1 t380 _ ?side1 ?side2 A130.out).mono ?_); (case side1 => exact cU (Kd.R_reads' HO_10.out).2.2); (case side2 => exact (Kd.R_reads' HO_10.out).2.1); rintro e w' ⟨rfl, ⟨nd, rfl⟩⟩; refine ⟨_, rfl, ?_⟩))
                  go_ret
                  exact ⟨eE, lV4 GE301 GE302 GE326 GE334⟩
            ·rw [if_neg c109] at H
             have c109b0 : (t362 == t360) = false := beq_eq_false_iff_ne.mpr c109
             have c109b1 : (t362 != t360) = true := bne_iff_ne.mpr c109
             obtain rfl := Option.some.inj H
             obtain ⟨Ao133, co133, eo133⟩ := Kd.R_slice HO_10.out
             subst eo133
             go_wp2_with (first | ((with_reducible refine gate_callee (f := 30) rfl ?_); refine goesL_ (some 85) rfl rfl Try.func30 (by kernel_rfl) rfl #[.slice Ao133 t335.length co133, .int .i64 1] rfl aE ?_; (with_reducible refine (laws_markIntS.calls kj75 (fun k_ => some k_ = (.slice Ao133 t335.length co133 : Value).ownBlock) (.slice Ao133 t335.length co133) t335 1 t360 t361 w _ ?side1 ?side2 A104.out).mono ?_); (case side1 => repeat (first | (with_reducible first | exact HB.out | apply below_alloc | apply pw_below_drewN | apply below_drew1 | refine below_set ?_ GE301.out | refine below_set ?_ GE302.out | refine below_set ?_ GE326.out | refine below_set ?_ GE334.out) | exact HB.out)); (case side2 => exact Kd.R_tight rfl HO_10.out); rintro e w134 ⟨rfl, hy0, hb, hkp⟩; refine ⟨_, rfl, ?_⟩; replace HO_6 := Aside0.mk (Kd.R_mono (ok' := fun k_ => some k_ ≠ (.slice Ao133 t335.length co133 : Value).ownBlock) (Kd.R_keptB (HO_6.out) hkp (fun k_ hk_ hs_ => (hk_) hs_)) (fun k_ hk_ => hk_.1)); replace HO_327002 := Aside0.mk (Kd.S_mono (ok' := fun k_ => True) (Kd.S_keptB ((Kd.S_apart' HO_327002.out (Kd.R_typed HO_10.out) (by decide))) hkp (fun k_ hk_ hs_ => (hk_.2) hs_)) (fun k_ hk_ => trivial)); replace HO_335000 := Aside0.mk (Kd.R_mono (ok' := fun k_ => some k_ ≠ (.slice Ao56 t358.length co56 : Value).ownBlock) (Kd.R_keptB ((Kd.R_apart' HO_335000.out (Kd.R_typed HO_10.out) (by decide))) hkp (fun k_ hk_ hs_ => (hk_.2) hs_)) (fun k_ hk_ => hk_.1.1)); replace HO_335001 := Aside0.mk (Kd.R_mono (ok' := fun k_ => some k_ ≠ (.slice Ao51 t357.length co51 : Value).ownBlock) (Kd.R_keptB ((Kd.R_apart' HO_335001.out (Kd.R_typed HO_10.out) (by decide))) hkp (fun k_ hk_ hs_ => (hk_.2) hs_)) (fun k_ hk_ => hk_.1.1)); replace BK301 := Aside0.mk (blk_kept (bV BK301) hkp (fun hs_ => (fun e_ => (Kd.R_ne HO_10.out BK301.out (by decide)) e_) hs_)); replace BK302 := Aside0.mk (blk_kept (bV BK302) hkp (fun hs_ => (fun e_ => (Kd.R_ne HO_10.out BK302.out (by decide)) e_) hs_)); replace BK326 := Aside0.mk (blk_kept (bV BK326) hkp (fun hs_ => (fun e_ => (Kd.R_ne HO_10.out BK326.out (by decide)) e_) hs_)); replace BK334 := Aside0.mk (blk_kept (bV BK334) hkp (fun hs_ => (fun e_ => (Kd.R_ne HO_10.out BK334.out (by decide)) e_) hs_)); replace HO_10 := Aside0.mk (Kd.R_reok rfl hy0 (fun k_ e_ => HO_10.out.1 k_ e_)); replace HB := Aside0.mk hb; (try clear hb); (try clear hkp); (try clear hg_); (try clear hp_); (try clear hy0)) | ((with_reducible refine gate_callee (f := 31) rfl ?_); refine goesL_ (some 88) rfl rfl Try.func31 (by kernel_rfl) rfl #[.slice Ao133 t361.length co133, .int .i64 1] rfl (by (try simp only [List.map_toArray, List.map_cons, List.map_nil]); first | done | (rw [show t361.length = t335.length from (Kd.R_reads' HO_10.out).1.symm] <;> rfl) | rfl | (simp only [List.length_drop, List.length_take]; rfl)) ?_; (with_reducible refine (laws_heldIntS.calls kj75 _ _ t361 1 t362 _ ?side1 ?side2 A105.out).mono ?_); (case side1 => exact cU (Kd.R_reads' HO_10.out).2.2); (case side2 => rw [show t361.length = t335.length from (Kd.R_reads' HO_10.out).1.symm]; exact (Kd.R_reads' HO_10.out).2.1); rintro e w' ⟨rfl, ⟨nd, rfl⟩⟩; refine ⟨_, rfl, ?_⟩))
             go_ret
             exact ⟨eE, lV4 GE301 GE302 GE326 GE334⟩
       ·replace c73 := Bool.eq_false_iff.mpr c73
        subst c73
        have H1 : (some false) = some r := by rw [if_neg (show ¬ (false = true) by decide)] at H; exact H
        clear H
        have H := H1
        clear H1
        obtain rfl := Option.some.inj H
        try go_wp2
        replace HO_6 := Aside0.mk (Kd.R_drew HO_6.out)
        replace HO_10 := Aside0.mk (Kd.R_drew HO_10.out)
        replace HO_327002 := Aside0.mk (Kd.S_drew HO_327002.out)
        replace HO_335000 := Aside0.mk (Kd.R_drew HO_335000.out)
        replace HO_335001 := Aside0.mk (Kd.R_drew HO_335001.out)
        replace BK301 := Aside0.mk (blk_drew BK301.out)
        replace BK302 := Aside0.mk (blk_drew BK302.out)
        replace BK326 := Aside0.mk (blk_drew BK326.out)
        replace BK334 := Aside0.mk (blk_drew BK334.out)
        replace HB := Aside0.mk (below_drew1 HB.out)
        refine start_ (n := 5) (S := fun w' => w'.cell? ⟨gb326, 0, none⟩ = some (.int .i64 t321) ∧ w'.cell? ⟨gb326, 1, none⟩ = some (.int .i64 t322) ∧ w'.cell? ⟨gb326, 2, none⟩ = some (.slice Ao46 t323.length co46) ∧ w'.cell? ⟨gb301, 0, none⟩ = some (.int .i64 a0_0) ∧ w'.cell? ⟨gb301, 1, none⟩ = some (.int .i64 a0_1) ∧ w'.cell? ⟨gb301, 2, none⟩ = some (.slice A0_2 l0_2.length c0_2)) (ds := []) #[false, false, false, false, false] (by kernel_rfl) rfl rfl ⟨cz BK326 0 _, cz BK326 1 _, cz BK326 2 _, cz BK301 0 _, cz BK301 1 _, cz BK301 2 _⟩ (fun hHeld => ?_)
        generalize wc.drew = w135 at HO_6 HO_10 HO_327002 HO_335000 HO_335001 BK301 BK302 BK326 BK334 HB hHeld ⊢
        refine take_ (i := 0) (N := some 54) (v := ?_) (a' := ?_) (bz 5 1) rfl rfl (by kernel_rfl) (fun _ _ _ h => h) (Or.inl ⟨by rfl, ?_⟩) hHeld ?_ ?_
        rotate_left
        ·rintro w' ⟨s0, s1, s2, s3, s4, s5⟩
         go_simp
         with_reducible rfl
        rotate_left
        ·simp only [Act.put, List.setIfInBounds_toArray, List.set_cons_zero, List.set_cons_succ, i64_w, i32_w]
         rfl
        refine take_ (i := 1) (N := some 55) (v := ?_) (a' := ?_) (bz 5 3) rfl rfl (by kernel_rfl) (fun _ _ _ h => h) (Or.inl ⟨by rfl, ?_⟩) hHeld ?_ ?_
        rotate_left
        ·rintro w' ⟨s0, s1, s2, s3, s4, s5⟩
         go_simp
         with_reducible rfl
        rotate_left
        ·simp only [Act.put, List.setIfInBounds_toArray, List.set_cons_zero, List.set_cons_succ, i64_w, i32_w]
         rfl
        refine one_ (i := 2) (N := some 56) (bz 5 7) rfl rfl (by kernel_rfl) (by decide) (fun K hK => ?_)
        refine goes_ Try.func22 (by kernel_rfl) rfl #[.agg #[.int .i64 a0_0, .int .i64 a0_1, .slice A0_2 l0_2.length c0_2]] (by rfl) rfl rfl aE ?_
        with_reducible refine (laws_toWorld.calls kj24 a0_0 a0_1 _ _ l0_2 t340 t341 t342 _ ?side1 ?side2 A68.out).mono ?_
        (case side1 => exact cU (Kd.C_below HR0_2.out HB.out))
        (case side2 => exact HC0_2.out)
        rintro e w136 ⟨v343, rfl, ho0, hb⟩
        refine ⟨_, rfl, ?_⟩
        replace HO_6 := Aside0.mk (Kd.R_below (rU HO_6.out) hb)
        replace HO_10 := Aside0.mk (Kd.R_below (rU HO_10.out) hb)
        replace HO_335000 := Aside0.mk (Kd.R_below (rU HO_335000.out) hb)
        replace HO_335001 := Aside0.mk (Kd.R_below (rU HO_335001.out) hb)
        have HO344 := Aside0.mk (Kd.S_lower (Kd.S_new' ho0 (Kd.S_lt (by (with_reducible repeat (first | apply Kd.S_alloc | apply Kd.S_drewN | apply Kd.S_drew)); exact HO_327002.out))) (below_size (lV4 GE301 GE302 GE326 GE334)))
        replace HO_327002 := Aside0.mk (Kd.S_elder' (by (with_reducible repeat (first | apply Kd.S_alloc | apply Kd.S_drewN | apply Kd.S_drew)); exact HO_327002.out) (Kd.S_base ho0) hb)
        replace BK301 := bB (bV BK301) hb
        replace BK302 := bB (bV BK302) hb
        replace BK326 := bB (bV BK326) hb
        replace BK334 := bB (bV BK334) hb
        replace HB := bH (lV4 GE301 GE302 GE326 GE334) hb
        (try clear hb)
        (try clear hb2)
        (try clear hk)
        (try clear hi)
        (try clear ho0)
        obtain ⟨Ao137, co137, eo137⟩ := Kd.S_slice HO344.out
        (first | subst eo137 | (injection eo137 with f1_ f2_ f3_; have f4_ := f1_.symm; have f5_ := f3_.symm; clear f1_ f2_ f3_; subst f4_; subst f5_))
        refine hK.out _ _ ⟨cz BK326 0 _, cz BK326 1 _, cz BK326 2 _, cz BK301 0 _, cz BK301 1 _, cz BK301 2 _⟩ (fun hHeld => ?_)
        clear hK K
        refine norm_ (a' := ?_) ?_ ?_
        rotate_left
        ·show Act.put _ (some 56) _ = _
         simp only [Act.put, List.setIfInBounds_toArray, List.set_cons_zero, List.set_cons_succ, i64_w, i32_w]
         rfl
        refine one_ (i := 3) (N := some 57) (bz 5 15) rfl rfl (by kernel_rfl) (by decide) (fun K hK => ?_)
        refine goes_ Try.func26 (by kernel_rfl) rfl #[.agg #[.int .i64 t321, .int .i64 t322, .slice Ao46 t323.length co46], .agg #[.int .i64 t340, .int .i64 t341, .slice Ao137 t342.length co137]] (by rfl) rfl rfl aE ?_
        with_reducible refine (laws_eqWorld.calls kj24 t321 t322 _ _ t323 t340 t341 _ _ t342 true _ ?side1 ?side2 ?side3 ?side4 A69.out).mono ?_
        (case side1 => exact cU (Kd.S_reads' HO_327002.out).2.2)
        (case side2 => exact (Kd.S_reads' HO_327002.out).2.1)
        (case side3 => exact cU (Kd.S_reads' HO344.out).2.2)
        (case side4 => exact (Kd.S_reads' HO344.out).2.1)
        rintro e w138 ⟨rfl, hb⟩
        refine ⟨_, rfl, ?_⟩
        replace HO_6 := Aside0.mk (Kd.R_below (rU HO_6.out) hb)
        replace HO_10 := Aside0.mk (Kd.R_below (rU HO_10.out) hb)
        replace HO_327002 := Aside0.mk (Kd.S_below (by (with_reducible repeat (first | apply Kd.S_alloc | apply Kd.S_drewN | apply Kd.S_drew)); exact HO_327002.out) hb)
        replace HO_335000 := Aside0.mk (Kd.R_below (rU HO_335000.out) hb)
        replace HO_335001 := Aside0.mk (Kd.R_below (rU HO_335001.out) hb)
        replace HO344 := Aside0.mk (Kd.S_below (by (with_reducible repeat (first | apply Kd.S_alloc | apply Kd.S_drewN | apply Kd.S_drew)); exact HO344.out) hb)
        replace BK301 := bB (bV BK301) hb
        replace BK302 := bB (bV BK302) hb
        replace BK326 := bB (bV BK326) hb
        replace BK334 := bB (bV BK334) hb
        replace HB := bH (lV4 GE301 GE302 GE326 GE334) hb
        (try clear hb)
        (try clear hb2)
        (try clear hk)
        (try clear hi)
        refine hK.out _ _ ⟨cz BK326 0 _, cz BK326 1 _, cz BK326 2 _, cz BK301 0 _, cz BK301 1 _, cz BK301 2 _⟩ (fun hHeld => ?_)
        clear hK K
        refine norm_ (a' := ?_) ?_ ?_
        rotate_left
        ·show Act.put _ (some 57) _ = _
         simp only [Act.put, List.setIfInBounds_toArray, List.set_cons_zero, List.set_cons_succ, i64_w, i32_w]
         rfl
        refine pure_ (i := 4) (N := some 58) (v := ?_) (a' := ?_) (bz 5 31) rfl rfl (by kernel_rfl) (fun _ _ _ h => h) (Or.inl ⟨by rfl, ?_⟩) ?_ ?_
        rotate_left
        ·intro w'
         go_simp
         with_reducible rfl
        rotate_left
        ·simp only [Act.put, List.setIfInBounds_toArray, List.set_cons_zero, List.set_cons_succ, i64_w, i32_w]
         rfl
        refine done_ (by kernel_rfl) ?_
        try go_wp2
        replace HO_6 := Aside0.mk (Kd.R_drew HO_6.out)
        replace HO_10 := Aside0.mk (Kd.R_drew HO_10.out)
        replace HO_327002 := Aside0.mk (Kd.S_drew HO_327002.out)
        replace HO_335000 := Aside0.mk (Kd.R_drew HO_335000.out)
        replace HO_335001 := Aside0.mk (Kd.R_drew HO_335001.out)
        replace HO344 := Aside0.mk (Kd.S_drew HO344.out)
        replace BK301 := Aside0.mk (blk_drew BK301.out)
        replace BK302 := Aside0.mk (blk_drew BK302.out)
        replace BK326 := Aside0.mk (blk_drew BK326.out)
        replace BK334 := Aside0.mk (blk_drew BK334.out)
        replace HB := Aside0.mk (below_drew1 HB.out)
        refine start_ (n := 5) (S := fun w' => w'.cell? ⟨gb334, 0, none⟩ = some (.slice Ao51 t327.length co51) ∧ w'.cell? ⟨gb334, 1, none⟩ = some (.slice Ao56 t330.length co56) ∧ w'.cell? ⟨gb334, 2, none⟩ = some (.int .i64 t333) ∧ w'.cell? ⟨gb302, 0, none⟩ = some (.slice A1_0 l1_0.length c1_0) ∧ w'.cell? ⟨gb302, 1, none⟩ = some (.slice A1_1 l1_1.length c1_1) ∧ w'.cell? ⟨gb302, 2, none⟩ = some (.int .i64 a1_2)) (ds := []) #[false, false, false, false, false] (by kernel_rfl) rfl rfl ⟨cz BK334 0 _, cz BK334 1 _, cz BK334 2 _, cz BK302 0 _, cz BK302 1 _, cz BK302 2 _⟩ (fun hHeld => ?_)
        generalize w138.drew = w139 at HO_6 HO_10 HO_327002 HO_335000 HO_335001 HO344 BK301 BK302 BK326 BK334 HB hHeld ⊢
        refine take_ (i := 0) (N := some 59) (v := ?_) (a' := ?_) (bz 5 1) rfl rfl (by kernel_rfl) (fun _ _ _ h => h) (Or.inl ⟨by rfl, ?_⟩) hHeld ?_ ?_
        rotate_left
        ·rintro w' ⟨s0, s1, s2, s3, s4, s5⟩
         go_simp
         with_reducible rfl
        rotate_left
        ·simp only [Act.put, List.setIfInBounds_toArray, List.set_cons_zero, List.set_cons_succ, i64_w, i32_w]
         rfl
        refine take_ (i := 1) (N := some 60) (v := ?_) (a' := ?_) (bz 5 3) rfl rfl (by kernel_rfl) (fun _ _ _ h => h) (Or.inl ⟨by rfl, ?_⟩) hHeld ?_ ?_
        rotate_left
        ·rintro w' ⟨s0, s1, s2, s3, s4, s5⟩
         go_simp
         with_reducible rfl
        rotate_left
        ·simp only [Act.put, List.setIfInBounds_toArray, List.set_cons_zero, List.set_cons_succ, i64_w, i32_w]
         rfl
        refine one_ (i := 2) (N := some 61) (bz 5 7) rfl rfl (by kernel_rfl) (by decide) (fun K hK => ?_)
        refine goes_ Try.func23 (by kernel_rfl) rfl #[.agg #[.slice A1_0 l1_0.length c1_0, .slice A1_1 l1_1.length c1_1, .int .i64 a1_2]] (by rfl) rfl rfl aE ?_
        with_reducible refine (laws_toQuery.calls kj24 _ _ l1_0 _ _ l1_1 a1_2 t346 t349 t352 _ ?side1 ?side2 ?side3 ?side4 A71.out).mono ?_
        (case side1 => exact cU (Kd.C_below HR1_0.out HB.out))
        (case side2 => exact HC1_0.out)
        (case side3 => exact cU (Kd.C_below HR1_1.out HB.out))
        (case side4 => exact HC1_1.out)
        rintro e w140 ⟨v347, v350, rfl, ho0, ho1, hb⟩
        refine ⟨_, rfl, ?_⟩
        replace HO_6 := Aside0.mk (Kd.R_below (rU HO_6.out) hb)
        replace HO_10 := Aside0.mk (Kd.R_below (rU HO_10.out) hb)
        replace HO_327002 := Aside0.mk (Kd.S_below (by (with_reducible repeat (first | apply Kd.S_alloc | apply Kd.S_drewN | apply Kd.S_drew)); exact HO_327002.out) hb)
        replace HO344 := Aside0.mk (Kd.S_below (by (with_reducible repeat (first | apply Kd.S_alloc | apply Kd.S_drewN | apply Kd.S_drew)); exact HO344.out) hb)
        have HO348 := Aside0.mk (Kd.R_lower (Kd.R_new' (Kd.R_new' ho0 (Kd.R_lt (rU HO_335000.out))) (Kd.R_lt (rU HO_335001.out))) (below_size (lV4 GE301 GE302 GE326 GE334)))
        have HO351 := Aside0.mk (Kd.R_lower (Kd.R_new' (Kd.R_new' ho1 (Kd.R_lt (rU HO_335000.out))) (Kd.R_lt (rU HO_335001.out))) (below_size (lV4 GE301 GE302 GE326 GE334)))
        replace HO_335000 := Aside0.mk (Kd.R_mono (Kd.R_told (Kd.R_told (Kd.R_old (rU HO_335000.out) hb) (Kd.R_base ho0)) (Kd.R_base ho1)) (fun _ h_ => h_.1))
        replace HO_335001 := Aside0.mk (Kd.R_mono (Kd.R_told (Kd.R_told (Kd.R_old (rU HO_335001.out) hb) (Kd.R_base ho0)) (Kd.R_base ho1)) (fun _ h_ => h_.1))
        replace BK301 := bB (bV BK301) hb
        replace BK302 := bB (bV BK302) hb
        replace BK326 := bB (bV BK326) hb
        replace BK334 := bB (bV BK334) hb
        replace HB := bH (lV4 GE301 GE302 GE326 GE334) hb
        (try clear hb)
        (try clear hb2)
        (try clear hk)
        (try clear hi)
        (try clear ho0)
        (try clear ho1)
        obtain ⟨Ao141, co141, eo141⟩ := Kd.R_slice HO348.out
        (first | subst eo141 | (injection eo141 with f1_ f2_ f3_; have f4_ := f1_.symm; have f5_ := f3_.symm; clear f1_ f2_ f3_; subst f4_; subst f5_))
        obtain ⟨Ao142, co142, eo142⟩ := Kd.R_slice HO351.out
        (first | subst eo142 | (injection eo142 with f1_ f2_ f3_; have f4_ := f1_.symm; have f5_ := f3_.symm; clear f1_ f2_ f3_; subst f4_; subst f5_))
        refine hK.out _ _ ⟨cz BK334 0 _, cz BK334 1 _, cz BK334 2 _, cz BK302 0 _, cz BK302 1 _, cz BK302 2 _⟩ (fun hHeld => ?_)
        clear hK K
        refine norm_ (a' := ?_) ?_ ?_
        rotate_left
        ·show Act.put _ (some 61) _ = _
         simp only [Act.put, List.setIfInBounds_toArray, List.set_cons_zero, List.set_cons_succ, i64_w, i32_w]
         rfl
        refine one_ (i := 3) (N := some 62) (bz 5 15) rfl rfl (by kernel_rfl) (by decide) (fun K hK => ?_)
        refine goes_ Try.func27 (by kernel_rfl) rfl #[.agg #[.slice Ao51 t327.length co51, .slice Ao56 t330.length co56, .int .i64 t333], .agg #[.slice Ao141 t346.length co141, .slice Ao142 t349.length co142, .int .i64 t352]] (by rfl) rfl rfl aE ?_
        with_reducible refine (laws_eqQuery.calls kj24 _ _ t327 _ _ t330 t333 _ _ t346 _ _ t349 t352 false _ ?side1 ?side2 ?side3 ?side4 ?side5 ?side6 ?side7 ?side8 A72.out).mono ?_
        (case side1 => exact cU (Kd.R_reads' HO_335000.out).2.2)
        (case side2 => exact (Kd.R_reads' HO_335000.out).2.1)
        (case side3 => exact cU (Kd.R_reads' HO_335001.out).2.2)
        (case side4 => exact (Kd.R_reads' HO_335001.out).2.1)
        (case side5 => exact cU (Kd.R_reads' HO348.out).2.2)
        (case side6 => exact (Kd.R_reads' HO348.out).2.1)
        (case side7 => exact cU (Kd.R_reads' HO351.out).2.2)
        (case side8 => exact (Kd.R_reads' HO351.out).2.1)
        rintro e w143 ⟨rfl, hb⟩
        refine ⟨_, rfl, ?_⟩
        replace HO_6 := Aside0.mk (Kd.R_below (rU HO_6.out) hb)
        replace HO_10 := Aside0.mk (Kd.R_below (rU HO_10.out) hb)
        replace HO_327002 := Aside0.mk (Kd.S_below (by (with_reducible repeat (first | apply Kd.S_alloc | apply Kd.S_drewN | apply Kd.S_drew)); exact HO_327002.out) hb)
        replace HO_335000 := Aside0.mk (Kd.R_below (rU HO_335000.out) hb)
        replace HO_335001 := Aside0.mk (Kd.R_below (rU HO_335001.out) hb)
        replace HO344 := Aside0.mk (Kd.S_below (by (with_reducible repeat (first | apply Kd.S_alloc | apply Kd.S_drewN | apply Kd.S_drew)); exact HO344.out) hb)
        replace HO348 := Aside0.mk (Kd.R_below (rU HO348.out) hb)
        replace HO351 := Aside0.mk (Kd.R_below (rU HO351.out) hb)
        replace BK301 := bB (bV BK301) hb
        replace BK302 := bB (bV BK302) hb
        replace BK326 := bB (bV BK326) hb
        replace BK334 := bB (bV BK334) hb
        replace HB := bH (lV4 GE301 GE302 GE326 GE334) hb
        (try clear hb)
        (try clear hb2)
        (try clear hk)
        (try clear hi)
        refine hK.out _ _ ⟨cz BK334 0 _, cz BK334 1 _, cz BK334 2 _, cz BK302 0 _, cz BK302 1 _, cz BK302 2 _⟩ (fun hHeld => ?_)
        clear hK K
        refine norm_ (a' := ?_) ?_ ?_
        rotate_left
        ·show Act.put _ (some 62) _ = _
         simp only [Act.put, List.setIfInBounds_toArray, List.set_cons_zero, List.set_cons_succ, i64_w, i32_w]
         rfl
        refine pure_ (i := 4) (N := some 63) (v := ?_) (a' := ?_) (bz 5 31) rfl rfl (by kernel_rfl) (fun _ _ _ h => h) (Or.inl ⟨by rfl, ?_⟩) ?_ ?_
        rotate_left
        ·intro w'
         go_simp
         with_reducible rfl
        rotate_left
        ·simp only [Act.put, List.setIfInBounds_toArray, List.set_cons_zero, List.set_cons_succ, i64_w, i32_w]
         rfl
        refine done_ (by kernel_rfl) ?_
        try go_wp2
        go_ret
        exact ⟨eE, lV4 GE301 GE302 GE326 GE334⟩
      ·replace c70 := Bool.eq_false_iff.mpr c70
       subst c70
       have H1 : (some false) = some r := by rw [if_neg (show ¬ (false = true) by decide)] at H; exact H
       clear H
       have H := H1
       clear H1
       obtain rfl := Option.some.inj H
       try go_wp2
       replace HO_6 := Aside0.mk (Kd.R_drew HO_6.out)
       replace HO_10 := Aside0.mk (Kd.R_drew HO_10.out)
       replace HO_327002 := Aside0.mk (Kd.S_drew HO_327002.out)
       replace HO_335000 := Aside0.mk (Kd.R_drew HO_335000.out)
       replace HO_335001 := Aside0.mk (Kd.R_drew HO_335001.out)
       replace BK301 := Aside0.mk (blk_drew BK301.out)
       replace BK302 := Aside0.mk (blk_drew BK302.out)
       replace BK326 := Aside0.mk (blk_drew BK326.out)
       replace BK334 := Aside0.mk (blk_drew BK334.out)
       replace HB := Aside0.mk (below_drew1 HB.out)
       refine start_ (n := 5) (S := fun w' => w'.cell? ⟨gb326, 0, none⟩ = some (.int .i64 t321) ∧ w'.cell? ⟨gb326, 1, none⟩ = some (.int .i64 t322) ∧ w'.cell? ⟨gb326, 2, none⟩ = some (.slice Ao46 t323.length co46) ∧ w'.cell? ⟨gb301, 0, none⟩ = some (.int .i64 a0_0) ∧ w'.cell? ⟨gb301, 1, none⟩ = some (.int .i64 a0_1) ∧ w'.cell? ⟨gb301, 2, none⟩ = some (.slice A0_2 l0_2.length c0_2)) (ds := []) #[false, false, false, false, false] (by kernel_rfl) rfl rfl ⟨cz BK326 0 _, cz BK326 1 _, cz BK326 2 _, cz BK301 0 _, cz BK301 1 _, cz BK301 2 _⟩ (fun hHeld => ?_)
       generalize wc.drew = w144 at HO_6 HO_10 HO_327002 HO_335000 HO_335001 BK301 BK302 BK326 BK334 HB hHeld ⊢
       refine take_ (i := 0) (N := some 54) (v := ?_) (a' := ?_) (bz 5 1) rfl rfl (by kernel_rfl) (fun _ _ _ h => h) (Or.inl ⟨by rfl, ?_⟩) hHeld ?_ ?_
       rotate_left
       ·rintro w' ⟨s0, s1, s2, s3, s4, s5⟩
        go_simp
        with_reducible rfl
       rotate_left
       ·simp only [Act.put, List.setIfInBounds_toArray, List.set_cons_zero, List.set_cons_succ, i64_w, i32_w]
        rfl
       refine take_ (i := 1) (N := some 55) (v := ?_) (a' := ?_) (bz 5 3) rfl rfl (by kernel_rfl) (fun _ _ _ h => h) (Or.inl ⟨by rfl, ?_⟩) hHeld ?_ ?_
       rotate_left
       ·rintro w' ⟨s0, s1, s2, s3, s4, s5⟩
        go_simp
        with_reducible rfl
       rotate_left
       ·simp only [Act.put, List.setIfInBounds_toArray, List.set_cons_zero, List.set_cons_succ, i64_w, i32_w]
        rfl
       refine one_ (i := 2) (N := some 56) (bz 5 7) rfl rfl (by kernel_rfl) (by decide) (fun K hK => ?_)
       refine goes_ Try.func22 (by kernel_rfl) rfl #[.agg #[.int .i64 a0_0, .int .i64 a0_1, .slice A0_2 l0_2.length c0_2]] (by rfl) rfl rfl aE ?_
       with_reducible refine (laws_toWorld.calls kj24 a0_0 a0_1 _ _ l0_2 t340 t341 t342 _ ?side1 ?side2 A68.out).mono ?_
       (case side1 => exact cU (Kd.C_below HR0_2.out HB.out))
       (case side2 => exact HC0_2.out)
       rintro e w145 ⟨v343, rfl, ho0, hb⟩
       refine ⟨_, rfl, ?_⟩
       replace HO_6 := Aside0.mk (Kd.R_below (rU HO_6.out) hb)
       replace HO_10 := Aside0.mk (Kd.R_below (rU HO_10.out) hb)
       replace HO_335000 := Aside0.mk (Kd.R_below (rU HO_335000.out) hb)
       replace HO_335001 := Aside0.mk (Kd.R_below (rU HO_335001.out) hb)
       have HO344 := Aside0.mk (Kd.S_lower (Kd.S_new' ho0 (Kd.S_lt (by (with_reducible repeat (first | apply Kd.S_alloc | apply Kd.S_drewN | apply Kd.S_drew)); exact HO_327002.out))) (below_size (lV4 GE301 GE302 GE326 GE334)))
       replace HO_327002 := Aside0.mk (Kd.S_elder' (by (with_reducible repeat (first | apply Kd.S_alloc | apply Kd.S_drewN | apply Kd.S_drew)); exact HO_327002.out) (Kd.S_base ho0) hb)
       replace BK301 := bB (bV BK301) hb
       replace BK302 := bB (bV BK302) hb
       replace BK326 := bB (bV BK326) hb
       replace BK334 := bB (bV BK334) hb
       replace HB := bH (lV4 GE301 GE302 GE326 GE334) hb
       (try clear hb)
       (try clear hb2)
       (try clear hk)
       (try clear hi)
       (try clear ho0)
       obtain ⟨Ao146, co146, eo146⟩ := Kd.S_slice HO344.out
       (first | subst eo146 | (injection eo146 with f1_ f2_ f3_; have f4_ := f1_.symm; have f5_ := f3_.symm; clear f1_ f2_ f3_; subst f4_; subst f5_))
       refine hK.out _ _ ⟨cz BK326 0 _, cz BK326 1 _, cz BK326 2 _, cz BK301 0 _, cz BK301 1 _, cz BK301 2 _⟩ (fun hHeld => ?_)
       clear hK K
       refine norm_ (a' := ?_) ?_ ?_
       rotate_left
       ·show Act.put _ (some 56) _ = _
        simp only [Act.put, List.setIfInBounds_toArray, List.set_cons_zero, List.set_cons_succ, i64_w, i32_w]
        rfl
       refine one_ (i := 3) (N := some 57) (bz 5 15) rfl rfl (by kernel_rfl) (by decide) (fun K hK => ?_)
       refine goes_ Try.func26 (by kernel_rfl) rfl #[.agg #[.int .i64 t321, .int .i64 t322, .slice Ao46 t323.length co46], .agg #[.int .i64 t340, .int .i64 t341, .slice Ao146 t342.length co146]] (by rfl) rfl rfl aE ?_
       with_reducible refine (laws_eqWorld.calls kj24 t321 t322 _ _ t323 t340 t341 _ _ t342 false _ ?side1 ?side2 ?side3 ?side4 A69.out).mono ?_
       (case side1 => exact cU (Kd.S_reads' HO_327002.out).2.2)
       (case side2 => exact (Kd.S_reads' HO_327002.out).2.1)
       (case side3 => exact cU (Kd.S_reads' HO344.out).2.2)
       (case side4 => exact (Kd.S_reads' HO344.out).2.1)
       rintro e w147 ⟨rfl, hb⟩
       refine ⟨_, rfl, ?_⟩
       replace HO_6 := Aside0.mk (Kd.R_below (rU HO_6.out) hb)
       replace HO_10 := Aside0.mk (Kd.R_below (rU HO_10.out) hb)
       replace HO_327002 := Aside0.mk (Kd.S_below (by (with_reducible repeat (first | apply Kd.S_alloc | apply Kd.S_drewN | apply Kd.S_drew)); exact HO_327002.out) hb)
       replace HO_335000 := Aside0.mk (Kd.R_below (rU HO_335000.out) hb)
       replace HO_335001 := Aside0.mk (Kd.R_below (rU HO_335001.out) hb)
       replace HO344 := Aside0.mk (Kd.S_below (by (with_reducible repeat (first | apply Kd.S_alloc | apply Kd.S_drewN | apply Kd.S_drew)); exact HO344.out) hb)
       replace BK301 := bB (bV BK301) hb
       replace BK302 := bB (bV BK302) hb
       replace BK326 := bB (bV BK326) hb
       replace BK334 := bB (bV BK334) hb
       replace HB := bH (lV4 GE301 GE302 GE326 GE334) hb
       (try clear hb)
       (try clear hb2)
       (try clear hk)
       (try clear hi)
       refine hK.out _ _ ⟨cz BK326 0 _, cz BK326 1 _, cz BK326 2 _, cz BK301 0 _, cz BK301 1 _, cz BK301 2 _⟩ (fun hHeld => ?_)
       clear hK K
       refine norm_ (a' := ?_) ?_ ?_
       rotate_left
       ·show Act.put _ (some 57) _ = _
        simp only [Act.put, List.setIfInBounds_toArray, List.set_cons_zero, List.set_cons_succ, i64_w, i32_w]
        rfl
       refine pure_ (i := 4) (N := some 58) (v := ?_) (a' := ?_) (bz 5 31) rfl rfl (by kernel_rfl) (fun _ _ _ h => h) (Or.inl ⟨by rfl, ?_⟩) ?_ ?_
       rotate_left
       ·intro w'
        go_simp
        with_reducible rfl
       rotate_left
       ·simp only [Act.put, List.setIfInBounds_toArray, List.set_cons_zero, List.set_cons_succ, i64_w, i32_w]
        rfl
       refine done_ (by kernel_rfl) ?_
       try go_wp2
       go_ret
       exact ⟨eE, lV4 GE301 GE302 GE326 GE334⟩
end Go.Proofs.Ytcpodjegdpbalaa.PFnExactQueryWorld
namespace Go.Proofs.YtcpodjegdpbalaaO
open Go.ChangeShapes Go.WideShapes Go.Proofs.YtcpodjegdpbalaaW.PrintWords Go.RowKit
def In64 (n : Int) : Prop := -9223372036854775808 ≤ n ∧ n ≤ 9223372036854775807
def Opens {α : Type} (P : Program) (t : TypeId) (d : Kd α) (g : α → Prop) : Prop :=
  ∀ {H : Type} (enc : TypeId × Value → H) (w : World) (fuel : Nat) (cs : List Value) (y : DataW H) (ps : List MemPlace),
    DataW.trod enc P w 0 (fun _ => true) true fuel t cs = some (y, ps) → (∀ n ∈ y.weights P t, n ≤ reachBytes) → ∃ x, d.K w x cs ∧ g x
theorem Opens.imp {α : Type} {P : Program} {t : TypeId} {d : Kd α} {g g' : α → Prop} (h : Opens P t d g) (k : ∀ x, g x → g' x) : Opens P t d g' := by
  intro H enc w fuel cs y ps ht hw
  obtain ⟨x, hx, hg⟩ := h enc w fuel cs y ps ht hw
  exact ⟨x, hx, k x hg⟩
theorem opens_int {P : Program} {t : TypeId} {k : IntKind} (ht : P.underlying t = some (.int k)) : Opens P t (Kd.int k) (fun n => (Lit.int k n).wf = true) := by
  intro H enc w fuel cs y ps h _
  obtain ⟨n, rfl, _, hw⟩ := DataW.trod_int ht h
  exact ⟨n, rfl, hw⟩
theorem wf_i64 {n : Int} (h : (Lit.int .i64 n).wf = true) : In64 n := bounds_i64 h
theorem opens_i64 {P : Program} {t : TypeId} (ht : P.underlying t = some (.int .i64)) : Opens P t (Kd.int .i64) In64 := Opens.imp (opens_int ht) fun _ h => wf_i64 h
theorem opens_string {P : Program} {t : TypeId} (ht : P.underlying t = some .string) : Opens P t Kd.string (fun s => s.size ≤ 140737488351232) := by
  intro H enc w fuel cs y ps h hw
  obtain ⟨s, rfl, hx, _⟩ := DataW.trod_string ht h
  obtain ⟨rfl, _⟩ := Prod.mk.inj hx
  refine ⟨s, rfl, ?_⟩
  have := hw s.data.toList.length (by simp [DataW.weights])
  rw [Array.length_toList] at this
  exact this
theorem exists_list {α : Type} (p : Nat → α → Prop) : ∀ n : Nat, (∀ i, i < n → ∃ x, p i x) → ∃ xs : List α, xs.length = n ∧ ∀ i x, xs[i]? = some x → p i x
  | 0, _ => ⟨[], rfl, fun i x h => by simp at h⟩
  | n + 1, h => by
    obtain ⟨xs, hl, hx⟩ := exists_list p n (fun i hi => h i (by omega))
    obtain ⟨x, hp⟩ := h n (by omega)
    refine ⟨xs ++ [x], by simp [hl], fun i y hy => ?_⟩
    rcases Nat.lt_or_ge i xs.length with hi | hi
    · rw [List.getElem?_append_left hi] at hy
      exact hx i y hy
    · have : i = n := by
        have := (List.getElem?_eq_some_iff.1 hy).1
        rw [List.length_append, List.length_singleton] at this
        omega
      subst this
      rw [List.getElem?_append_right hi] at hy
      rw [hl] at hy
      simp at hy
      subst hy
      exact hp
theorem add_add (ad : Addr) (i j : Nat) : (ad.add i).add j = ad.add (i + j) := by
  unfold Addr.add
  by_cases h1 : i = 0 <;> by_cases h2 : j = 0 <;> simp [h1, h2, Nat.add_assoc]
theorem weightsAll_mem {H : Type} {P : Program} {e : TypeId} : ∀ {l : List (DataW H)} {d : DataW H}, d ∈ l → ∀ n ∈ d.weights P e, n ∈ DataW.weightsAll P e l
  | [], d, h, _, _ => by simp at h
  | x :: r, d, h, n, hn => by
    simp only [DataW.weightsAll, List.mem_append]
    rcases List.mem_cons.1 h with rfl | h
    · exact .inl hn
    · exact .inr (weightsAll_mem h n hn)
theorem opens_slice {α : Type} {P : Program} {t e : TypeId} {d : Kd α} {g : α → Prop} {B : Nat} (ht : P.underlying t = some (.slice e)) (hs : P.cellsOf e = d.sz) (hB : P.bytesOf e = B) (h : Opens P e d g) :
    Opens P t (Kd.slice e d) (fun xs => xs.length * B ≤ 140737488351232 ∧ ∀ x ∈ xs, g x) := by
  intro H enc w fuel cs y ps hy hw
  rcases DataW.trod_slice ht hy with ⟨rfl, _⟩ | ⟨a, len, cap, elems, rest, n, rfl, rfl, hx, _, hlc, hcm, hel, hget, _, _⟩
  · exact ⟨[], ⟨none, 0, rfl, Nat.le_refl _, Kd.C_nil d w⟩, by simp⟩
  · obtain ⟨rfl, _⟩ := Prod.mk.inj hx
    simp only [DataW.weights, ht] at hw
    have hlen : len * B ≤ 140737488351232 := by
      have := hw _ List.mem_cons_self
      simp only [List.length_map, hB] at this
      have h2 : len * B ≤ (elems.length + rest.length) * B := Nat.mul_le_mul_right _ (by omega)
      exact Nat.le_trans h2 this
    have key : ∀ i, i < len → ∃ x, (∃ c, c.length = d.sz ∧ d.K w x c ∧ ∀ j u, c[j]? = some u → w.cell? (a.add (i * d.sz + j)) = some u) ∧ g x := by
      intro i hi
      have hg := hget i hi
      rw [List.getElem?_eq_getElem (by omega), Option.bind_eq_some_iff] at hg
      obtain ⟨c, hc, hd⟩ := hg
      obtain ⟨_, hcl, hcell⟩ := World.cells?_some hc
      obtain ⟨x, hK, hgx⟩ := h enc w n c _ _ hd (fun m hm => hw m (List.mem_cons_of_mem _ (List.mem_append_left _ (weightsAll_mem (List.mem_map_of_mem (List.getElem_mem _)) m hm))))
      refine ⟨x, ⟨c, hcl.trans hs, hK, fun j u hj => ?_⟩, hgx⟩
      have hjl : j < P.cellsOf e := by
        have := (List.getElem?_eq_some_iff.1 hj).1
        omega
      have := hcell j hjl
      rw [add_add, hj, hs] at this
      exact this
    obtain ⟨xs, hxl, hxs⟩ := exists_list _ len key
    refine ⟨xs, ⟨some a, cap, by rw [hxl], by omega, hxl ▸ ⟨hxl, by simp only [maxLen] at hcm; omega, fun _ => ⟨a, rfl, fun j p hp => (hxs j p hp).1⟩⟩⟩, by rw [hxl]; exact hlen, fun x hx => ?_⟩
    obtain ⟨i, hi, rfl⟩ := List.getElem_of_mem hx
    exact (hxs i _ (List.getElem?_eq_getElem hi)).2
theorem opens_iso {α β : Type} {P : Program} {t : TypeId} {d : Kd α} {g : α → Prop} (f : β → α) (inv : α → β) (hi : ∀ x, f (inv x) = x) (h : Opens P t d g) : Opens P t (Kd.iso d f) (fun x => g (f x)) := by
  intro H enc w fuel cs y ps hy hw
  obtain ⟨x, hK, hg⟩ := h enc w fuel cs y ps hy hw
  refine ⟨inv x, ?_, ?_⟩
  · show d.K w (f (inv x)) cs
    rw [hi]; exact hK
  · show g (f (inv x))
    rw [hi]; exact hg
def OpensL {α : Type} (P : Program) (fs : List Field) (off : Nat) (d : Kd α) (g : α → Prop) : Prop :=
  ∀ {H : Type} (enc : TypeId × Value → H) (w : World) (n : Nat) (cs : List Value) (ys : List (DataW H × List MemPlace)), ys.length = fs.length →
    (∀ (i : Nat) (f : Field), fs[i]? = some f → DataW.trod enc P w 0 (fun _ => true) true n f.type ((cs.drop f.offset).take (P.cellsOf f.type)) = ys[i]?) →
    (∀ m ∈ DataW.weightsEach P (fs.map (·.type)) (ys.map (·.1)), m ≤ reachBytes) → ∃ x, d.K w x ((cs.drop off).take d.sz) ∧ g x
theorem opensL_one {α : Type} {P : Program} {f : Field} {off : Nat} {d : Kd α} {g : α → Prop} (ho : f.offset = off) (hs : P.cellsOf f.type = d.sz) (h : Opens P f.type d g) : OpensL P [f] off d g := by
  intro H enc w n cs ys hl hf hw
  match ys, hl with
  | [y], _ =>
    have h0 := hf 0 f rfl
    rw [ho, hs] at h0
    exact h enc w n _ y.1 y.2 h0 (fun m hm => hw m (by simp only [List.map_cons, DataW.weightsEach, List.mem_append]; exact .inl hm))
theorem opensL_cons {α β : Type} {P : Program} {f : Field} {fs : List Field} {off : Nat} {a : Kd α} {b : Kd β} {ga : α → Prop} {gb : β → Prop} (ho : f.offset = off) (hs : P.cellsOf f.type = a.sz) (h : Opens P f.type a ga) (hr : OpensL P fs (off + a.sz) b gb) :
    OpensL P (f :: fs) off (Kd.pair a b) (fun x => ga x.1 ∧ gb x.2) := by
  intro H enc w n cs ys hl hf hw
  match ys, hl with
  | y :: ys, hl =>
    have h0 := hf 0 f rfl
    rw [ho, hs] at h0
    obtain ⟨x, hx, hgx⟩ := h enc w n _ y.1 y.2 h0 (fun m hm => hw m (by simp only [List.map_cons, DataW.weightsEach, List.mem_append]; exact .inl hm))
    obtain ⟨x', hx', hgx'⟩ := hr enc w n cs ys (by simpa using hl) (fun i f' hf' => by have := hf (i + 1) f' (by simpa using hf'); simpa using this) (fun m hm => hw m (by simp only [List.map_cons, DataW.weightsEach, List.mem_append]; exact .inr hm))
    refine ⟨(x, x'), ⟨_, _, ?_, hx, hx'⟩, hgx, hgx'⟩
    show (cs.drop off).take (a.sz + b.sz) = _
    rw [List.take_add, List.drop_drop]
theorem opens_struct {α : Type} {P : Program} {t : TypeId} {fs : Array Field} {d : Kd α} {g : α → Prop} (ht : P.underlying t = some (.struct fs)) (hs : P.cellsOf t = d.sz) (h : OpensL P fs.toList 0 d g) : Opens P t d g := by
  intro H enc w fuel cs y ps hy hw
  obtain ⟨xs, n, rfl, hx, hl, hxl, hget⟩ := DataW.trod_struct ht hy
  obtain ⟨rfl, _⟩ := Prod.mk.inj hx
  simp only [DataW.weights, ht] at hw
  obtain ⟨x, hK, hg⟩ := h enc w n cs xs (by simpa using hxl) (fun i f hf => hget i f (by simpa using hf)) (by simpa using hw)
  rw [List.drop_zero, List.take_of_length_le (by omega)] at hK
  exact ⟨x, hK, hg⟩
theorem weights_of {H : Type} {P : Program} {ts : List TypeId} {ds : List (DataW H)} {j : Nat} {t : TypeId} {d : DataW H} (hsz : (DataW.weightsEach P ts ds).all (· ≤ reachBytes) = true) (ht : ts[j]? = some t) (hd : ds[j]? = some d) : ∀ n ∈ d.weights P t, n ≤ reachBytes := by
  intro n hn
  have := List.all_eq_true.1 hsz n (DataW.weights_mem_each ht hd n hn)
  simpa using this
theorem open_agg {α H : Type} {enc : TypeId × Value → H} {P : Program} {W : World} {t : TypeId} {d : Kd α} {g : α → Prop} {cs : Array Value} {y : DataW H} {ps : List MemPlace} (h : Opens P t d g)
    (hy : DataW.Trod enc P W 0 (fun _ => true) true t (.agg cs) y ps) (hw : ∀ n ∈ y.weights P t, n ≤ reachBytes) : ∃ x : α, d.K W x cs.toList ∧ g x := by
  obtain ⟨fuel, hf⟩ := hy
  exact h enc W fuel _ y ps (by simpa [Value.cells] using hf) hw
end Go.Proofs.YtcpodjegdpbalaaO
namespace Go.Proofs.Ytcpodjegdpbalaa.OFnExactQueryWorld
open Go.RowKit Go.Proofs.Ytcpodjegdpbalaa.PFnExactQueryWorld Go.Proofs.YtcpodjegdpbalaaW.PrintWords Go.Proofs.YtcpodjegdpbalaaO
def Ok109 (x : S109) : Prop := (x.f0.size ≤ 140737488351232) ∧ (In64 x.f1) ∧ (In64 x.f2)
theorem opens109 : Opens Try.prog 109 k109 Ok109 :=
  Opens.imp (opens_iso _ (fun x => (⟨x.1, x.2.1, x.2.2⟩ : S109)) (fun _ => rfl) (opens_struct Try.underlying109 (by kernel_rfl) (opensL_cons rfl (by kernel_rfl) (opens_string Try.underlying9) (opensL_cons rfl (by kernel_rfl) (opens_i64 Try.underlying3) (opensL_one rfl (by kernel_rfl) (opens_i64 Try.underlying3)))))) fun x h => by
    obtain ⟨h0, h1, h2⟩ := h
    exact ⟨h0, h1, h2⟩
def Ok91 (x : S91) : Prop := (In64 x.f0) ∧ (x.f1.length * 32 ≤ 140737488351232 ∧ ∀ y ∈ x.f1, Ok109 y)
theorem opens91 : Opens Try.prog 91 k91 Ok91 :=
  Opens.imp (opens_iso _ (fun x => (⟨x.1, x.2⟩ : S91)) (fun _ => rfl) (opens_struct Try.underlying91 (by kernel_rfl) (opensL_cons rfl (by kernel_rfl) (opens_i64 Try.underlying3) (opensL_one rfl (by kernel_rfl) (opens_slice Try.underlying89 (by kernel_rfl) (B := 32) (by kernel_rfl) opens109))))) fun x h => by
    obtain ⟨h0, h1⟩ := h
    exact ⟨h0, h1⟩
end Go.Proofs.Ytcpodjegdpbalaa.OFnExactQueryWorld
namespace Go.Proofs.YtcpodjegdpbalaaO
open Go.RowKit Go.Proofs.YtcpodjegdpbalaaW.PrintWords Go.Proofs.YtcpodjegdpbalaaW.PrintLast Go.Proofs.YtcpodjegdpbalaaW.PrintMore
theorem w64 {n : Int} (h : -9223372036854775808 ≤ n) (k : n ≤ 9223372036854775807) : wrap64 n = n := by unfold wrap64; omega
theorem w64s (i : Nat) (h : i < 4611686018427387904) : wrap64 ((i : Int) + 1) = ((i + 1 : Nat) : Int) := by unfold wrap64; omega
theorem ev_eq {α : Type} {x : Option α} {r : α} (h : x = some r) : Ev (fun _ => x) r := ⟨0, fun _ _ => h⟩
theorem ev_some {α : Type} {x r : α} (h : x = r) : Ev (fun _ => some x) r := ⟨0, fun _ _ => by rw [h]⟩
theorem ev_pos {α : Type} {c : Prop} [Decidable c] {f g : Nat → Option α} {r : α} (h : c) (k : Ev f r) : Ev (fun n => if c then f n else g n) r := by
  obtain ⟨K, hK⟩ := k
  exact ⟨K, fun n hn => (if_pos h).trans (hK n hn)⟩
theorem ev_neg {α : Type} {c : Prop} [Decidable c] {f g : Nat → Option α} {r : α} (h : ¬ c) (k : Ev g r) : Ev (fun n => if c then f n else g n) r := by
  obtain ⟨K, hK⟩ := k
  exact ⟨K, fun n hn => (if_neg h).trans (hK n hn)⟩
theorem ev_ite {α : Type} {c : Prop} [Decidable c] {f g : Nat → Option α} {r : α} (h : c → Ev f r) (k : ¬ c → Ev g r) : Ev (fun n => if c then f n else g n) r := by
  by_cases hc : c
  · exact ev_pos hc (h hc)
  · exact ev_neg hc (k hc)
theorem ev_bindc {α β : Type} {x : Option α} {f : Nat → α → Option β} {a : α} {r : β} (h : x = some a) (k : Ev (fun n => f n a) r) : Ev (fun n => x.bind (f n)) r := by
  subst h; exact k
theorem ev_for {σ ρ : Type} (n : Nat) (L : Nat → Nat → σ → Option ρ) (I : Nat → σ → Prop) (Q : ρ → Prop)
    (hend : ∀ s, I n s → ∃ r, Ev (fun k => L k n s) r ∧ Q r)
    (hstep : ∀ i s, i < n → I i s → (∃ r, Ev (fun k => L k i s) r ∧ Q r) ∨ ∃ s', I (i + 1) s' ∧ ∀ r, Ev (fun k => L k (i + 1) s') r → Ev (fun k => L k i s) r) :
    ∀ i s, i ≤ n → I i s → ∃ r, Ev (fun k => L k i s) r ∧ Q r := by
  have key : ∀ d i s, i + d = n → I i s → ∃ r, Ev (fun k => L k i s) r ∧ Q r := by
    intro d
    induction d with
    | zero => intro i s hi h; obtain rfl : i = n := by omega
              exact hend s h
    | succ d ih =>
      intro i s hi h
      rcases hstep i s (by omega) h with h' | ⟨s', hI, hr⟩
      · exact h'
      · obtain ⟨r, hr', hQ⟩ := ih (i + 1) s' (by omega) hI
        exact ⟨r, hr r hr', hQ⟩
  intro i s hi h
  exact key (n - i) i s (by omega) h
theorem ev_for1 {σ ρ : Type} (n : Nat) (L : Nat → Nat → σ → Option ρ) (I : Nat → σ → Prop) (a : ρ)
    (hend : ∀ s, I n s → Ev (fun k => L k n s) a)
    (hstep : ∀ i s, i < n → I i s → Ev (fun k => L k i s) a ∨ ∃ s', I (i + 1) s' ∧ ∀ r, Ev (fun k => L k (i + 1) s') r → Ev (fun k => L k i s) r) :
    ∀ i s, i ≤ n → I i s → Ev (fun k => L k i s) a := by
  intro i s hi h
  obtain ⟨r, hr, rfl⟩ := ev_for n L I (fun r => r = a) (fun s hs => ⟨a, hend s hs, rfl⟩) (fun i s hi hs => (hstep i s hi hs).imp (fun h => ⟨a, h, rfl⟩) id) i s hi h
  exact hr
theorem rd_get {xs : List Int} {i : Nat} (h : i < xs.length) : rd xs (i : Int) = xs[i] := by simp [rd, List.getD_eq_getElem?_getD, h]
theorem rdOf_get {α : Type} {d : α} {xs : List α} {i : Nat} (h : i < xs.length) : rdOf d xs (i : Int) = xs[i] := by simp [rdOf, List.getD_eq_getElem?_getD, h]
theorem getD_get {α : Type} {d : α} {xs : List α} {i : Nat} (h : i < xs.length) : xs.getD (i : Int).toNat d = xs[i] := by simp [List.getD_eq_getElem?_getD, h]
theorem ev_copy {α β : Type} (L : Nat → List α → List β → Int → Option (List β)) (e : Nat → List α → Int → Option β) (g : α → β)
    (hL : ∀ k xs ys i, L (k + 1) xs ys i = if i < (xs.length : Int) then (if 0 ≤ i then (if i < (ys.length : Int) then ((e k xs i).bind fun v => L k xs (ys.set (i : Int).toNat v) (wrap64 (i + 1))) else none) else none) else some ys)
    (xs : List α) (hx : xs.length < 4611686018427387904) (he : ∀ i : Nat, ∀ h : i < xs.length, Ev (fun k => e k xs (i : Int)) (g xs[i])) (ys : List β) (hy : ys.length = xs.length) :
    Ev (fun k => L k xs ys 0) (xs.map g) := by
  refine ev_for1 xs.length (fun k i ys => L k xs ys (i : Int)) (fun i ys => ys.length = xs.length ∧ ∀ j, j < i → ys[j]? = (xs.map g)[j]?) (xs.map g) ?_ ?_ 0 ys (Nat.zero_le _) ⟨hy, fun j hj => by omega⟩
  · intro ys ⟨hl, h⟩
    refine Ev.step (fun k => hL k xs ys _) (ev_neg (by omega) (ev_some ?_))
    apply List.ext_getElem?
    intro j
    rcases Nat.lt_or_ge j xs.length with hj | hj
    · exact h j hj
    · rw [List.getElem?_eq_none (by omega), List.getElem?_eq_none (by simpa using hj)]
  · intro i ys hi ⟨hl, h⟩
    refine .inr ⟨ys.set i (g xs[i]), ⟨by simpa using hl, fun j hj => ?_⟩, fun r hr => ?_⟩
    · rcases Nat.lt_or_ge j i with hji | hji
      · rw [List.getElem?_set_ne (by omega)]
        exact h j hji
      · obtain rfl : j = i := by omega
        rw [List.getElem?_set_self (by omega), List.getElem?_map, List.getElem?_eq_getElem hi]
        rfl
    · refine Ev.step (fun k => hL k xs ys _) (ev_pos (by omega) (ev_pos (by omega) (ev_pos (by omega) (Ev.bind (he i hi) ?_))))
      rw [w64s i (by omega)]
      exact hr
theorem ev_alike {α β : Type} (L : Nat → List α → List β → Int → Option Bool) (e : Nat → List α → List β → Int → Option Bool) (g : α → β → Bool)
    (hL : ∀ k xs ys i, L (k + 1) xs ys i = if i < (xs.length : Int) then (if 0 ≤ i then (if i < (ys.length : Int) then ((e k xs ys i).bind fun v => if v = true then L k xs ys (wrap64 (i + 1)) else some false) else none) else none) else some true)
    (xs : List α) (ys : List β) (hx : xs.length < 4611686018427387904) (hy : ys.length = xs.length) (he : ∀ i : Nat, ∀ (h : i < xs.length) (h' : i < ys.length), Ev (fun k => e k xs ys (i : Int)) (g xs[i] ys[i]))
    (b : Bool) (hb : b = true ↔ ∀ i : Nat, ∀ (h : i < xs.length) (h' : i < ys.length), g xs[i] ys[i] = true) :
    Ev (fun k => L k xs ys 0) b := by
  refine ev_for1 xs.length (fun k i (_ : Unit) => L k xs ys (i : Int)) (fun i _ => ∀ j, j < i → ∀ (h : j < xs.length) (h' : j < ys.length), g xs[j] ys[j] = true) b ?_ ?_ 0 () (Nat.zero_le _) (fun j hj => by omega)
  · intro _ h
    refine Ev.step (fun k => hL k xs ys _) (ev_neg (by omega) (ev_some ?_))
    exact (hb.2 fun i hi hi' => h i hi hi hi').symm
  · intro i _ hi h
    have hi' : i < ys.length := by omega
    by_cases hg : g xs[i] ys[i] = true
    · refine .inr ⟨(), fun j hj h1 h2 => ?_, fun r hr => ?_⟩
      · rcases Nat.lt_or_ge j i with hji | hji
        · exact h j hji h1 h2
        · obtain rfl : j = i := by omega
          exact hg
      · refine Ev.step (fun k => hL k xs ys _) (ev_pos (by omega) (ev_pos (by omega) (ev_pos (by omega) (Ev.bind (he i hi hi') (ev_pos hg ?_)))))
        rw [w64s i (by omega)]
        exact hr
    · refine .inl (Ev.step (fun k => hL k xs ys _) (ev_pos (by omega) (ev_pos (by omega) (ev_pos (by omega) (Ev.bind (he i hi hi') (ev_neg hg (ev_some ?_)))))))
      cases b with
      | false => rfl
      | true => exact absurd (hb.1 rfl i hi hi') hg
theorem ev_alike_self {α : Type} (L : Nat → List α → List α → Int → Option Bool) (e : Nat → List α → List α → Int → Option Bool)
    (hL : ∀ k xs ys i, L (k + 1) xs ys i = if i < (xs.length : Int) then (if 0 ≤ i then (if i < (ys.length : Int) then ((e k xs ys i).bind fun v => if v = true then L k xs ys (wrap64 (i + 1)) else some false) else none) else none) else some true)
    (xs : List α) (hx : xs.length < 4611686018427387904) (he : ∀ i : Nat, ∀ (_ : i < xs.length), Ev (fun k => e k xs xs (i : Int)) true) :
    Ev (fun k => L k xs xs 0) true :=
  ev_alike L e (fun _ _ => true) hL xs xs hx rfl (fun i h _ => he i h) true ⟨fun _ _ _ _ => rfl, fun _ => rfl⟩
theorem bool_of (P : Prop) : ∃ b : Bool, b = true ↔ P := ⟨@decide P (Classical.propDecidable P), by simp⟩
theorem bool_false {P : Prop} {b : Bool} (h : b = true ↔ P) (k : ¬ P) : b = false := by
  cases b with
  | false => rfl
  | true => exact absurd (h.1 rfl) k
theorem ev_all (n : Nat) (L : Nat → Nat → Option Bool) (ok : Nat → Prop) (e b : Bool) (hb : b = true ↔ e = true ∧ ∀ i, i < n → ok i) (hend : Ev (fun k => L k n) e)
    (hyes : ∀ i, i < n → (∀ j, j < i → ok j) → ok i → ∀ r, Ev (fun k => L k (i + 1)) r → Ev (fun k => L k i) r) (hno : ∀ i, i < n → (∀ j, j < i → ok j) → ¬ ok i → Ev (fun k => L k i) false) : Ev (fun k => L k 0) b := by
  refine ev_for1 n (fun k i (_ : Unit) => L k i) (fun i _ => ∀ j, j < i → ok j) b ?_ ?_ 0 () (Nat.zero_le _) (fun j hj => by omega)
  · intro _ h
    have : b = e := by
      cases e with
      | false => exact bool_false hb (fun h => by simp at h)
      | true => exact hb.2 ⟨rfl, h⟩
    rw [this]
    exact hend
  · intro i _ hi h
    by_cases ho : ok i
    · refine .inr ⟨(), fun j hj => ?_, hyes i hi h ho⟩
      rcases Nat.lt_or_ge j i with h1 | h1
      · exact h j h1
      · obtain rfl : j = i := by omega
        exact ho
    · have : b = false := bool_false hb (fun h => ho (h.2 i hi))
      rw [this]
      exact .inl (hno i hi h ho)
theorem wrap_u64 {n : Int} (h0 : 0 ≤ n) (h1 : n ≤ 18446744073709551615) : IntKind.u64.wrap n = n := by
  have e : IntKind.u64.wrap n = n % 18446744073709551616 := by simp only [IntKind.wrap, IntKind.bits, IntKind.signed]; rfl
  rw [e]; omega
def Chain {α : Type} (E : α → Int → Int → Prop) : List α → Int → Int → Prop
  | [], c, d => c = d
  | x :: r, c, d => ∃ m, E x c m ∧ Chain E r m d
theorem Chain.snoc {α : Type} {E : α → Int → Int → Prop} : ∀ {l : List α} {c m d : Int} {x : α}, Chain E l c m → E x m d → Chain E (l ++ [x]) c d
  | [], _, _, _, _, h, k => by cases h; exact ⟨_, k, rfl⟩
  | _ :: _, _, _, _, _, ⟨q, h1, h2⟩, k => ⟨q, h1, Chain.snoc h2 k⟩
theorem Chain.le {α : Type} {E : α → Int → Int → Prop} (hm : ∀ x c d, E x c d → c ≤ d) : ∀ {l : List α} {c d : Int}, Chain E l c d → c ≤ d
  | [], _, _, h => Int.le_of_eq h
  | _ :: _, _, _, ⟨_, h1, h2⟩ => Int.le_trans (hm _ _ _ h1) (Chain.le hm h2)
theorem ev_mark {α : Type} (L : Nat → List α → Int → Nat → Option (Int × List α)) (E : α → Int → Int → Prop) (G : α → Prop) (W : Int) (hW : 0 ≤ W) (hW' : W ≤ 1099511627776)
    (hend : ∀ zs c, Ev (fun k => L k zs c zs.length) (c, zs))
    (hstep : ∀ zs c i, ∀ hi : i < zs.length, i < 1048576 → G zs[i] → 0 ≤ c → c ≤ 2305843009213693952 → ∃ x' c', E x' c c' ∧ c ≤ c' ∧ c' ≤ c + W ∧ ∀ r, Ev (fun k => L k (zs.set i x') c' (i + 1)) r → Ev (fun k => L k zs c i) r)
    (xs : List α) (hG : ∀ x ∈ xs, G x) (hl : xs.length ≤ 1048576) (c : Int) (hc0 : 0 ≤ c) (hc1 : c ≤ 1152921504606846976) :
    ∃ ys d, Chain E ys c d ∧ c ≤ d ∧ d ≤ c + W * xs.length ∧ ys.length = xs.length ∧ Ev (fun k => L k xs c 0) (d, ys) := by
  have key : ∀ n i : Nat, ∀ zs : List α, ∀ m : Int, i + n = xs.length → zs.length = xs.length → zs.drop i = xs.drop i → Chain E (zs.take i) c m → c ≤ m → m ≤ c + W * i →
      ∃ ys d, Chain E ys c d ∧ c ≤ d ∧ d ≤ c + W * xs.length ∧ ys.length = xs.length ∧ Ev (fun k => L k zs m i) (d, ys) := by
    intro n
    induction n with
    | zero =>
      intro i zs m hi hz hd hch h1 h2
      obtain rfl : i = zs.length := by omega
      rw [List.take_length] at hch
      rw [← hz]
      exact ⟨zs, m, hch, h1, h2, rfl, hend zs m⟩
    | succ n ih =>
      intro i zs m hi hz hd hch h1 h2
      have hlt : i < zs.length := by omega
      have hx : i < xs.length := by omega
      have hget : zs[i] = xs[i] := by
        have e1 := List.drop_eq_getElem_cons hlt
        have e2 := List.drop_eq_getElem_cons hx
        rw [hd, e2] at e1
        exact (List.cons.inj e1).1.symm
      have hWi : W * (i : Int) ≤ 1099511627776 * 1048576 := Int.mul_le_mul hW' (by omega) (by omega) (by omega)
      obtain ⟨x', c', hE, hc, hcW, hr⟩ := hstep zs m i hlt (by omega) (by rw [hget]; exact hG _ (List.getElem_mem hx)) (by omega) (by omega)
      obtain ⟨ys, d, g1, g2, g3, g4, g5⟩ := ih (i + 1) (zs.set i x') c' (by omega) (by simpa using hz) (by
          rw [List.drop_set_of_lt (by omega)]
          have e1 := List.drop_eq_getElem_cons hlt
          have e2 := List.drop_eq_getElem_cons hx
          rw [hd, e2] at e1
          exact (List.cons.inj e1).2.symm) (by
          rw [List.take_succ_eq_append_getElem (by simpa using hlt), List.take_set_of_le (Nat.le_refl i), List.getElem_set_self]
          exact Chain.snoc hch hE) (by omega) (by
          have : W * ((i + 1 : Nat) : Int) = W * i + W := by rw [Int.natCast_add, Int.mul_add]; simp
          omega)
      exact ⟨ys, d, g1, g2, g3, g4, hr _ g5⟩
  have := key xs.length 0 xs c (by omega) rfl rfl (by simp [Chain]) (Int.le_refl _) (by simp)
  exact this
theorem ev_held {α : Type} (H : Nat → List α → Int → Nat → Option Int) (E : α → Int → Int → Prop) (hm : ∀ x c d, E x c d → c ≤ d)
    (hend : ∀ ys c, Ev (fun k => H k ys c ys.length) c)
    (hstep : ∀ ys c c' i, ∀ hi : i < ys.length, i < 1048576 → E ys[i] c c' → 0 ≤ c → c' ≤ 2305843009213693952 → ∀ r, Ev (fun k => H k ys c' (i + 1)) r → Ev (fun k => H k ys c i) r)
    (ys : List α) (hl : ys.length ≤ 1048576) (c d : Int) (hc0 : 0 ≤ c) (hd : d ≤ 2305843009213693952) (h : Chain E ys c d) : Ev (fun k => H k ys c 0) d := by
  have key : ∀ n i : Nat, ∀ m : Int, i + n = ys.length → 0 ≤ m → Chain E (ys.drop i) m d → Ev (fun k => H k ys m i) d := by
    intro n
    induction n with
    | zero =>
      intro i m hi h0 hch
      obtain rfl : i = ys.length := by omega
      rw [List.drop_length] at hch
      obtain rfl : m = d := hch
      exact hend ys m
    | succ n ih =>
      intro i m hi h0 hch
      have hlt : i < ys.length := by omega
      rw [List.drop_eq_getElem_cons hlt] at hch
      obtain ⟨m', hE, hch⟩ := hch
      have h1 := hm _ _ _ hE
      exact hstep ys m m' i hlt (by omega) hE h0 (by have := Chain.le hm hch; omega) d (ih (i + 1) m' (by omega) (by omega) hch)
  exact key ys.length 0 c (by omega) hc0 h
theorem exev_bind {α β : Type} {g : Nat → Option α} {f : Nat → α → Option β} {a : α} {Q : β → Prop} (h : Ev g a) (k : ∃ r, Ev (fun n => f n a) r ∧ Q r) : ∃ r, Ev (fun n => (g n).bind (f n)) r ∧ Q r := by
  obtain ⟨r, hr, hq⟩ := k
  exact ⟨r, Ev.bind h hr, hq⟩
theorem exev_pos {α : Type} {c : Prop} [Decidable c] {f g : Nat → Option α} {Q : α → Prop} (h : c) (k : ∃ r, Ev f r ∧ Q r) : ∃ r, Ev (fun n => if c then f n else g n) r ∧ Q r := by
  obtain ⟨r, hr, hq⟩ := k
  exact ⟨r, ev_pos h hr, hq⟩
theorem exev_neg {α : Type} {c : Prop} [Decidable c] {f g : Nat → Option α} {Q : α → Prop} (h : ¬ c) (k : ∃ r, Ev g r ∧ Q r) : ∃ r, Ev (fun n => if c then f n else g n) r ∧ Q r := by
  obtain ⟨r, hr, hq⟩ := k
  exact ⟨r, ev_neg h hr, hq⟩
theorem exev_ite {α : Type} {c : Prop} [Decidable c] {f g : Nat → Option α} {Q : α → Prop} (h : c → ∃ r, Ev f r ∧ Q r) (k : ¬ c → ∃ r, Ev g r ∧ Q r) : ∃ r, Ev (fun n => if c then f n else g n) r ∧ Q r := by
  by_cases hc : c
  · exact exev_pos hc (h hc)
  · exact exev_neg hc (k hc)
theorem exev_some {α : Type} {x : α} {Q : α → Prop} (h : Q x) : ∃ r, Ev (fun _ => some x) r ∧ Q r := ⟨x, ev_some rfl, h⟩
theorem ev_copy2 {α β τ : Type} (L : Nat → List α → List β → Int → Option (List β)) (e : Nat → List α → Int → Option τ) (mk : τ → β) (g : α → β)
    (hL : ∀ k xs ys i, L (k + 1) xs ys i = if i < (xs.length : Int) then (if 0 ≤ i then ((e k xs i).bind fun v => if i < (ys.length : Int) then L k xs (ys.set (i : Int).toNat (mk v)) (wrap64 (i + 1)) else none) else none) else some ys)
    (xs : List α) (hx : xs.length < 4611686018427387904) (he : ∀ i : Nat, ∀ h : i < xs.length, ∃ t, Ev (fun k => e k xs (i : Int)) t ∧ mk t = g xs[i]) (ys : List β) (hy : ys.length = xs.length) :
    Ev (fun k => L k xs ys 0) (xs.map g) := by
  refine ev_for1 xs.length (fun k i ys => L k xs ys (i : Int)) (fun i ys => ys.length = xs.length ∧ ∀ j, j < i → ys[j]? = (xs.map g)[j]?) (xs.map g) ?_ ?_ 0 ys (Nat.zero_le _) ⟨hy, fun j hj => by omega⟩
  · intro ys ⟨hl, h⟩
    refine Ev.step (fun k => hL k xs ys _) (ev_neg (by omega) (ev_some ?_))
    apply List.ext_getElem?
    intro j
    rcases Nat.lt_or_ge j xs.length with hj | hj
    · exact h j hj
    · rw [List.getElem?_eq_none (by omega), List.getElem?_eq_none (by simpa using hj)]
  · intro i ys hi ⟨hl, h⟩
    obtain ⟨t, ht, hmk⟩ := he i hi
    refine .inr ⟨ys.set i (g xs[i]), ⟨by simpa using hl, fun j hj => ?_⟩, fun r hr => ?_⟩
    · rcases Nat.lt_or_ge j i with hji | hji
      · rw [List.getElem?_set_ne (by omega)]
        exact h j hji
      · obtain rfl : j = i := by omega
        rw [List.getElem?_set_self (by omega), List.getElem?_map, List.getElem?_eq_getElem hi]
        rfl
    · refine Ev.step (fun k => hL k xs ys _) (ev_pos (by omega) (ev_pos (by omega) (Ev.bind ht (ev_pos (by omega) ?_))))
      rw [w64s i (by omega), hmk]
      exact hr
theorem ev_size {α : Type} (L : Nat → List α → Int → Int → Option Int) (e : Nat → List α → Int → Int → Option Int) (C : α → Prop)
    (hL : ∀ k xs c i, L (k + 1) xs c i = if i < (xs.length : Int) then (if 0 ≤ i then ((e k xs c i).bind fun t => if t < 0 then some (-1) else L k xs t (wrap64 (i + 1))) else none) else some c)
    (xs : List α) (hx : xs.length < 4611686018427387904) (left : Int) (h0 : 0 ≤ left)
    (he : ∀ i : Nat, ∀ h : i < xs.length, ∀ c, 0 ≤ c → c ≤ left → ∃ r, Ev (fun k => e k xs c (i : Int)) r ∧ (r < 0 ∨ 0 ≤ r ∧ r ≤ c ∧ C xs[i])) :
    ∃ r, Ev (fun k => L k xs left 0) r ∧ (r < 0 ∨ 0 ≤ r ∧ r ≤ left ∧ ∀ x ∈ xs, C x) := by
  refine ev_for xs.length (fun k i c => L k xs c (i : Int)) (fun i c => 0 ≤ c ∧ c ≤ left ∧ ∀ j, ∀ h : j < xs.length, j < i → C xs[j]) (fun r => r < 0 ∨ 0 ≤ r ∧ r ≤ left ∧ ∀ x ∈ xs, C x) ?_ ?_ 0 left (Nat.zero_le _) ⟨h0, Int.le_refl _, fun j _ hj => by omega⟩
  · intro c ⟨hc0, hc1, h⟩
    refine ⟨c, Ev.step (fun k => hL k xs c _) (ev_neg (by omega) (ev_some rfl)), .inr ⟨hc0, hc1, fun x hx => ?_⟩⟩
    obtain ⟨j, hj, rfl⟩ := List.getElem_of_mem hx
    exact h j hj hj
  · intro i c hi ⟨hc0, hc1, h⟩
    obtain ⟨r, hr, hq⟩ := he i hi c hc0 hc1
    rcases hq with hq | ⟨q0, q1, q2⟩
    · exact .inl ⟨-1, Ev.step (fun k => hL k xs c _) (ev_pos (by omega) (ev_pos (by omega) (Ev.bind hr (ev_pos hq (ev_some rfl))))), .inl (by omega)⟩
    · refine .inr ⟨r, ⟨q0, by omega, fun j hj hji => ?_⟩, fun r' hr' => Ev.step (fun k => hL k xs c _) (ev_pos (by omega) (ev_pos (by omega) (Ev.bind hr (ev_neg (by omega) ?_))))⟩
      · rcases Nat.lt_or_ge j i with h1 | h1
        · exact h j hj h1
        · obtain rfl : j = i := by omega
          exact q2
      · rw [w64s i (by omega)]
        exact hr'
theorem mid_of (lo hi : Nat) (h : lo ≤ 1048576) (k : hi ≤ 1048576) : wrap64 ((IntKind.u64.wrap (wrap64 ((lo : Int) + (hi : Int)))) / 2) = (((lo + hi) / 2 : Nat) : Int) := by
  rw [w64 (n := (lo : Int) + (hi : Int)) (by omega) (by omega), wrap_u64 (by omega) (by omega), w64 (by omega) (by omega)]
  omega
theorem ev_search {α τ : Type} (L : Nat → List α → τ → Int → Int → Int → Option (Int × Bool)) (c : Nat → List α → Int → τ → Option Int)
    (hL : ∀ k xs x n i j, L (k + 1) xs x n i j = if i < j then (if 0 ≤ (wrap64 ((IntKind.u64.wrap (wrap64 (i + j))) / 2)) then (if (wrap64 ((IntKind.u64.wrap (wrap64 (i + j))) / 2)) < (xs.length : Int) then ((c k xs (wrap64 ((IntKind.u64.wrap (wrap64 (i + j))) / 2)) x).bind fun t => (if t < 0 then (L k xs x n (wrap64 ((wrap64 ((IntKind.u64.wrap (wrap64 (i + j))) / 2)) + 1)) j) else (L k xs x n i (wrap64 ((IntKind.u64.wrap (wrap64 (i + j))) / 2))))) else (none)) else (none)) else (if i < n then (if 0 ≤ i then (if i < (xs.length : Int) then ((c k xs i x).bind fun t => (some (i, (t == 0)))) else (none)) else (none)) else (some (i, false))))
    (xs : List α) (x : τ) (hl : xs.length ≤ 1048576) (C : Nat → Int) (hc : ∀ i : Nat, i < xs.length → Ev (fun k => c k xs (i : Int) x) (C i)) (hm : ∀ i j : Nat, i < j → j < xs.length → 0 ≤ C i → 0 < C j) :
    ∃ p : Nat, p ≤ xs.length ∧ (∀ i, i < p → C i < 0) ∧ (∀ i, p ≤ i → i < xs.length → 0 ≤ C i) ∧ Ev (fun k => L k xs x (xs.length : Int) 0 (xs.length : Int)) ((p : Int), decide (p < xs.length ∧ C p = 0)) := by
  have key : ∀ d lo hi : Nat, hi - lo ≤ d → lo ≤ hi → hi ≤ xs.length → (∀ i, i < lo → C i < 0) → (∀ i, hi ≤ i → i < xs.length → 0 ≤ C i) →
      ∃ p : Nat, p ≤ xs.length ∧ (∀ i, i < p → C i < 0) ∧ (∀ i, p ≤ i → i < xs.length → 0 ≤ C i) ∧ Ev (fun k => L k xs x (xs.length : Int) (lo : Int) (hi : Int)) ((p : Int), decide (p < xs.length ∧ C p = 0)) := by
    intro d
    induction d with
    | zero =>
      intro lo hi hd hle hhl h1 h2
      obtain rfl : lo = hi := by omega
      refine ⟨lo, hhl, h1, h2, Ev.step (fun k => hL k xs x _ _ _) (ev_neg (by omega) ?_)⟩
      by_cases hlt : lo < xs.length
      · refine ev_pos (by omega) (ev_pos (by omega) (ev_pos (by omega) (Ev.bind (hc lo hlt) (ev_some ?_))))
        by_cases h0 : C lo = 0 <;> simp [h0, hlt]
      · refine ev_neg (by omega) (ev_some ?_)
        simp [hlt]
    | succ d ih =>
      intro lo hi hd hle hhl h1 h2
      by_cases he : lo = hi
      · exact ih lo hi (by omega) hle hhl h1 h2
      · have em := mid_of lo hi (by omega) (by omega)
        have hm1 : (lo + hi) / 2 < hi := by omega
        have hm0 : lo ≤ (lo + hi) / 2 := by omega
        generalize (lo + hi) / 2 = m at em hm1 hm0
        by_cases hcm : C m < 0
        · obtain ⟨p, g1, g2, g3, g4⟩ := ih (m + 1) hi (by omega) (by omega) hhl (fun i hi' => by
            rcases Nat.lt_or_ge i m with hh | hh
            · rcases Classical.em (C i < 0) with h | h
              · exact h
              · have := hm i m hh (by omega) (by omega); omega
            · obtain rfl : i = m := by omega
              exact hcm) h2
          refine ⟨p, g1, g2, g3, Ev.step (fun k => hL k xs x _ _ _) (ev_pos (by omega) ?_)⟩
          rw [em]
          refine ev_pos (by omega) (ev_pos (by omega) (Ev.bind (hc m (by omega)) (ev_pos hcm ?_)))
          rw [w64s m (by omega)]
          exact g4
        · obtain ⟨p, g1, g2, g3, g4⟩ := ih lo m (by omega) (by omega) (by omega) h1 (fun i hi1 hi2 => by
            rcases Nat.lt_or_ge m i with hh | hh
            · have := hm m i hh hi2 (by omega); omega
            · obtain rfl : i = m := by omega
              omega)
          refine ⟨p, g1, g2, g3, Ev.step (fun k => hL k xs x _ _ _) (ev_pos (by omega) ?_)⟩
          rw [em]
          exact ev_pos (by omega) (ev_pos (by omega) (Ev.bind (hc m (by omega)) (ev_neg hcm g4)))
  exact key xs.length 0 xs.length (by omega) (by omega) (by omega) (fun i hi => by omega) (fun i h h' => by omega)
end Go.Proofs.YtcpodjegdpbalaaO
