/- Texts of the row of the law FnExactMakeOrder, laid together. -/
import Derived.Test.YtifejplilaefiaaZFnExactMakeOrder3
import Derived.Test.YtifejplilaefiaaZFnExactMakeOrder4
import Derived.Test.YtifejplilaefiaaZFnExactMakeOrder0
import Derived.SizedLaws
import Derived.ChangeArms
import Derived.OpenShut
import Derived.WideShapes
import Derived.WalkKit
import Derived.KernelRfl
import Derived.Laws.BitsLemmas
namespace Go.Proofs.Ytifejplilaefiaa.PFnExactMakeOrder
open Go.RowKit Go.Proofs.YtifejplilaefiaaW.PrintWords Go.Proofs.YtifejplilaefiaaW.PrintLast Go.Proofs.YtifejplilaefiaaW.PrintMore
attribute [local go_sem] max2_int min2_int max_two min_two max_three min_three max_four min_four   -- for this text's walks alone
set_option linter.unusedVariables false
set_option linter.unusedSimpArgs false
mutual
def laws_FnExactMakeOrder.j0 : Nat → List (S62) → List ByteArray → Bool → List (S63) → List ByteArray → Bool → Bool → Option (Bool)
 | 0, _, _, _, _, _, _, _ => none
 | k + 1, x0, x4, x5, x6, x7, x8, x40 => if x40 = true then (some false) else ((laws_toAssetS.f k x0).bind fun t265 => ((laws_eqAssetS.f k x6 t265).bind fun t268 => (if t268 = true then ((laws_markAssetS.f k x6 1).bind fun bt269 => (if bt269.1 < 0 then (laws_FnExactMakeOrder.j1 k x0 x4 x5 x7 true) else ((laws_eqStringS.f k x7 x4).bind fun t271 => (if t271 = true then (laws_FnExactMakeOrder.j1 k x0 x4 x5 x7 (x8 != x5)) else (laws_FnExactMakeOrder.j1 k x0 x4 x5 x7 true))))) else (some false))))
def laws_FnExactMakeOrder.j1 : Nat → List (S62) → List ByteArray → Bool → List ByteArray → Bool → Option (Bool)
 | 0, _, _, _, _, _ => none
 | k + 1, x0, x4, x5, x7, x61 => if x61 = true then (some false) else ((laws_markStringS.f k x7 1).bind fun bt272 => ((laws_heldStringS.f k bt272.2 1).bind fun t274 => (if t274 < 0 then (some false) else (if t274 = bt272.1 then ((laws_toAssetS.f k x0).bind fun t275 => ((impl_MakeOrder.f k t275).bind fun bt278 => ((laws_eqStringS.f k bt278.1 x4).bind fun t282 => (if t282 = true then (laws_FnExactMakeOrder.j2 k bt272.2 bt272.1 (bt278.2 != x5)) else (laws_FnExactMakeOrder.j2 k bt272.2 bt272.1 true))))) else (some false)))))
def laws_FnExactMakeOrder.j2 : Nat → List ByteArray → Int → Bool → Option (Bool)
 | 0, _, _, _ => none
 | k + 1, x7, x10, x87 => if x87 = true then (some false) else ((laws_heldStringS.f k x7 1).bind fun t283 => (if t283 < 0 then (some false) else (if t283 = x10 then (some true) else (some false))))
end
def laws_FnExactMakeOrder.f (k : Nat) (l0 : List (S62)) : Option (Bool) := (laws_szAssetS.f k l0 1048576).bind fun t249 => (if t249 < 0 then (some true) else ((laws_toAssetS.f k l0).bind fun t250 => ((spec_MakeOrder.f k t250).bind fun bt253 => ((laws_toAssetS.f k l0).bind fun t257 => ((impl_MakeOrder.f k t257).bind fun bt260 => ((laws_eqStringS.f k bt260.1 bt253.1).bind fun t264 => (if t264 = true then (laws_FnExactMakeOrder.j0 k l0 bt253.1 bt253.2 t257 bt260.1 bt260.2 (bt260.2 != bt253.2)) else (laws_FnExactMakeOrder.j0 k l0 bt253.1 bt253.2 t257 bt260.1 bt260.2 true))))))))
theorem laws_FnExactMakeOrder.mono_l : ∀ k, (∀ y0 y1 y2 y3 y4 y5 y6, LeO (laws_FnExactMakeOrder.j0 k y0 y1 y2 y3 y4 y5 y6) (laws_FnExactMakeOrder.j0 (k + 1) y0 y1 y2 y3 y4 y5 y6)) ∧ (∀ y0 y1 y2 y3 y4, LeO (laws_FnExactMakeOrder.j1 k y0 y1 y2 y3 y4) (laws_FnExactMakeOrder.j1 (k + 1) y0 y1 y2 y3 y4)) ∧ (∀ y0 y1 y2, LeO (laws_FnExactMakeOrder.j2 k y0 y1 y2) (laws_FnExactMakeOrder.j2 (k + 1) y0 y1 y2))
 | 0 => ⟨fun _ _ _ _ _ _ _ r h => by simp [laws_FnExactMakeOrder.j0] at h, fun _ _ _ _ _ r h => by simp [laws_FnExactMakeOrder.j1] at h, fun _ _ _ r h => by simp [laws_FnExactMakeOrder.j2] at h⟩
 | k + 1 => by
  obtain ⟨ih0, ih1, ih2⟩ := laws_FnExactMakeOrder.mono_l k
  refine ⟨?_, ?_, ?_⟩
  ·intro y0 y1 y2 y3 y4 y5 y6
   unfold laws_FnExactMakeOrder.j0
   repeat' first
   | (with_reducible exact ih0 _ _ _ _ _ _ _)
   | (with_reducible exact ih1 _ _ _ _ _)
   | (with_reducible exact ih2 _ _ _)
   | (with_reducible exact impl_MakeOrder.mono _ _)
   | (with_reducible exact laws_eqAssetS.mono _ _ _)
   | (with_reducible exact laws_eqStringS.mono _ _ _)
   | (with_reducible exact laws_heldStringS.mono _ _ _)
   | (with_reducible exact laws_markAssetS.mono _ _ _)
   | (with_reducible exact laws_markStringS.mono _ _ _)
   | (with_reducible exact laws_szAssetS.mono _ _ _)
   | (with_reducible exact laws_toAssetS.mono _ _)
   | (with_reducible exact spec_MakeOrder.mono _ _)
   | (with_reducible exact LeO.refl _)
   | (with_reducible exact LeO.none _)
   | (with_reducible refine LeO.ite ?_ ?_)
   | (with_reducible refine LeO.bind ?_ (fun _ => ?_))
   | exact ih0 _ _ _ _ _ _ _
   | exact ih1 _ _ _ _ _
   | exact ih2 _ _ _
   | exact impl_MakeOrder.mono _ _
   | exact laws_eqAssetS.mono _ _ _
   | exact laws_eqStringS.mono _ _ _
   | exact laws_heldStringS.mono _ _ _
   | exact laws_markAssetS.mono _ _ _
   | exact laws_markStringS.mono _ _ _
   | exact laws_szAssetS.mono _ _ _
   | exact laws_toAssetS.mono _ _
   | exact spec_MakeOrder.mono _ _
   | exact LeO.none _
   | refine LeO.ite ?_ ?_
   | refine LeO.bind ?_ (fun _ => ?_)
  ·intro y0 y1 y2 y3 y4
   unfold laws_FnExactMakeOrder.j1
   repeat' first
   | (with_reducible exact ih0 _ _ _ _ _ _ _)
   | (with_reducible exact ih1 _ _ _ _ _)
   | (with_reducible exact ih2 _ _ _)
   | (with_reducible exact impl_MakeOrder.mono _ _)
   | (with_reducible exact laws_eqAssetS.mono _ _ _)
   | (with_reducible exact laws_eqStringS.mono _ _ _)
   | (with_reducible exact laws_heldStringS.mono _ _ _)
   | (with_reducible exact laws_markAssetS.mono _ _ _)
   | (with_reducible exact laws_markStringS.mono _ _ _)
   | (with_reducible exact laws_szAssetS.mono _ _ _)
   | (with_reducible exact laws_toAssetS.mono _ _)
   | (with_reducible exact spec_MakeOrder.mono _ _)
   | (with_reducible exact LeO.refl _)
   | (with_reducible exact LeO.none _)
   | (with_reducible refine LeO.ite ?_ ?_)
   | (with_reducible refine LeO.bind ?_ (fun _ => ?_))
   | exact ih0 _ _ _ _ _ _ _
   | exact ih1 _ _ _ _ _
   | exact ih2 _ _ _
   | exact impl_MakeOrder.mono _ _
   | exact laws_eqAssetS.mono _ _ _
   | exact laws_eqStringS.mono _ _ _
   | exact laws_heldStringS.mono _ _ _
   | exact laws_markAssetS.mono _ _ _
   | exact laws_markStringS.mono _ _ _
   | exact laws_szAssetS.mono _ _ _
   | exact laws_toAssetS.mono _ _
   | exact spec_MakeOrder.mono _ _
   | exact LeO.none _
   | refine LeO.ite ?_ ?_
   | refine LeO.bind ?_ (fun _ => ?_)
  ·intro y0 y1 y2
   unfold laws_FnExactMakeOrder.j2
   repeat' first
   | (with_reducible exact ih0 _ _ _ _ _ _ _)
   | (with_reducible exact ih1 _ _ _ _ _)
   | (with_reducible exact ih2 _ _ _)
   | (with_reducible exact impl_MakeOrder.mono _ _)
   | (with_reducible exact laws_eqAssetS.mono _ _ _)
   | (with_reducible exact laws_eqStringS.mono _ _ _)
   | (with_reducible exact laws_heldStringS.mono _ _ _)
   | (with_reducible exact laws_markAssetS.mono _ _ _)
   | (with_reducible exact laws_markStringS.mono _ _ _)
   | (with_reducible exact laws_szAssetS.mono _ _ _)
   | (with_reducible exact laws_toAssetS.mono _ _)
   | (with_reducible exact spec_MakeOrder.mono _ _)
   | (with_reducible exact LeO.refl _)
   | (with_reducible exact LeO.none _)
   | (with_reducible refine LeO.ite ?_ ?_)
   | (with_reducible refine LeO.bind ?_ (fun _ => ?_))
   | exact ih0 _ _ _ _ _ _ _
   | exact ih1 _ _ _ _ _
   | exact ih2 _ _ _
   | exact impl_MakeOrder.mono _ _
   | exact laws_eqAssetS.mono _ _ _
   | exact laws_eqStringS.mono _ _ _
   | exact laws_heldStringS.mono _ _ _
   | exact laws_markAssetS.mono _ _ _
   | exact laws_markStringS.mono _ _ _
   | exact laws_szAssetS.mono _ _ _
   | exact laws_toAssetS.mono _ _
   | exact spec_MakeOrder.mono _ _
   | exact LeO.none _
   | refine LeO.ite ?_ ?_
   | refine LeO.bind ?_ (fun _ => ?_)
theorem laws_FnExactMakeOrder.mono : ∀ a0 k, LeO (laws_FnExactMakeOrder.f k a0) (laws_FnExactMakeOrder.f (k + 1) a0) := by
 intro a0 k
 obtain ⟨ih0, ih1, ih2⟩ := laws_FnExactMakeOrder.mono_l k
 unfold laws_FnExactMakeOrder.f
 repeat' first
   | (with_reducible exact ih0 _ _ _ _ _ _ _)
   | (with_reducible exact ih1 _ _ _ _ _)
   | (with_reducible exact ih2 _ _ _)
   | (with_reducible exact impl_MakeOrder.mono _ _)
   | (with_reducible exact laws_eqAssetS.mono _ _ _)
   | (with_reducible exact laws_eqStringS.mono _ _ _)
   | (with_reducible exact laws_heldStringS.mono _ _ _)
   | (with_reducible exact laws_markAssetS.mono _ _ _)
   | (with_reducible exact laws_markStringS.mono _ _ _)
   | (with_reducible exact laws_szAssetS.mono _ _ _)
   | (with_reducible exact laws_toAssetS.mono _ _)
   | (with_reducible exact spec_MakeOrder.mono _ _)
   | (with_reducible exact LeO.refl _)
   | (with_reducible exact LeO.none _)
   | (with_reducible refine LeO.ite ?_ ?_)
   | (with_reducible refine LeO.bind ?_ (fun _ => ?_))
   | exact ih0 _ _ _ _ _ _ _
   | exact ih1 _ _ _ _ _
   | exact ih2 _ _ _
   | exact impl_MakeOrder.mono _ _
   | exact laws_eqAssetS.mono _ _ _
   | exact laws_eqStringS.mono _ _ _
   | exact laws_heldStringS.mono _ _ _
   | exact laws_markAssetS.mono _ _ _
   | exact laws_markStringS.mono _ _ _
   | exact laws_szAssetS.mono _ _ _
   | exact laws_toAssetS.mono _ _
   | exact spec_MakeOrder.mono _ _
   | exact LeO.none _
   | refine LeO.ite ?_ ?_
   | refine LeO.bind ?_ (fun _ => ?_)
set_option maxHeartbeats 8000000 in
set_option maxRecDepth 100000 in
theorem laws_FnExactMakeOrder.calls (k : Nat) (A0 : Option Addr) (c0 : Nat) (l0 : List (S62)) (r : Bool) (w : World) (hr0 : Kd.C k62 w A0 l0.length l0) (hc0 : l0.length ≤ c0) (h : laws_FnExactMakeOrder.f k l0 = some r) :
  Calls Try.prog 4 #[.slice A0 l0.length c0] w fun e w' => e = .returned (.bool r) ∧ Below w.heap.size w w' := by
 have HR0 := Aside0.mk hr0
 have HC0 := Aside0.mk hc0
 clear hr0 hc0
 have HB := Aside0.mk (Below.refl w.heap.size w)
 have H : ((laws_szAssetS.f k l0 1048576).bind fun t249 => (if t249 < 0 then (some true) else ((laws_toAssetS.f k l0).bind fun t250 => ((spec_MakeOrder.f k t250).bind fun bt253 => ((laws_toAssetS.f k l0).bind fun t257 => ((impl_MakeOrder.f k t257).bind fun bt260 => ((laws_eqStringS.f k bt260.1 bt253.1).bind fun t264 => (if t264 = true then (laws_FnExactMakeOrder.j0 k l0 bt253.1 bt253.2 t257 bt260.1 bt260.2 (bt260.2 != bt253.2)) else (laws_FnExactMakeOrder.j0 k l0 bt253.1 bt253.2 t257 bt260.1 bt260.2 true))))))))) = some r := h
 clear h
 replace H := Option.bind_eq_some_iff.mp H
 obtain ⟨t249, A20, H⟩ := H
 replace H : (if t249 < 0 then (some true) else ((laws_toAssetS.f k l0).bind fun t250 => ((spec_MakeOrder.f k t250).bind fun bt253 => ((laws_toAssetS.f k l0).bind fun t257 => ((impl_MakeOrder.f k t257).bind fun bt260 => ((laws_eqStringS.f k bt260.1 bt253.1).bind fun t264 => (if t264 = true then (laws_FnExactMakeOrder.j0 k l0 bt253.1 bt253.2 t257 bt260.1 bt260.2 (bt260.2 != bt253.2)) else (laws_FnExactMakeOrder.j0 k l0 bt253.1 bt253.2 t257 bt260.1 bt260.2 true)))))))) = some r := H
 have A2 := Aside0.mk A20
 clear A20
 by_cases c3 : t249 < 0
 ·rw [if_pos c3] at H
  have c3b0 : decide (t249 < 0) = true := decide_eq_true c3
  clear c3
  obtain rfl := Option.some.inj H
  go_enter Try.func4, Try.ntmps4
  go_wp2_with (first | ((with_reducible refine gate_callee (f := 7) rfl ?_); refine goesL_ (some 16) rfl rfl Try.func7 (by kernel_rfl) rfl #[.slice A0 l0.length c0, .int .i64 1048576] rfl aE ?_; (with_reducible refine (laws_szAssetS.calls k _ _ l0 1048576 t249 _ ?side1 ?side2 A2.out).mono ?_); (case side1 => repeat (first | exact HR0.out | (with_reducible refine Kd.C_alloc ?_ _) | (with_reducible refine Kd.C_drewN ?_ _) | (with_reducible refine Kd.C_drew ?_))); (case side2 => exact HC0.out); rintro e w4 ⟨rfl, hb⟩; refine ⟨_, rfl, ?_⟩; replace HB := bH (lU) hb; (try clear hb)))
  go_ret
  exact ⟨eE, lU⟩
 ·rw [if_neg c3] at H
  have c3b0 : decide (t249 < 0) = false := decide_eq_false c3
  clear c3
  replace H := Option.bind_eq_some_iff.mp H
  obtain ⟨t250, A50, H⟩ := H
  replace H : ((spec_MakeOrder.f k t250).bind fun bt253 => ((laws_toAssetS.f k l0).bind fun t257 => ((impl_MakeOrder.f k t257).bind fun bt260 => ((laws_eqStringS.f k bt260.1 bt253.1).bind fun t264 => (if t264 = true then (laws_FnExactMakeOrder.j0 k l0 bt253.1 bt253.2 t257 bt260.1 bt260.2 (bt260.2 != bt253.2)) else (laws_FnExactMakeOrder.j0 k l0 bt253.1 bt253.2 t257 bt260.1 bt260.2 true)))))) = some r := H
  have A5 := Aside0.mk A50
  clear A50
  replace H := Option.bind_eq_some_iff.mp H
  obtain ⟨⟨t253, t254⟩, A60, H⟩ := H
  replace H : ((laws_toAssetS.f k l0).bind fun t257 => ((impl_MakeOrder.f k t257).bind fun bt260 => ((laws_eqStringS.f k bt260.1 t253).bind fun t264 => (if t264 = true then (laws_FnExactMakeOrder.j0 k l0 t253 t254 t257 bt260.1 bt260.2 (bt260.2 != t254)) else (laws_FnExactMakeOrder.j0 k l0 t253 t254 t257 bt260.1 bt260.2 true))))) = some r := H
  have A6 := Aside0.mk A60
  clear A60
  replace H := Option.bind_eq_some_iff.mp H
  obtain ⟨t257, A70, H⟩ := H
  replace H : ((impl_MakeOrder.f k t257).bind fun bt260 => ((laws_eqStringS.f k bt260.1 t253).bind fun t264 => (if t264 = true then (laws_FnExactMakeOrder.j0 k l0 t253 t254 t257 bt260.1 bt260.2 (bt260.2 != t254)) else (laws_FnExactMakeOrder.j0 k l0 t253 t254 t257 bt260.1 bt260.2 true)))) = some r := H
  have A7 := Aside0.mk A70
  clear A70
  replace H := Option.bind_eq_some_iff.mp H
  obtain ⟨⟨t260, t261⟩, A80, H⟩ := H
  replace H : ((laws_eqStringS.f k t260 t253).bind fun t264 => (if t264 = true then (laws_FnExactMakeOrder.j0 k l0 t253 t254 t257 t260 t261 (t261 != t254)) else (laws_FnExactMakeOrder.j0 k l0 t253 t254 t257 t260 t261 true))) = some r := H
  have A8 := Aside0.mk A80
  clear A80
  have HC9 := Aside0.mk H
  clear H
  go_enter Try.func4, Try.ntmps4
  go_upto_region 8 with (first | ((with_reducible refine gate_callee (f := 7) rfl ?_); refine goesL_ (some 16) rfl rfl Try.func7 (by kernel_rfl) rfl #[.slice A0 l0.length c0, .int .i64 1048576] rfl aE ?_; (with_reducible refine (laws_szAssetS.calls k _ _ l0 1048576 t249 _ ?side1 ?side2 A2.out).mono ?_); (case side1 => repeat (first | exact HR0.out | (with_reducible refine Kd.C_alloc ?_ _) | (with_reducible refine Kd.C_drewN ?_ _) | (with_reducible refine Kd.C_drew ?_))); (case side2 => exact HC0.out); rintro e w10 ⟨rfl, hb⟩; refine ⟨_, rfl, ?_⟩; replace HB := bH (lU) hb; (try clear hb)) | ((with_reducible refine gate_callee (f := 9) rfl ?_); refine goesL_ (some 21) rfl rfl Try.func9 (by kernel_rfl) rfl #[.slice A0 l0.length c0] rfl aE ?_; (with_reducible refine (laws_toAssetS.calls k _ _ l0 t250 _ ?side1 ?side2 A5.out).mono ?_); (case side1 => exact cU (Kd.C_below HR0.out HB.out)); (case side2 => exact HC0.out); rintro e w11 ⟨v251, rfl, ho0, hb⟩; refine ⟨_, rfl, ?_⟩; have HO252 := Aside0.mk (Kd.S_lower ho0 (below_size (lU))); replace HB := bH (lU) hb; (try clear hb); (try clear ho0); obtain ⟨Ao12, co12, eo12⟩ := Kd.S_slice HO252.out; subst eo12) | ((with_reducible refine gate_callee (f := 12) rfl ?_); refine goesL_ (some 22) rfl rfl Try.func12 (by kernel_rfl) rfl #[.slice Ao12 t250.length co12] rfl aE ?_; (with_reducible refine (spec_MakeOrder.calls k _ _ t250 t253 t254 _ ?side1 ?side2 A6.out).mono ?_); (case side1 => exact cU (Kd.S_reads' HO252.out).2.2); (case side2 => exact (Kd.S_reads' HO252.out).2.1); rintro e w13 ⟨v255, rfl, ho0, hb⟩; refine ⟨_, rfl, ?_⟩; replace HO252 := Aside0.mk (Kd.S_elder' (by (with_reducible repeat (first | apply Kd.S_alloc | apply Kd.S_drewN | apply Kd.S_drew)); exact HO252.out) (Kd.R_base ho0) hb); have HO256 := Aside0.mk (Kd.R_lower ho0 (below_size (lU))); replace HB := bH (lU) hb; (try clear hb); (try clear ho0)) | ((with_reducible refine gate_callee (f := 9) rfl ?_); refine goesL_ (some 26) rfl rfl Try.func9 (by kernel_rfl) rfl #[.slice A0 l0.length c0] rfl aE ?_; (with_reducible refine (laws_toAssetS.calls k _ _ l0 t257 _ ?side1 ?side2 A7.out).mono ?_); (case side1 => exact cU (Kd.C_below HR0.out HB.out)); (case side2 => exact HC0.out); rintro e w14 ⟨v258, rfl, ho0, hb⟩; refine ⟨_, rfl, ?_⟩; have HO259 := Aside0.mk (Kd.S_lower (Kd.S_new' (Kd.S_new' ho0 (Kd.S_lt (by (with_reducible repeat (first | apply Kd.S_alloc | apply Kd.S_drewN | apply Kd.S_drew)); exact HO252.out))) (Kd.R_lt (rU HO256.out))) (below_size (lU))); replace HO252 := Aside0.mk (Kd.S_elder' (by (with_reducible repeat (first | apply Kd.S_alloc | apply Kd.S_drewN | apply Kd.S_drew)); exact HO252.out) (Kd.S_base ho0) hb); replace HO256 := Aside0.mk (Kd.R_below (rU HO256.out) hb); replace HB := bH (lU) hb; (try clear hb); (try clear ho0); obtain ⟨Ao15, co15, eo15⟩ := Kd.S_slice HO259.out; subst eo15) | ((with_reducible refine gate_callee (f := 13) rfl ?_); refine goesL_ (some 29) rfl rfl Try.func13 (by kernel_rfl) rfl #[.slice Ao15 t257.length co15] rfl aE ?_; (with_reducible refine (impl_MakeOrder.calls k _ _ t257 t260 t261 _ ?side1 ?side2 A8.out).mono ?_); (case side1 => exact cU (Kd.S_reads' HO259.out).2.2); (case side2 => exact (Kd.S_reads' HO259.out).2.1); rintro e w16 ⟨v262, rfl, ho0, hb⟩; refine ⟨_, rfl, ?_⟩; replace HO252 := Aside0.mk (Kd.S_elder' (by (with_reducible repeat (first | apply Kd.S_alloc | apply Kd.S_drewN | apply Kd.S_drew)); exact HO252.out) (Kd.R_base ho0) hb); replace HO259 := Aside0.mk (Kd.S_elder' (by (with_reducible repeat (first | apply Kd.S_alloc | apply Kd.S_drewN | apply Kd.S_drew)); exact HO259.out) (Kd.R_base ho0) hb); have HO263 := Aside0.mk (Kd.R_lower (Kd.R_new' ho0 (Kd.R_lt (rU HO256.out))) (below_size (lU))); replace HO256 := Aside0.mk (Kd.R_elder' (rU HO256.out) (Kd.R_base ho0) hb); replace HB := bH (lU) hb; (try clear hb); (try clear ho0)))
  (try simp only [Act.put, List.setIfInBounds_toArray, List.set_cons_zero, List.set_cons_succ])
  go_cut [40] (fun v40 wc => ∃ (kq : Nat) (x40_8 : Bool), v40 = .bool x40_8 ∧ Aside0 (laws_FnExactMakeOrder.j0 kq l0 t253 t254 t257 t260 t261 x40_8 = some r) ∧ Aside0 (kq ≤ k) ∧ Aside0 (Kd.R Kd.string 9 wc w.heap.size (fun k_ => some k_ ≠ (v262 : Value).ownBlock) v255 t253) ∧ Aside0 (Kd.S k63 63 wc w.heap.size (fun k_ => some k_ ≠ (v255 : Value).ownBlock ∧ some k_ ≠ (v262 : Value).ownBlock) (.slice Ao15 t257.length co15) t257) ∧ Aside0 (Kd.R Kd.string 9 wc w.heap.size (fun k_ => some k_ ≠ (v255 : Value).ownBlock) v262 t260) ∧ Aside0 (Below w.heap.size w wc))
  case first =>
   have H := HC9.out
   clear HC9
   replace H := Option.bind_eq_some_iff.mp H
   obtain ⟨t264, A170, H⟩ := H
   replace H : (if t264 = true then (laws_FnExactMakeOrder.j0 k l0 t253 t254 t257 t260 t261 (t261 != t254)) else (laws_FnExactMakeOrder.j0 k l0 t253 t254 t257 t260 t261 true)) = some r := H
   have A17 := Aside0.mk A170
   clear A170
   by_cases c18 : t264 = true
   ·subst c18
    have H1 : (laws_FnExactMakeOrder.j0 k l0 t253 t254 t257 t260 t261 (t261 != t254)) = some r := by rw [if_pos rfl] at H; exact H
    clear H
    have H := H1
    clear H1
    have H' := Aside0.mk H
    clear H
    obtain ⟨Ao19, co19, eo19⟩ := Kd.R_slice HO263.out
    subst eo19
    obtain ⟨Ao20, co20, eo20⟩ := Kd.R_slice HO256.out
    subst eo20
    go_wp2_with (first | ((with_reducible refine gate_callee (f := 14) rfl ?_); refine goesL_ (some 34) rfl rfl Try.func14 (by kernel_rfl) rfl #[.slice Ao19 t260.length co19, .slice Ao20 t253.length co20] rfl aE ?_; (with_reducible refine (laws_eqStringS.calls k _ _ t260 _ _ t253 true _ ?side1 ?side2 ?side3 ?side4 A17.out).mono ?_); (case side1 => exact cU (Kd.R_reads' HO263.out).2.2); (case side2 => exact (Kd.R_reads' HO263.out).2.1); (case side3 => exact cU (Kd.R_reads' HO256.out).2.2); (case side4 => exact (Kd.R_reads' HO256.out).2.1); rintro e w' ⟨rfl, ⟨nd, rfl⟩⟩; refine ⟨_, rfl, ?_⟩))
    go_meet
    case rel => exact ⟨_, ((t261 != t254)), tE, H', ⟨by first | omega | exact Nat.le_refl _⟩, ⟨by (with_reducible repeat (first | apply Kd.R_alloc | apply Kd.R_drewN | apply Kd.R_drew)); exact Kd.R_mono HO256.out (fun _ hk => hk.2)⟩, ⟨by (with_reducible repeat (first | apply Kd.S_alloc | apply Kd.S_drewN | apply Kd.S_drew)); exact Kd.S_mono HO259.out (fun _ hk => ⟨hk.1.2, hk.2⟩)⟩, ⟨by (with_reducible repeat (first | apply Kd.R_alloc | apply Kd.R_drewN | apply Kd.R_drew)); exact Kd.R_mono HO263.out (fun _ hk => hk.2)⟩, ⟨by repeat (first | (with_reducible first | exact HB.out | apply below_alloc | apply pw_below_drewN | apply below_drew1) | exact HB.out)⟩⟩
   ·replace c18 := Bool.eq_false_iff.mpr c18
    subst c18
    have H1 : (laws_FnExactMakeOrder.j0 k l0 t253 t254 t257 t260 t261 true) = some r := by rw [if_neg (show ¬ (false = true) by decide)] at H; exact H
    clear H
    have H := H1
    clear H1
    have H' := Aside0.mk H
    clear H
    obtain ⟨Ao21, co21, eo21⟩ := Kd.R_slice HO263.out
    subst eo21
    obtain ⟨Ao22, co22, eo22⟩ := Kd.R_slice HO256.out
    subst eo22
    go_wp2_with (first | ((with_reducible refine gate_callee (f := 14) rfl ?_); refine goesL_ (some 34) rfl rfl Try.func14 (by kernel_rfl) rfl #[.slice Ao21 t260.length co21, .slice Ao22 t253.length co22] rfl aE ?_; (with_reducible refine (laws_eqStringS.calls k _ _ t260 _ _ t253 false _ ?side1 ?side2 ?side3 ?side4 A17.out).mono ?_); (case side1 => exact cU (Kd.R_reads' HO263.out).2.2); (case side2 => exact (Kd.R_reads' HO263.out).2.1); (case side3 => exact cU (Kd.R_reads' HO256.out).2.2); (case side4 => exact (Kd.R_reads' HO256.out).2.1); rintro e w' ⟨rfl, ⟨nd, rfl⟩⟩; refine ⟨_, rfl, ?_⟩))
    go_meet
    case rel => exact ⟨_, (true), tE, H', ⟨by first | omega | exact Nat.le_refl _⟩, ⟨by (with_reducible repeat (first | apply Kd.R_alloc | apply Kd.R_drewN | apply Kd.R_drew)); exact Kd.R_mono HO256.out (fun _ hk => hk.2)⟩, ⟨by (with_reducible repeat (first | apply Kd.S_alloc | apply Kd.S_drewN | apply Kd.S_drew)); exact Kd.S_mono HO259.out (fun _ hk => ⟨hk.1.2, hk.2⟩)⟩, ⟨by (with_reducible repeat (first | apply Kd.R_alloc | apply Kd.R_drewN | apply Kd.R_drew)); exact Kd.R_mono HO263.out (fun _ hk => hk.2)⟩, ⟨by repeat (first | (with_reducible first | exact HB.out | apply below_alloc | apply pw_below_drewN | apply below_drew1) | exact HB.out)⟩⟩
  case rest =>
   clear HC9
   try clear c1
   try clear p2
   try clear c3
   try clear c3b0
   try clear c4
   try clear c7
   try clear c9
   try clear c12
   try clear c13
   try clear c14
   try clear c18
   obtain ⟨kq, x40_8, rfl, HA, HJ8, HO_4, HO_6, HO_7, HB⟩ := hcut
   cases kq with
   | zero => exact absurd HA.out (by simp [laws_FnExactMakeOrder.j0])
   | succ kj8 =>
    have H := HA.out
    clear HA
    simp only [laws_FnExactMakeOrder.j0] at H
    by_cases c23 : x40_8 = true
    ·subst c23
     have H1 : (some false) = some r := by rw [if_pos rfl] at H; exact H
     clear H
     have H := H1
     clear H1
     obtain rfl := Option.some.inj H
     go_wp2
     go_ret
     exact ⟨eE, lU⟩
    ·replace c23 := Bool.eq_false_iff.mpr c23
     subst c23
     have H1 : ((laws_toAssetS.f kj8 l0).bind fun t265 => ((laws_eqAssetS.f kj8 t257 t265).bind fun t268 => (if t268 = true then ((laws_markAssetS.f kj8 t257 1).bind fun bt269 => (if bt269.1 < 0 then (laws_FnExactMakeOrder.j1 kj8 l0 t253 t254 t260 true) else ((laws_eqStringS.f kj8 t260 t253).bind fun t271 => (if t271 = true then (laws_FnExactMakeOrder.j1 kj8 l0 t253 t254 t260 (t261 != t254)) else (laws_FnExactMakeOrder.j1 kj8 l0 t253 t254 t260 true))))) else (some false)))) = some r := by rw [if_neg (show ¬ (false = true) by decide)] at H; exact H
     clear H
     have H := H1
     clear H1
     replace H := Option.bind_eq_some_iff.mp H
     obtain ⟨t265, A240, H⟩ := H
     replace H : ((laws_eqAssetS.f kj8 t257 t265).bind fun t268 => (if t268 = true then ((laws_markAssetS.f kj8 t257 1).bind fun bt269 => (if bt269.1 < 0 then (laws_FnExactMakeOrder.j1 kj8 l0 t253 t254 t260 true) else ((laws_eqStringS.f kj8 t260 t253).bind fun t271 => (if t271 = true then (laws_FnExactMakeOrder.j1 kj8 l0 t253 t254 t260 (t261 != t254)) else (laws_FnExactMakeOrder.j1 kj8 l0 t253 t254 t260 true))))) else (some false))) = some r := H
     have A24 := Aside0.mk A240
     clear A240
     replace H := Option.bind_eq_some_iff.mp H
     obtain ⟨t268, A250, H⟩ := H
     replace H : (if t268 = true then ((laws_markAssetS.f kj8 t257 1).bind fun bt269 => (if bt269.1 < 0 then (laws_FnExactMakeOrder.j1 kj8 l0 t253 t254 t260 true) else ((laws_eqStringS.f kj8 t260 t253).bind fun t271 => (if t271 = true then (laws_FnExactMakeOrder.j1 kj8 l0 t253 t254 t260 (t261 != t254)) else (laws_FnExactMakeOrder.j1 kj8 l0 t253 t254 t260 true))))) else (some false)) = some r := H
     have A25 := Aside0.mk A250
     clear A250
     by_cases c26 : t268 = true
     ·subst c26
      have H1 : ((laws_markAssetS.f kj8 t257 1).bind fun bt269 => (if bt269.1 < 0 then (laws_FnExactMakeOrder.j1 kj8 l0 t253 t254 t260 true) else ((laws_eqStringS.f kj8 t260 t253).bind fun t271 => (if t271 = true then (laws_FnExactMakeOrder.j1 kj8 l0 t253 t254 t260 (t261 != t254)) else (laws_FnExactMakeOrder.j1 kj8 l0 t253 t254 t260 true))))) = some r := by rw [if_pos rfl] at H; exact H
      clear H
      have H := H1
      clear H1
      replace H := Option.bind_eq_some_iff.mp H
      obtain ⟨⟨t269, t270⟩, A270, H⟩ := H
      replace H : (if t269 < 0 then (laws_FnExactMakeOrder.j1 kj8 l0 t253 t254 t260 true) else ((laws_eqStringS.f kj8 t260 t253).bind fun t271 => (if t271 = true then (laws_FnExactMakeOrder.j1 kj8 l0 t253 t254 t260 (t261 != t254)) else (laws_FnExactMakeOrder.j1 kj8 l0 t253 t254 t260 true)))) = some r := H
      have A27 := Aside0.mk A270
      clear A270
      have HC28 := Aside0.mk H
      clear H
      go_upto_region 14 with (first | ((with_reducible refine gate_callee (f := 9) rfl ?_); refine goesL_ (some 43) rfl rfl Try.func9 (by kernel_rfl) rfl #[.slice A0 l0.length c0] rfl aE ?_; (with_reducible refine (laws_toAssetS.calls kj8 _ _ l0 t265 _ ?side1 ?side2 A24.out).mono ?_); (case side1 => exact cU (Kd.C_below HR0.out HB.out)); (case side2 => exact HC0.out); rintro e w29 ⟨v266, rfl, ho0, hb⟩; refine ⟨_, rfl, ?_⟩; have HO267 := Aside0.mk (Kd.S_lower (Kd.S_new' (Kd.S_new' (Kd.S_new' ho0 (Kd.R_lt (rU HO_4.out))) (Kd.S_lt (by (with_reducible repeat (first | apply Kd.S_alloc | apply Kd.S_drewN | apply Kd.S_drew)); exact HO_6.out))) (Kd.R_lt (rU HO_7.out))) (below_size (lU))); replace HO_4 := Aside0.mk (Kd.R_below (rU HO_4.out) hb); replace HO_6 := Aside0.mk (Kd.S_elder' (by (with_reducible repeat (first | apply Kd.S_alloc | apply Kd.S_drewN | apply Kd.S_drew)); exact HO_6.out) (Kd.S_base ho0) hb); replace HO_7 := Aside0.mk (Kd.R_below (rU HO_7.out) hb); replace HB := bH (lU) hb; (try clear hb); (try clear ho0); obtain ⟨Ao30, co30, eo30⟩ := Kd.S_slice HO267.out; subst eo30) | ((with_reducible refine gate_callee (f := 11) rfl ?_); refine goesL_ (some 44) rfl rfl Try.func11 (by kernel_rfl) rfl #[.slice Ao15 t257.length co15, .slice Ao30 t265.length co30] rfl aE ?_; (with_reducible refine (laws_eqAssetS.calls kj8 _ _ t257 _ _ t265 true _ ?side1 ?side2 ?side3 ?side4 A25.out).mono ?_); (case side1 => exact cU (Kd.S_reads' HO_6.out).2.2); (case side2 => exact (Kd.S_reads' HO_6.out).2.1); (case side3 => exact cU (Kd.S_reads' HO267.out).2.2); (case side4 => exact (Kd.S_reads' HO267.out).2.1); rintro e w31 ⟨rfl, hb⟩; refine ⟨_, rfl, ?_⟩; replace HO_4 := Aside0.mk (Kd.R_below (rU HO_4.out) hb); replace HO_6 := Aside0.mk (Kd.S_below (by (with_reducible repeat (first | apply Kd.S_alloc | apply Kd.S_drewN | apply Kd.S_drew)); exact HO_6.out) hb); replace HO_7 := Aside0.mk (Kd.R_below (rU HO_7.out) hb); replace HO267 := Aside0.mk (Kd.S_below (by (with_reducible repeat (first | apply Kd.S_alloc | apply Kd.S_drewN | apply Kd.S_drew)); exact HO267.out) hb); replace HB := bH (lU) hb; (try clear hb); obtain ⟨PS32, hPS32, HPS32⟩ : ∃ PS_ : Nat → Prop, (∀ k_, PS_ k_ → (((some k_ ≠ (v255 : Value).ownBlock ∧ some k_ ≠ (v262 : Value).ownBlock) ∧ some k_ ≠ (.slice Ao30 t265.length co30 : Value).ownBlock)) ∧ w.heap.size ≤ k_ ∧ k_ < w31.heap.size ∧ ∃ q_, q_ ∈ 63 :: (k63).E ∧ ∃ cells_, w31.heap[k_]? = some (.cells cells_ q_ (0, 0))) ∧ Kd.S k63 63 w31 w.heap.size PS_ (.slice Ao15 t257.length co15) t257 := ⟨_, fun _ h_ => h_, Kd.S_bound HO_6.out⟩) | ((with_reducible refine gate_callee (f := 15) rfl ?_); refine goesL_ (some 48) rfl rfl Try.func15 (by kernel_rfl) rfl #[.slice Ao15 t257.length co15, .int .i64 1] rfl aE ?_; (with_reducible refine (laws_markAssetS.calls kj8 PS32 (.slice Ao15 t257.length co15) t257 1 t269 t270 w _ ?side1 ?side2 A27.out).mono ?_); (case side1 => repeat (first | (with_reducible first | exact HB.out | apply below_alloc | apply pw_below_drewN | apply below_drew1) | exact HB.out)); (case side2 => exact HPS32); rintro e w33 ⟨rfl, hy0, hb, hkp⟩; refine ⟨_, rfl, ?_⟩; replace HO_6 := Aside0.mk (Kd.S_mono (ok' := fun k_ => (some k_ ≠ (v255 : Value).ownBlock ∧ some k_ ≠ (v262 : Value).ownBlock)) hy0 (fun k_ hk_ => Or.elim hk_ (fun hs_ => ⟨(hPS32 k_ hs_).1.1.1, (hPS32 k_ hs_).1.1.2⟩) (fun hn_ => ⟨(Kd.fresh' (Kd.R_lt (rU HO_4.out)) k_ hn_), (Kd.fresh' (Kd.R_lt (rU HO_7.out)) k_ hn_)⟩))); replace HO_4 := Aside0.mk (Kd.R_mono (ok' := fun k_ => some k_ ≠ (v262 : Value).ownBlock) (Kd.R_keptB ((Kd.R_mono (Kd.R_tight2 rfl HO_4.out) (fun k_ hk => (⟨hk.2, fun e_ => ((hPS32 k_ e_).1.1.1) hk.1⟩ : _ ∧ ¬ PS32 k_)))) hkp (fun k_ hk_ hs_ => (hk_.2) hs_)) (fun k_ hk_ => hk_.1.1)); replace HO_7 := Aside0.mk (Kd.R_mono (ok' := fun k_ => some k_ ≠ (v255 : Value).ownBlock) (Kd.R_keptB ((Kd.R_mono (Kd.R_tight2 rfl HO_7.out) (fun k_ hk => (⟨hk.2, fun e_ => ((hPS32 k_ e_).1.1.2) hk.1⟩ : _ ∧ ¬ PS32 k_)))) hkp (fun k_ hk_ hs_ => (hk_.2) hs_)) (fun k_ hk_ => hk_.1.1)); replace HB := Aside0.mk hb; clear HO267; (try clear hb); (try clear hkp); (try clear hg_); (try clear hp_); (try clear hy0)))
      (try simp only [Act.put, List.setIfInBounds_toArray, List.set_cons_zero, List.set_cons_succ])
      go_cut [61] (fun v61 wc => ∃ (kq : Nat) (x61_27 : Bool), v61 = .bool x61_27 ∧ Aside0 (laws_FnExactMakeOrder.j1 kq l0 t253 t254 t260 x61_27 = some r) ∧ Aside0 (kq ≤ kj8) ∧ Aside0 (Kd.R Kd.string 9 wc w.heap.size (fun k_ => some k_ ≠ (v262 : Value).ownBlock) v255 t253) ∧ Aside0 (Kd.R Kd.string 9 wc w.heap.size (fun k_ => some k_ ≠ (v255 : Value).ownBlock) v262 t260) ∧ Aside0 (Below w.heap.size w wc))
      case first =>
       have H := HC28.out
       clear HC28
       by_cases c34 : t269 < 0
       ·rw [if_pos c34] at H
        have c34b0 : decide (t269 < 0) = true := decide_eq_true c34
        clear c34
        (first | rw [c34b0] | (simp only [i64_w, i32_w]; rw [c34b0]) | (rw [c34b2]; simp only [Bool.not_false, Bool.not_true]) | skip)
        have H' := Aside0.mk H
        clear H
        go_wp2
        go_meet
        case rel => exact ⟨_, (true), tE, H', ⟨by have := HJ8.out; first | omega | exact Nat.le_refl _⟩, ⟨by (with_reducible repeat (first | apply Kd.R_alloc | apply Kd.R_drewN | apply Kd.R_drew)); exact HO_4.out⟩, ⟨by (with_reducible repeat (first | apply Kd.R_alloc | apply Kd.R_drewN | apply Kd.R_drew)); exact HO_7.out⟩, ⟨by repeat (first | (with_reducible first | exact HB.out | apply below_alloc | apply pw_below_drewN | apply below_drew1) | exact HB.out)⟩⟩
       ·rw [if_neg c34] at H
        have c34b0 : decide (t269 < 0) = false := decide_eq_false c34
        clear c34
        (first | rw [c34b0] | (simp only [i64_w, i32_w]; rw [c34b0]) | (rw [c34b2]; simp only [Bool.not_false, Bool.not_true]) | skip)
        replace H := Option.bind_eq_some_iff.mp H
        obtain ⟨t271, A350, H⟩ := H
        replace H : (if t271 = true then (laws_FnExactMakeOrder.j1 kj8 l0 t253 t254 t260 (t261 != t254)) else (laws_FnExactMakeOrder.j1 kj8 l0 t253 t254 t260 true)) = some r := H
        have A35 := Aside0.mk A350
        clear A350
        by_cases c36 : t271 = true
        ·subst c36
         have H1 : (laws_FnExactMakeOrder.j1 kj8 l0 t253 t254 t260 (t261 != t254)) = some r := by rw [if_pos rfl] at H; exact H
         clear H
         have H := H1
         clear H1
         have H' := Aside0.mk H
         clear H
         obtain ⟨Ao37, co37, eo37⟩ := Kd.R_slice HO_7.out
         subst eo37
         obtain ⟨Ao38, co38, eo38⟩ := Kd.R_slice HO_4.out
         subst eo38
         go_wp2_with (first | (go_at_call 14; (with_reducible refine (laws_eqStringS.calls kj8 _ _ t260 _ _ t253 true _ ?side1 ?side2 ?side3 ?side4 A35.out).mono ?_); (case side1 => exact cU (Kd.R_reads' HO_7.out).2.2); (case side2 => exact (Kd.R_reads' HO_7.out).2.1); (case side3 => exact cU (Kd.R_reads' HO_4.out).2.2); (case side4 => exact (Kd.R_reads' HO_4.out).2.1); rintro e w' ⟨rfl, ⟨nd, rfl⟩⟩))
         go_meet
         case rel => exact ⟨_, ((t261 != t254)), tE, H', ⟨by have := HJ8.out; first | omega | exact Nat.le_refl _⟩, ⟨by (with_reducible repeat (first | apply Kd.R_alloc | apply Kd.R_drewN | apply Kd.R_drew)); exact HO_4.out⟩, ⟨by (with_reducible repeat (first | apply Kd.R_alloc | apply Kd.R_drewN | apply Kd.R_drew)); exact HO_7.out⟩, ⟨by repeat (first | (with_reducible first | exact HB.out | apply below_alloc | apply pw_below_drewN | apply below_drew1) | exact HB.out)⟩⟩
        ·replace c36 := Bool.eq_false_iff.mpr c36
         subst c36
         have H1 : (laws_FnExactMakeOrder.j1 kj8 l0 t253 t254 t260 true) = some r := by rw [if_neg (show ¬ (false = true) by decide)] at H; exact H
         clear H
         have H := H1
         clear H1
         have H' := Aside0.mk H
         clear H
         obtain ⟨Ao39, co39, eo39⟩ := Kd.R_slice HO_7.out
         subst eo39
         obtain ⟨Ao40, co40, eo40⟩ := Kd.R_slice HO_4.out
         subst eo40
         go_wp2_with (first | (go_at_call 14; (with_reducible refine (laws_eqStringS.calls kj8 _ _ t260 _ _ t253 false _ ?side1 ?side2 ?side3 ?side4 A35.out).mono ?_); (case side1 => exact cU (Kd.R_reads' HO_7.out).2.2); (case side2 => exact (Kd.R_reads' HO_7.out).2.1); (case side3 => exact cU (Kd.R_reads' HO_4.out).2.2); (case side4 => exact (Kd.R_reads' HO_4.out).2.1); rintro e w' ⟨rfl, ⟨nd, rfl⟩⟩))
         go_meet
         case rel => exact ⟨_, (true), tE, H', ⟨by have := HJ8.out; first | omega | exact Nat.le_refl _⟩, ⟨by (with_reducible repeat (first | apply Kd.R_alloc | apply Kd.R_drewN | apply Kd.R_drew)); exact HO_4.out⟩, ⟨by (with_reducible repeat (first | apply Kd.R_alloc | apply Kd.R_drewN | apply Kd.R_drew)); exact HO_7.out⟩, ⟨by repeat (first | (with_reducible first | exact HB.out | apply below_alloc | apply pw_below_drewN | apply below_drew1) | exact HB.out)⟩⟩
      case rest =>
       clear HC28
       try clear c1
       try clear c2
       try clear p2
       try clear c3
       try clear c3b0
       try clear c4
       try clear c7
       try clear c9
       try clear c11
       try clear c12
       try clear c13
       try clear c14
       try clear c15
       try clear c18
       try clear c23
       try clear c26
       try clear c34
       try clear c34b0
       try clear c34b2
       try clear c36
       try clear p2
       obtain ⟨kq, x61_27, rfl, HA, HJ27, HO_4, HO_7, HB⟩ := hcut
       cases kq with
       | zero => exact absurd HA.out (by simp [laws_FnExactMakeOrder.j1])
       | succ kj27 =>
        have H := HA.out
        clear HA
        simp only [laws_FnExactMakeOrder.j1] at H
        by_cases c41 : x61_27 = true
        ·subst c41
         have H1 : (some false) = some r := by rw [if_pos rfl] at H; exact H
         clear H
         have H := H1
         clear H1
         obtain rfl := Option.some.inj H
         go_wp2
         go_ret
         exact ⟨eE, lU⟩
        ·replace c41 := Bool.eq_false_iff.mpr c41
         subst c41
         have H1 : ((laws_markStringS.f kj27 t260 1).bind fun bt272 => ((laws_heldStringS.f kj27 bt272.2 1).bind fun t274 => (if t274 < 0 then (some false) else (if t274 = bt272.1 then ((laws_toAssetS.f kj27 l0).bind fun t275 => ((impl_MakeOrder.f kj27 t275).bind fun bt278 => ((laws_eqStringS.f kj27 bt278.1 t253).bind fun t282 => (if t282 = true then (laws_FnExactMakeOrder.j2 kj27 bt272.2 bt272.1 (bt278.2 != t254)) else (laws_FnExactMakeOrder.j2 kj27 bt272.2 bt272.1 true))))) else (some false))))) = some r := by rw [if_neg (show ¬ (false = true) by decide)] at H; exact H
         clear H
         have H := H1
         clear H1
         replace H := Option.bind_eq_some_iff.mp H
         obtain ⟨⟨t272, t273⟩, A420, H⟩ := H
         replace H : ((laws_heldStringS.f kj27 t273 1).bind fun t274 => (if t274 < 0 then (some false) else (if t274 = t272 then ((laws_toAssetS.f kj27 l0).bind fun t275 => ((impl_MakeOrder.f kj27 t275).bind fun bt278 => ((laws_eqStringS.f kj27 bt278.1 t253).bind fun t282 => (if t282 = true then (laws_FnExactMakeOrder.j2 kj27 t273 t272 (bt278.2 != t254)) else (laws_FnExactMakeOrder.j2 kj27 t273 t272 true))))) else (some false)))) = some r := H
         have A42 := Aside0.mk A420
         clear A420
         replace H := Option.bind_eq_some_iff.mp H
         obtain ⟨t274, A430, H⟩ := H
         replace H : (if t274 < 0 then (some false) else (if t274 = t272 then ((laws_toAssetS.f kj27 l0).bind fun t275 => ((impl_MakeOrder.f kj27 t275).bind fun bt278 => ((laws_eqStringS.f kj27 bt278.1 t253).bind fun t282 => (if t282 = true then (laws_FnExactMakeOrder.j2 kj27 t273 t272 (bt278.2 != t254)) else (laws_FnExactMakeOrder.j2 kj27 t273 t272 true))))) else (some false))) = some r := H
         have A43 := Aside0.mk A430
         clear A430
         by_cases c44 : t274 < 0
         ·rw [if_pos c44] at H
          have c44b0 : decide (t274 < 0) = true := decide_eq_true c44
          clear c44
          obtain rfl := Option.some.inj H
          obtain ⟨Ao45, co45, eo45⟩ := Kd.R_slice HO_7.out
          subst eo45
          go_wp2_with (first | ((with_reducible refine gate_callee (f := 16) rfl ?_); refine goesL_ (some 64) rfl rfl Try.func16 (by kernel_rfl) rfl #[.slice Ao45 t260.length co45, .int .i64 1] rfl aE ?_; (with_reducible refine (laws_markStringS.calls kj27 (fun k_ => some k_ = (.slice Ao45 t260.length co45 : Value).ownBlock) (.slice Ao45 t260.length co45) t260 1 t272 t273 w _ ?side1 ?side2 A42.out).mono ?_); (case side1 => repeat (first | (with_reducible first | exact HB.out | apply below_alloc | apply pw_below_drewN | apply below_drew1) | exact HB.out)); (case side2 => exact Kd.R_tight rfl HO_7.out); rintro e w46 ⟨rfl, hy0, hb, hkp⟩; refine ⟨_, rfl, ?_⟩; replace HO_4 := Aside0.mk (Kd.R_mono (ok' := fun k_ => some k_ ≠ (.slice Ao45 t260.length co45 : Value).ownBlock) (Kd.R_keptB (HO_4.out) hkp (fun k_ hk_ hs_ => (hk_) hs_)) (fun k_ hk_ => hk_.1)); replace HO_7 := Aside0.mk (Kd.R_reok rfl hy0 (fun k_ e_ => HO_7.out.1 k_ e_)); replace HB := Aside0.mk hb; (try clear hb); (try clear hkp); (try clear hg_); (try clear hp_); (try clear hy0)) | ((with_reducible refine gate_callee (f := 17) rfl ?_); refine goesL_ (some 67) rfl rfl Try.func17 (by kernel_rfl) rfl #[.slice Ao45 t273.length co45, .int .i64 1] rfl (by (try simp only [List.map_toArray, List.map_cons, List.map_nil]); first | done | (rw [show t273.length = t260.length from (Kd.R_reads' HO_7.out).1.symm] <;> rfl) | rfl | (simp only [List.length_drop, List.length_take]; rfl)) ?_; (with_reducible refine (laws_heldStringS.calls kj27 _ _ t273 1 t274 _ ?side1 ?side2 A43.out).mono ?_); (case side1 => exact cU (Kd.R_reads' HO_7.out).2.2); (case side2 => rw [show t273.length = t260.length from (Kd.R_reads' HO_7.out).1.symm]; exact (Kd.R_reads' HO_7.out).2.1); rintro e w47 ⟨rfl, hb⟩; refine ⟨_, rfl, ?_⟩; replace HO_4 := Aside0.mk (Kd.R_below (rU HO_4.out) hb); replace HO_7 := Aside0.mk (Kd.R_below (rU HO_7.out) hb); replace HB := bH (lU) hb; (try clear hb)))
          go_ret
          exact ⟨eE, lU⟩
         ·rw [if_neg c44] at H
          have c44b0 : decide (t274 < 0) = false := decide_eq_false c44
          clear c44
          by_cases c48 : t274 = t272
          ·rw [if_pos c48] at H
           have c48b0 : (t274 == t272) = true := beq_iff_eq.mpr c48
           have c48b1 : (t274 != t272) = false := bne_eq_false_iff_eq.mpr c48
           clear c48
           replace H := Option.bind_eq_some_iff.mp H
           obtain ⟨t275, A490, H⟩ := H
           replace H : ((impl_MakeOrder.f kj27 t275).bind fun bt278 => ((laws_eqStringS.f kj27 bt278.1 t253).bind fun t282 => (if t282 = true then (laws_FnExactMakeOrder.j2 kj27 t273 t272 (bt278.2 != t254)) else (laws_FnExactMakeOrder.j2 kj27 t273 t272 true)))) = some r := H
           have A49 := Aside0.mk A490
           clear A490
           replace H := Option.bind_eq_some_iff.mp H
           obtain ⟨⟨t278, t279⟩, A500, H⟩ := H
           replace H : ((laws_eqStringS.f kj27 t278 t253).bind fun t282 => (if t282 = true then (laws_FnExactMakeOrder.j2 kj27 t273 t272 (t279 != t254)) else (laws_FnExactMakeOrder.j2 kj27 t273 t272 true))) = some r := H
           have A50 := Aside0.mk A500
           clear A500
           have HC51 := Aside0.mk H
           clear H
           obtain ⟨Ao52, co52, eo52⟩ := Kd.R_slice HO_7.out
           subst eo52
           go_upto_region 25 with (first | ((with_reducible refine gate_callee (f := 16) rfl ?_); refine goesL_ (some 64) rfl rfl Try.func16 (by kernel_rfl) rfl #[.slice Ao52 t260.length co52, .int .i64 1] rfl aE ?_; (with_reducible refine (laws_markStringS.calls kj27 (fun k_ => some k_ = (.slice Ao52 t260.length co52 : Value).ownBlock) (.slice Ao52 t260.length co52) t260 1 t272 t273 w _ ?side1 ?side2 A42.out).mono ?_); (case side1 => repeat (first | (with_reducible first | exact HB.out | apply below_alloc | apply pw_below_drewN | apply below_drew1) | exact HB.out)); (case side2 => exact Kd.R_tight rfl HO_7.out); rintro e w53 ⟨rfl, hy0, hb, hkp⟩; refine ⟨_, rfl, ?_⟩; replace HO_4 := Aside0.mk (Kd.R_mono (ok' := fun k_ => some k_ ≠ (.slice Ao52 t260.length co52 : Value).ownBlock) (Kd.R_keptB (HO_4.out) hkp (fun k_ hk_ hs_ => (hk_) hs_)) (fun k_ hk_ => hk_.1)); replace HO_7 := Aside0.mk (Kd.R_reok rfl hy0 (fun k_ e_ => HO_7.out.1 k_ e_)); replace HB := Aside0.mk hb; (try clear hb); (try clear hkp); (try clear hg_); (try clear hp_); (try clear hy0)) | ((with_reducible refine gate_callee (f := 17) rfl ?_); refine goesL_ (some 67) rfl rfl Try.func17 (by kernel_rfl) rfl #[.slice Ao52 t273.length co52, .int .i64 1] rfl (by (try simp only [List.map_toArray, List.map_cons, List.map_nil]); first | done | (rw [show t273.length = t260.length from (Kd.R_reads' HO_7.out).1.symm] <;> rfl) | rfl | (simp only [List.length_drop, List.length_take]; rfl)) ?_; (with_reducible refine (laws_heldStringS.calls kj27 _ _ t273 1 t274 _ ?side1 ?side2 A43.out).mono ?_); (case side1 => exact cU (Kd.R_reads' HO_7.out).2.2); (case side2 => rw [show t273.length = t260.length from (Kd.R_reads' HO_7.out).1.symm]; exact (Kd.R_reads' HO_7.out).2.1); rintro e w54 ⟨rfl, hb⟩; refine ⟨_, rfl, ?_⟩; replace HO_4 := Aside0.mk (Kd.R_below (rU HO_4.out) hb); replace HO_7 := Aside0.mk (Kd.R_below (rU HO_7.out) hb); replace HB := bH (lU) hb; (try clear hb)) | ((with_reducible refine gate_callee (f := 9) rfl ?_); refine goesL_ (some 75) rfl rfl Try.func9 (by kernel_rfl) rfl #[.slice A0 l0.length c0] rfl aE ?_; (with_reducible refine (laws_toAssetS.calls kj27 _ _ l0 t275 _ ?side1 ?side2 A49.out).mono ?_); (case side1 => exact cU (Kd.C_below HR0.out HB.out)); (case side2 => exact HC0.out); rintro e w55 ⟨v276, rfl, ho0, hb⟩; refine ⟨_, rfl, ?_⟩; have HO277 := Aside0.mk (Kd.S_lower (Kd.S_new' (Kd.S_new' ho0 (Kd.R_lt (rU HO_4.out))) (Kd.R_lt (rU HO_7.out))) (below_size (lU))); replace HO_4 := Aside0.mk (Kd.R_below (rU HO_4.out) hb); replace HO_7 := Aside0.mk (Kd.R_below (rU HO_7.out) hb); replace HB := bH (lU) hb; (try clear hb); (try clear ho0); obtain ⟨Ao56, co56, eo56⟩ := Kd.S_slice HO277.out; subst eo56) | ((with_reducible refine gate_callee (f := 13) rfl ?_); refine goesL_ (some 76) rfl rfl Try.func13 (by kernel_rfl) rfl #[.slice Ao56 t275.length co56] rfl aE ?_; (with_reducible refine (impl_MakeOrder.calls kj27 _ _ t275 t278 t279 _ ?side1 ?side2 A50.out).mono ?_); (case side1 => exact cU (Kd.S_reads' HO277.out).2.2); (case side2 => exact (Kd.S_reads' HO277.out).2.1); rintro e w57 ⟨v280, rfl, ho0, hb⟩; refine ⟨_, rfl, ?_⟩; replace HO277 := Aside0.mk (Kd.S_elder' (by (with_reducible repeat (first | apply Kd.S_alloc | apply Kd.S_drewN | apply Kd.S_drew)); exact HO277.out) (Kd.R_base ho0) hb); have HO281 := Aside0.mk (Kd.R_lower (Kd.R_new' (Kd.R_new' ho0 (Kd.R_lt (rU HO_4.out))) (Kd.R_lt (rU HO_7.out))) (below_size (lU))); replace HO_4 := Aside0.mk (Kd.R_elder' (rU HO_4.out) (Kd.R_base ho0) hb); replace HO_7 := Aside0.mk (Kd.R_elder' (rU HO_7.out) (Kd.R_base ho0) hb); replace HB := bH (lU) hb; (try clear hb); (try clear ho0)))
           (try simp only [Act.put, List.setIfInBounds_toArray, List.set_cons_zero, List.set_cons_succ])
           go_cut [87] (fun v87 wc => ∃ (kq : Nat) (x87_50 : Bool), v87 = .bool x87_50 ∧ Aside0 (laws_FnExactMakeOrder.j2 kq t273 t272 x87_50 = some r) ∧ Aside0 (kq ≤ kj27) ∧ Aside0 (Kd.R Kd.string 9 wc w.heap.size (fun _ => True) (.slice Ao52 t260.length co52) t273) ∧ Aside0 (Below w.heap.size w wc))
           case first =>
            have H := HC51.out
            clear HC51
            replace H := Option.bind_eq_some_iff.mp H
            obtain ⟨t282, A580, H⟩ := H
            replace H : (if t282 = true then (laws_FnExactMakeOrder.j2 kj27 t273 t272 (t279 != t254)) else (laws_FnExactMakeOrder.j2 kj27 t273 t272 true)) = some r := H
            have A58 := Aside0.mk A580
            clear A580
            by_cases c59 : t282 = true
            ·subst c59
             have H1 : (laws_FnExactMakeOrder.j2 kj27 t273 t272 (t279 != t254)) = some r := by rw [if_pos rfl] at H; exact H
             clear H
             have H := H1
             clear H1
             have H' := Aside0.mk H
             clear H
             obtain ⟨Ao60, co60, eo60⟩ := Kd.R_slice HO281.out
             subst eo60
             obtain ⟨Ao61, co61, eo61⟩ := Kd.R_slice HO_4.out
             subst eo61
             go_wp2_with (first | ((with_reducible refine gate_callee (f := 14) rfl ?_); refine goesL_ (some 81) rfl rfl Try.func14 (by kernel_rfl) rfl #[.slice Ao60 t278.length co60, .slice Ao61 t253.length co61] rfl aE ?_; (with_reducible refine (laws_eqStringS.calls kj27 _ _ t278 _ _ t253 true _ ?side1 ?side2 ?side3 ?side4 A58.out).mono ?_); (case side1 => exact cU (Kd.R_reads' HO281.out).2.2); (case side2 => exact (Kd.R_reads' HO281.out).2.1); (case side3 => exact cU (Kd.R_reads' HO_4.out).2.2); (case side4 => exact (Kd.R_reads' HO_4.out).2.1); rintro e w' ⟨rfl, ⟨nd, rfl⟩⟩; refine ⟨_, rfl, ?_⟩))
             go_meet
             case rel => exact ⟨_, ((t279 != t254)), tE, H', ⟨by have := HJ8.out; have := HJ27.out; first | omega | exact Nat.le_refl _⟩, ⟨by (with_reducible repeat (first | apply Kd.R_alloc | apply Kd.R_drewN | apply Kd.R_drew)); exact Kd.R_mono HO_7.out (fun _ hk => trivial)⟩, ⟨by repeat (first | (with_reducible first | exact HB.out | apply below_alloc | apply pw_below_drewN | apply below_drew1) | exact HB.out)⟩⟩
            ·replace c59 := Bool.eq_false_iff.mpr c59
             subst c59
             have H1 : (laws_FnExactMakeOrder.j2 kj27 t273 t272 true) = some r := by rw [if_neg (show ¬ (false = true) by decide)] at H; exact H
             clear H
             have H := H1
             clear H1
             have H' := Aside0.mk H
             clear H
             obtain ⟨Ao62, co62, eo62⟩ := Kd.R_slice HO281.out
             subst eo62
             obtain ⟨Ao63, co63, eo63⟩ := Kd.R_slice HO_4.out
             subst eo63
             go_wp2_with (first | ((with_reducible refine gate_callee (f := 14) rfl ?_); refine goesL_ (some 81) rfl rfl Try.func14 (by kernel_rfl) rfl #[.slice Ao62 t278.length co62, .slice Ao63 t253.length co63] rfl aE ?_; (with_reducible refine (laws_eqStringS.calls kj27 _ _ t278 _ _ t253 false _ ?side1 ?side2 ?side3 ?side4 A58.out).mono ?_); (case side1 => exact cU (Kd.R_reads' HO281.out).2.2); (case side2 => exact (Kd.R_reads' HO281.out).2.1); (case side3 => exact cU (Kd.R_reads' HO_4.out).2.2); (case side4 => exact (Kd.R_reads' HO_4.out).2.1); rintro e w' ⟨rfl, ⟨nd, rfl⟩⟩; refine ⟨_, rfl, ?_⟩))
             go_meet
             case rel => exact ⟨_, (true), tE, H', ⟨by have := HJ8.out; have := HJ27.out; first | omega | exact Nat.le_refl _⟩, ⟨by (with_reducible repeat (first | apply Kd.R_alloc | apply Kd.R_drewN | apply Kd.R_drew)); exact Kd.R_mono HO_7.out (fun _ hk => trivial)⟩, ⟨by repeat (first | (with_reducible first | exact HB.out | apply below_alloc | apply pw_below_drewN | apply below_drew1) | exact HB.out)⟩⟩
           case rest =>
            clear HC51
            try clear c1
            try clear c2
            try clear p2
            try clear c3
            try clear c3b0
            try clear c4
            try clear c5
            try clear c7
            try clear c9
            try clear c11
            try clear c12
            try clear c13
            try clear c14
            try clear c15
            try clear c16
            try clear c17
            try clear c18
            try clear c23
            try clear c26
            try clear c34
            try clear c34b0
            try clear c34b2
            try clear c36
            try clear c41
            try clear c44
            try clear c44b0
            try clear c48
            try clear c48b0
            try clear c48b1
            try clear c59
            try clear p2
            obtain ⟨kq, x87_50, rfl, HA, HJ50, HO_7, HB⟩ := hcut
            have hl7_50 := (Kd.R_reads' HO_7.out).1
            rw [hl7_50] at HO_7
            (try simp only [hl7_50])
            cases kq with
            | zero => exact absurd HA.out (by simp [laws_FnExactMakeOrder.j2])
            | succ kj50 =>
             have H := HA.out
             clear HA
             simp only [laws_FnExactMakeOrder.j2] at H
             by_cases c64 : x87_50 = true
             ·subst c64
              have H1 : (some false) = some r := by rw [if_pos rfl] at H; exact H
              clear H
              have H := H1
              clear H1
              obtain rfl := Option.some.inj H
              go_wp2
              go_ret
              exact ⟨eE, lU⟩
             ·replace c64 := Bool.eq_false_iff.mpr c64
              subst c64
              have H1 : ((laws_heldStringS.f kj50 t273 1).bind fun t283 => (if t283 < 0 then (some false) else (if t283 = t272 then (some true) else (some false)))) = some r := by rw [if_neg (show ¬ (false = true) by decide)] at H; exact H
              clear H
              have H := H1
              clear H1
              replace H := Option.bind_eq_some_iff.mp H
              obtain ⟨t283, A650, H⟩ := H
              replace H : (if t283 < 0 then (some false) else (if t283 = t272 then (some true) else (some false))) = some r := H
              have A65 := Aside0.mk A650
              clear A650
              by_cases c66 : t283 < 0
              ·rw [if_pos c66] at H
               have c66b0 : decide (t283 < 0) = true := decide_eq_true c66
               clear c66
               obtain rfl := Option.some.inj H
               go_wp2_with (first | ((with_reducible refine gate_callee (f := 17) rfl ?_); refine goesL_ (some 90) rfl rfl Try.func17 (by kernel_rfl) rfl #[.slice Ao52 t273.length co52, .int .i64 1] rfl aE ?_; (with_reducible refine (laws_heldStringS.calls kj50 _ _ t273 1 t283 _ ?side1 ?side2 A65.out).mono ?_); (case side1 => exact cU (Kd.R_reads' HO_7.out).2.2); (case side2 => exact (Kd.R_reads' HO_7.out).2.1); rintro e w67 ⟨rfl, hb⟩; refine ⟨_, rfl, ?_⟩; replace HO_7 := Aside0.mk (Kd.R_below (rU HO_7.out) hb); replace HB := bH (lU) hb; (try clear hb)))
               go_ret
               exact ⟨eE, lU⟩
              ·rw [if_neg c66] at H
               have c66b0 : decide (t283 < 0) = false := decide_eq_false c66
               clear c66
               by_cases c68 : t283 = t272
               ·rw [if_pos c68] at H
                have c68b0 : (t283 == t272) = true := beq_iff_eq.mpr c68
                have c68b1 : (t283 != t272) = false := bne_eq_false_iff_eq.mpr c68
                clear c68
                obtain rfl := Option.some.inj H
                go_wp2_with (first | ((with_reducible refine gate_callee (f := 17) rfl ?_); refine goesL_ (some 90) rfl rfl Try.func17 (by kernel_rfl) rfl #[.slice Ao52 t273.length co52, .int .i64 1] rfl aE ?_; (with_reducible refine (laws_heldStringS.calls kj50 _ _ t273 1 t283 _ ?side1 ?side2 A65.out).mono ?_); (case side1 => exact cU (Kd.R_reads' HO_7.out).2.2); (case side2 => exact (Kd.R_reads' HO_7.out).2.1); rintro e w69 ⟨rfl, hb⟩; refine ⟨_, rfl, ?_⟩; replace HO_7 := Aside0.mk (Kd.R_below (rU HO_7.out) hb); replace HB := bH (lU) hb; (try clear hb)))
                go_ret
                exact ⟨eE, lU⟩
               ·rw [if_neg c68] at H
                have c68b0 : (t283 == t272) = false := beq_eq_false_iff_ne.mpr c68
                have c68b1 : (t283 != t272) = true := bne_iff_ne.mpr c68
                obtain rfl := Option.some.inj H
                go_wp2_with (first | ((with_reducible refine gate_callee (f := 17) rfl ?_); refine goesL_ (some 90) rfl rfl Try.func17 (by kernel_rfl) rfl #[.slice Ao52 t273.length co52, .int .i64 1] rfl aE ?_; (with_reducible refine (laws_heldStringS.calls kj50 _ _ t273 1 t283 _ ?side1 ?side2 A65.out).mono ?_); (case side1 => exact cU (Kd.R_reads' HO_7.out).2.2); (case side2 => exact (Kd.R_reads' HO_7.out).2.1); rintro e w70 ⟨rfl, hb⟩; refine ⟨_, rfl, ?_⟩; replace HO_7 := Aside0.mk (Kd.R_below (rU HO_7.out) hb); replace HB := bH (lU) hb; (try clear hb)))
                go_ret
                exact ⟨eE, lU⟩
          ·rw [if_neg c48] at H
           have c48b0 : (t274 == t272) = false := beq_eq_false_iff_ne.mpr c48
           have c48b1 : (t274 != t272) = true := bne_iff_ne.mpr c48
           obtain rfl := Option.some.inj H
           obtain ⟨Ao71, co71, eo71⟩ := Kd.R_slice HO_7.out
           subst eo71
           go_wp2_with (first | ((with_reducible refine gate_callee (f := 16) rfl ?_); refine goesL_ (some 64) rfl rfl Try.func16 (by kernel_rfl) rfl #[.slice Ao71 t260.length co71, .int .i64 1] rfl aE ?_; (with_reducible refine (laws_markStringS.calls kj27 (fun k_ => some k_ = (.slice Ao71 t260.length co71 : Value).ownBlock) (.slice Ao71 t260.length co71) t260 1 t272 t273 w _ ?side1 ?side2 A42.out).mono ?_); (case side1 => repeat (first | (with_reducible first | exact HB.out | apply below_alloc | apply pw_below_drewN | apply below_drew1) | exact HB.out)); (case side2 => exact Kd.R_tight rfl HO_7.out); rintro e w72 ⟨rfl, hy0, hb, hkp⟩; refine ⟨_, rfl, ?_⟩; replace HO_4 := Aside0.mk (Kd.R_mono (ok' := fun k_ => some k_ ≠ (.slice Ao71 t260.length co71 : Value).ownBlock) (Kd.R_keptB (HO_4.out) hkp (fun k_ hk_ hs_ => (hk_) hs_)) (fun k_ hk_ => hk_.1)); replace HO_7 := Aside0.mk (Kd.R_reok rfl hy0 (fun k_ e_ => HO_7.out.1 k_ e_)); replace HB := Aside0.mk hb; (try clear hb); (try clear hkp); (try clear hg_); (try clear hp_); (try clear hy0)) | ((with_reducible refine gate_callee (f := 17) rfl ?_); refine goesL_ (some 67) rfl rfl Try.func17 (by kernel_rfl) rfl #[.slice Ao71 t273.length co71, .int .i64 1] rfl (by (try simp only [List.map_toArray, List.map_cons, List.map_nil]); first | done | (rw [show t273.length = t260.length from (Kd.R_reads' HO_7.out).1.symm] <;> rfl) | rfl | (simp only [List.length_drop, List.length_take]; rfl)) ?_; (with_reducible refine (laws_heldStringS.calls kj27 _ _ t273 1 t274 _ ?side1 ?side2 A43.out).mono ?_); (case side1 => exact cU (Kd.R_reads' HO_7.out).2.2); (case side2 => rw [show t273.length = t260.length from (Kd.R_reads' HO_7.out).1.symm]; exact (Kd.R_reads' HO_7.out).2.1); rintro e w73 ⟨rfl, hb⟩; refine ⟨_, rfl, ?_⟩; replace HO_4 := Aside0.mk (Kd.R_below (rU HO_4.out) hb); replace HO_7 := Aside0.mk (Kd.R_below (rU HO_7.out) hb); replace HB := bH (lU) hb; (try clear hb)))
           go_ret
           exact ⟨eE, lU⟩
     ·replace c26 := Bool.eq_false_iff.mpr c26
      subst c26
      have H1 : (some false) = some r := by rw [if_neg (show ¬ (false = true) by decide)] at H; exact H
      clear H
      have H := H1
      clear H1
      obtain rfl := Option.some.inj H
      go_wp2_with (first | ((with_reducible refine gate_callee (f := 9) rfl ?_); refine goesL_ (some 43) rfl rfl Try.func9 (by kernel_rfl) rfl #[.slice A0 l0.length c0] rfl aE ?_; (with_reducible refine (laws_toAssetS.calls kj8 _ _ l0 t265 _ ?side1 ?side2 A24.out).mono ?_); (case side1 => exact cU (Kd.C_below HR0.out HB.out)); (case side2 => exact HC0.out); rintro e w74 ⟨v266, rfl, ho0, hb⟩; refine ⟨_, rfl, ?_⟩; have HO267 := Aside0.mk (Kd.S_lower (Kd.S_new' (Kd.S_new' (Kd.S_new' ho0 (Kd.R_lt (rU HO_4.out))) (Kd.S_lt (by (with_reducible repeat (first | apply Kd.S_alloc | apply Kd.S_drewN | apply Kd.S_drew)); exact HO_6.out))) (Kd.R_lt (rU HO_7.out))) (below_size (lU))); replace HO_4 := Aside0.mk (Kd.R_below (rU HO_4.out) hb); replace HO_6 := Aside0.mk (Kd.S_elder' (by (with_reducible repeat (first | apply Kd.S_alloc | apply Kd.S_drewN | apply Kd.S_drew)); exact HO_6.out) (Kd.S_base ho0) hb); replace HO_7 := Aside0.mk (Kd.R_below (rU HO_7.out) hb); replace HB := bH (lU) hb; (try clear hb); (try clear ho0); obtain ⟨Ao75, co75, eo75⟩ := Kd.S_slice HO267.out; subst eo75) | ((with_reducible refine gate_callee (f := 11) rfl ?_); refine goesL_ (some 44) rfl rfl Try.func11 (by kernel_rfl) rfl #[.slice Ao15 t257.length co15, .slice Ao75 t265.length co75] rfl aE ?_; (with_reducible refine (laws_eqAssetS.calls kj8 _ _ t257 _ _ t265 false _ ?side1 ?side2 ?side3 ?side4 A25.out).mono ?_); (case side1 => exact cU (Kd.S_reads' HO_6.out).2.2); (case side2 => exact (Kd.S_reads' HO_6.out).2.1); (case side3 => exact cU (Kd.S_reads' HO267.out).2.2); (case side4 => exact (Kd.S_reads' HO267.out).2.1); rintro e w76 ⟨rfl, hb⟩; refine ⟨_, rfl, ?_⟩; replace HO_4 := Aside0.mk (Kd.R_below (rU HO_4.out) hb); replace HO_6 := Aside0.mk (Kd.S_below (by (with_reducible repeat (first | apply Kd.S_alloc | apply Kd.S_drewN | apply Kd.S_drew)); exact HO_6.out) hb); replace HO_7 := Aside0.mk (Kd.R_below (rU HO_7.out) hb); replace HO267 := Aside0.mk (Kd.S_below (by (with_reducible repeat (first | apply Kd.S_alloc | apply Kd.S_drewN | apply Kd.S_drew)); exact HO267.out) hb); replace HB := bH (lU) hb; (try clear hb)))
      go_ret
      exact ⟨eE, lU⟩
end Go.Proofs.Ytifejplilaefiaa.PFnExactMakeOrder
namespace Go.Proofs.YtifejplilaefiaaO
open Go.ChangeShapes Go.WideShapes Go.Proofs.YtifejplilaefiaaW.PrintWords Go.RowKit
def InU8 (n : Int) : Prop := 0 ≤ n ∧ n ≤ 255
def Opens {α : Type} (P : Program) (t : TypeId) (d : Kd α) (g : α → Prop) : Prop :=
  ∀ {H : Type} (enc : TypeId × Value → H) (w : World) (fuel : Nat) (cs : List Value) (y : DataW H) (ps : List MemPlace),
    DataW.trod enc P w 0 (fun _ => true) true fuel t cs = some (y, ps) → (∀ n ∈ y.weights P t, n ≤ reachBytes) → ∃ x, d.K w x cs ∧ g x
theorem Opens.imp {α : Type} {P : Program} {t : TypeId} {d : Kd α} {g g' : α → Prop} (h : Opens P t d g) (k : ∀ x, g x → g' x) : Opens P t d g' := by
  intro H enc w fuel cs y ps ht hw
  obtain ⟨x, hx, hg⟩ := h enc w fuel cs y ps ht hw
  exact ⟨x, hx, k x hg⟩
theorem opens_int {P : Program} {t : TypeId} {k : IntKind} (ht : P.underlying t = some (.int k)) : Opens P t (Kd.int k) (fun n => (Lit.int k n).wf = true) := by
  intro H enc w fuel cs y ps h _
  obtain ⟨n, rfl, _, hw⟩ := DataW.trod_int ht h
  exact ⟨n, rfl, hw⟩
theorem wf_u8 {n : Int} (h : (Lit.int .u8 n).wf = true) : InU8 n := bounds_u8 h
theorem opens_u8 {P : Program} {t : TypeId} (ht : P.underlying t = some (.int .u8)) : Opens P t (Kd.int .u8) InU8 := Opens.imp (opens_int ht) fun _ h => wf_u8 h
theorem opens_string {P : Program} {t : TypeId} (ht : P.underlying t = some .string) : Opens P t Kd.string (fun s => s.size ≤ 140737488351232) := by
  intro H enc w fuel cs y ps h hw
  obtain ⟨s, rfl, hx, _⟩ := DataW.trod_string ht h
  obtain ⟨rfl, _⟩ := Prod.mk.inj hx
  refine ⟨s, rfl, ?_⟩
  have := hw s.data.toList.length (by simp [DataW.weights])
  rw [Array.length_toList] at this
  exact this
theorem exists_list {α : Type} (p : Nat → α → Prop) : ∀ n : Nat, (∀ i, i < n → ∃ x, p i x) → ∃ xs : List α, xs.length = n ∧ ∀ i x, xs[i]? = some x → p i x
  | 0, _ => ⟨[], rfl, fun i x h => by simp at h⟩
  | n + 1, h => by
    obtain ⟨xs, hl, hx⟩ := exists_list p n (fun i hi => h i (by omega))
    obtain ⟨x, hp⟩ := h n (by omega)
    refine ⟨xs ++ [x], by simp [hl], fun i y hy => ?_⟩
    rcases Nat.lt_or_ge i xs.length with hi | hi
    · rw [List.getElem?_append_left hi] at hy
      exact hx i y hy
    · have : i = n := by
        have := (List.getElem?_eq_some_iff.1 hy).1
        rw [List.length_append, List.length_singleton] at this
        omega
      subst this
      rw [List.getElem?_append_right hi] at hy
      rw [hl] at hy
      simp at hy
      subst hy
      exact hp
theorem add_add (ad : Addr) (i j : Nat) : (ad.add i).add j = ad.add (i + j) := by
  unfold Addr.add
  by_cases h1 : i = 0 <;> by_cases h2 : j = 0 <;> simp [h1, h2, Nat.add_assoc]
theorem weightsAll_mem {H : Type} {P : Program} {e : TypeId} : ∀ {l : List (DataW H)} {d : DataW H}, d ∈ l → ∀ n ∈ d.weights P e, n ∈ DataW.weightsAll P e l
  | [], d, h, _, _ => by simp at h
  | x :: r, d, h, n, hn => by
    simp only [DataW.weightsAll, List.mem_append]
    rcases List.mem_cons.1 h with rfl | h
    · exact .inl hn
    · exact .inr (weightsAll_mem h n hn)
theorem opens_slice {α : Type} {P : Program} {t e : TypeId} {d : Kd α} {g : α → Prop} {B : Nat} (ht : P.underlying t = some (.slice e)) (hs : P.cellsOf e = d.sz) (hB : P.bytesOf e = B) (h : Opens P e d g) :
    Opens P t (Kd.slice e d) (fun xs => xs.length * B ≤ 140737488351232 ∧ ∀ x ∈ xs, g x) := by
  intro H enc w fuel cs y ps hy hw
  rcases DataW.trod_slice ht hy with ⟨rfl, _⟩ | ⟨a, len, cap, elems, rest, n, rfl, rfl, hx, _, hlc, hcm, hel, hget, _, _⟩
  · exact ⟨[], ⟨none, 0, rfl, Nat.le_refl _, Kd.C_nil d w⟩, by simp⟩
  · obtain ⟨rfl, _⟩ := Prod.mk.inj hx
    simp only [DataW.weights, ht] at hw
    have hlen : len * B ≤ 140737488351232 := by
      have := hw _ List.mem_cons_self
      simp only [List.length_map, hB] at this
      have h2 : len * B ≤ (elems.length + rest.length) * B := Nat.mul_le_mul_right _ (by omega)
      exact Nat.le_trans h2 this
    have key : ∀ i, i < len → ∃ x, (∃ c, c.length = d.sz ∧ d.K w x c ∧ ∀ j u, c[j]? = some u → w.cell? (a.add (i * d.sz + j)) = some u) ∧ g x := by
      intro i hi
      have hg := hget i hi
      rw [List.getElem?_eq_getElem (by omega), Option.bind_eq_some_iff] at hg
      obtain ⟨c, hc, hd⟩ := hg
      obtain ⟨_, hcl, hcell⟩ := World.cells?_some hc
      obtain ⟨x, hK, hgx⟩ := h enc w n c _ _ hd (fun m hm => hw m (List.mem_cons_of_mem _ (List.mem_append_left _ (weightsAll_mem (List.mem_map_of_mem (List.getElem_mem _)) m hm))))
      refine ⟨x, ⟨c, hcl.trans hs, hK, fun j u hj => ?_⟩, hgx⟩
      have hjl : j < P.cellsOf e := by
        have := (List.getElem?_eq_some_iff.1 hj).1
        omega
      have := hcell j hjl
      rw [add_add, hj, hs] at this
      exact this
    obtain ⟨xs, hxl, hxs⟩ := exists_list _ len key
    refine ⟨xs, ⟨some a, cap, by rw [hxl], by omega, hxl ▸ ⟨hxl, by simp only [maxLen] at hcm; omega, fun _ => ⟨a, rfl, fun j p hp => (hxs j p hp).1⟩⟩⟩, by rw [hxl]; exact hlen, fun x hx => ?_⟩
    obtain ⟨i, hi, rfl⟩ := List.getElem_of_mem hx
    exact (hxs i _ (List.getElem?_eq_getElem hi)).2
theorem opens_iso {α β : Type} {P : Program} {t : TypeId} {d : Kd α} {g : α → Prop} (f : β → α) (inv : α → β) (hi : ∀ x, f (inv x) = x) (h : Opens P t d g) : Opens P t (Kd.iso d f) (fun x => g (f x)) := by
  intro H enc w fuel cs y ps hy hw
  obtain ⟨x, hK, hg⟩ := h enc w fuel cs y ps hy hw
  refine ⟨inv x, ?_, ?_⟩
  · show d.K w (f (inv x)) cs
    rw [hi]; exact hK
  · show g (f (inv x))
    rw [hi]; exact hg
def OpensL {α : Type} (P : Program) (fs : List Field) (off : Nat) (d : Kd α) (g : α → Prop) : Prop :=
  ∀ {H : Type} (enc : TypeId × Value → H) (w : World) (n : Nat) (cs : List Value) (ys : List (DataW H × List MemPlace)), ys.length = fs.length →
    (∀ (i : Nat) (f : Field), fs[i]? = some f → DataW.trod enc P w 0 (fun _ => true) true n f.type ((cs.drop f.offset).take (P.cellsOf f.type)) = ys[i]?) →
    (∀ m ∈ DataW.weightsEach P (fs.map (·.type)) (ys.map (·.1)), m ≤ reachBytes) → ∃ x, d.K w x ((cs.drop off).take d.sz) ∧ g x
theorem opensL_one {α : Type} {P : Program} {f : Field} {off : Nat} {d : Kd α} {g : α → Prop} (ho : f.offset = off) (hs : P.cellsOf f.type = d.sz) (h : Opens P f.type d g) : OpensL P [f] off d g := by
  intro H enc w n cs ys hl hf hw
  match ys, hl with
  | [y], _ =>
    have h0 := hf 0 f rfl
    rw [ho, hs] at h0
    exact h enc w n _ y.1 y.2 h0 (fun m hm => hw m (by simp only [List.map_cons, DataW.weightsEach, List.mem_append]; exact .inl hm))
theorem opensL_cons {α β : Type} {P : Program} {f : Field} {fs : List Field} {off : Nat} {a : Kd α} {b : Kd β} {ga : α → Prop} {gb : β → Prop} (ho : f.offset = off) (hs : P.cellsOf f.type = a.sz) (h : Opens P f.type a ga) (hr : OpensL P fs (off + a.sz) b gb) :
    OpensL P (f :: fs) off (Kd.pair a b) (fun x => ga x.1 ∧ gb x.2) := by
  intro H enc w n cs ys hl hf hw
  match ys, hl with
  | y :: ys, hl =>
    have h0 := hf 0 f rfl
    rw [ho, hs] at h0
    obtain ⟨x, hx, hgx⟩ := h enc w n _ y.1 y.2 h0 (fun m hm => hw m (by simp only [List.map_cons, DataW.weightsEach, List.mem_append]; exact .inl hm))
    obtain ⟨x', hx', hgx'⟩ := hr enc w n cs ys (by simpa using hl) (fun i f' hf' => by have := hf (i + 1) f' (by simpa using hf'); simpa using this) (fun m hm => hw m (by simp only [List.map_cons, DataW.weightsEach, List.mem_append]; exact .inr hm))
    refine ⟨(x, x'), ⟨_, _, ?_, hx, hx'⟩, hgx, hgx'⟩
    show (cs.drop off).take (a.sz + b.sz) = _
    rw [List.take_add, List.drop_drop]
theorem opens_struct {α : Type} {P : Program} {t : TypeId} {fs : Array Field} {d : Kd α} {g : α → Prop} (ht : P.underlying t = some (.struct fs)) (hs : P.cellsOf t = d.sz) (h : OpensL P fs.toList 0 d g) : Opens P t d g := by
  intro H enc w fuel cs y ps hy hw
  obtain ⟨xs, n, rfl, hx, hl, hxl, hget⟩ := DataW.trod_struct ht hy
  obtain ⟨rfl, _⟩ := Prod.mk.inj hx
  simp only [DataW.weights, ht] at hw
  obtain ⟨x, hK, hg⟩ := h enc w n cs xs (by simpa using hxl) (fun i f hf => hget i f (by simpa using hf)) (by simpa using hw)
  rw [List.drop_zero, List.take_of_length_le (by omega)] at hK
  exact ⟨x, hK, hg⟩
theorem weights_of {H : Type} {P : Program} {ts : List TypeId} {ds : List (DataW H)} {j : Nat} {t : TypeId} {d : DataW H} (hsz : (DataW.weightsEach P ts ds).all (· ≤ reachBytes) = true) (ht : ts[j]? = some t) (hd : ds[j]? = some d) : ∀ n ∈ d.weights P t, n ≤ reachBytes := by
  intro n hn
  have := List.all_eq_true.1 hsz n (DataW.weights_mem_each ht hd n hn)
  simpa using this
theorem open_slice {α H : Type} {enc : TypeId × Value → H} {P : Program} {W : World} {t e : TypeId} {d : Kd α} {g : List α → Prop} {a : Option Addr} {len cap : Nat} {y : DataW H} {ps : List MemPlace} (h : Opens P t (Kd.slice e d) g)
    (hy : DataW.Trod enc P W 0 (fun _ => true) true t (.slice a len cap) y ps) (hw : ∀ n ∈ y.weights P t, n ≤ reachBytes) : ∃ xs : List α, len = xs.length ∧ xs.length ≤ cap ∧ d.C W a xs.length xs ∧ g xs := by
  obtain ⟨fuel, hf⟩ := hy
  obtain ⟨xs, ⟨A, c, he, hl, hC⟩, hg⟩ := h enc W fuel _ y ps hf hw
  have he' : Value.slice a len cap = .slice A xs.length c := by simpa [Value.cells] using he
  injection he' with h1 h2 h3
  subst h1 h2 h3
  exact ⟨xs, rfl, hl, hC, hg⟩
end Go.Proofs.YtifejplilaefiaaO
namespace Go.Proofs.Ytifejplilaefiaa.OFnExactMakeOrder
open Go.RowKit Go.Proofs.Ytifejplilaefiaa.PFnExactMakeOrder Go.Proofs.YtifejplilaefiaaW.PrintWords Go.Proofs.YtifejplilaefiaaO
def Ok62 (x : S62) : Prop := (x.f0.size ≤ 140737488351232) ∧ (x.f1.length * 16 ≤ 140737488351232 ∧ ∀ y ∈ x.f1, y.size ≤ 140737488351232) ∧ (x.f2.length * 1 ≤ 140737488351232 ∧ ∀ y ∈ x.f2, InU8 y)
theorem opens62 : Opens Try.prog 62 k62 Ok62 :=
  Opens.imp (opens_iso _ (fun x => (⟨x.1, x.2.1, x.2.2⟩ : S62)) (fun _ => rfl) (opens_struct Try.underlying62 (by kernel_rfl) (opensL_cons rfl (by kernel_rfl) (opens_string Try.underlying9) (opensL_cons rfl (by kernel_rfl) (opens_slice Try.underlying29 (by kernel_rfl) (B := 16) (by kernel_rfl) (opens_string Try.underlying9)) (opensL_one rfl (by kernel_rfl) (opens_slice Try.underlying60 (by kernel_rfl) (B := 1) (by kernel_rfl) (opens_u8 Try.underlying5))))))) fun x h => by
    obtain ⟨h0, h1, h2⟩ := h
    exact ⟨h0, h1, h2⟩
end Go.Proofs.Ytifejplilaefiaa.OFnExactMakeOrder
namespace Go.Proofs.YtifejplilaefiaaO
open Go.RowKit Go.Proofs.YtifejplilaefiaaW.PrintWords Go.Proofs.YtifejplilaefiaaW.PrintLast Go.Proofs.YtifejplilaefiaaW.PrintMore
theorem w64 {n : Int} (h : -9223372036854775808 ≤ n) (k : n ≤ 9223372036854775807) : wrap64 n = n := by unfold wrap64; omega
theorem w64s (i : Nat) (h : i < 4611686018427387904) : wrap64 ((i : Int) + 1) = ((i + 1 : Nat) : Int) := by unfold wrap64; omega
theorem ev_some {α : Type} {x r : α} (h : x = r) : Ev (fun _ => some x) r := ⟨0, fun _ _ => by rw [h]⟩
theorem ev_pos {α : Type} {c : Prop} [Decidable c] {f g : Nat → Option α} {r : α} (h : c) (k : Ev f r) : Ev (fun n => if c then f n else g n) r := by
  obtain ⟨K, hK⟩ := k
  exact ⟨K, fun n hn => (if_pos h).trans (hK n hn)⟩
theorem ev_neg {α : Type} {c : Prop} [Decidable c] {f g : Nat → Option α} {r : α} (h : ¬ c) (k : Ev g r) : Ev (fun n => if c then f n else g n) r := by
  obtain ⟨K, hK⟩ := k
  exact ⟨K, fun n hn => (if_neg h).trans (hK n hn)⟩
theorem ev_ite {α : Type} {c : Prop} [Decidable c] {f g : Nat → Option α} {r : α} (h : c → Ev f r) (k : ¬ c → Ev g r) : Ev (fun n => if c then f n else g n) r := by
  by_cases hc : c
  · exact ev_pos hc (h hc)
  · exact ev_neg hc (k hc)
theorem ev_bindc {α β : Type} {x : Option α} {f : Nat → α → Option β} {a : α} {r : β} (h : x = some a) (k : Ev (fun n => f n a) r) : Ev (fun n => x.bind (f n)) r := by
  subst h; exact k
theorem ev_for {σ ρ : Type} (n : Nat) (L : Nat → Nat → σ → Option ρ) (I : Nat → σ → Prop) (Q : ρ → Prop)
    (hend : ∀ s, I n s → ∃ r, Ev (fun k => L k n s) r ∧ Q r)
    (hstep : ∀ i s, i < n → I i s → (∃ r, Ev (fun k => L k i s) r ∧ Q r) ∨ ∃ s', I (i + 1) s' ∧ ∀ r, Ev (fun k => L k (i + 1) s') r → Ev (fun k => L k i s) r) :
    ∀ i s, i ≤ n → I i s → ∃ r, Ev (fun k => L k i s) r ∧ Q r := by
  have key : ∀ d i s, i + d = n → I i s → ∃ r, Ev (fun k => L k i s) r ∧ Q r := by
    intro d
    induction d with
    | zero => intro i s hi h; obtain rfl : i = n := by omega
              exact hend s h
    | succ d ih =>
      intro i s hi h
      rcases hstep i s (by omega) h with h' | ⟨s', hI, hr⟩
      · exact h'
      · obtain ⟨r, hr', hQ⟩ := ih (i + 1) s' (by omega) hI
        exact ⟨r, hr r hr', hQ⟩
  intro i s hi h
  exact key (n - i) i s (by omega) h
theorem ev_for1 {σ ρ : Type} (n : Nat) (L : Nat → Nat → σ → Option ρ) (I : Nat → σ → Prop) (a : ρ)
    (hend : ∀ s, I n s → Ev (fun k => L k n s) a)
    (hstep : ∀ i s, i < n → I i s → Ev (fun k => L k i s) a ∨ ∃ s', I (i + 1) s' ∧ ∀ r, Ev (fun k => L k (i + 1) s') r → Ev (fun k => L k i s) r) :
    ∀ i s, i ≤ n → I i s → Ev (fun k => L k i s) a := by
  intro i s hi h
  obtain ⟨r, hr, rfl⟩ := ev_for n L I (fun r => r = a) (fun s hs => ⟨a, hend s hs, rfl⟩) (fun i s hi hs => (hstep i s hi hs).imp (fun h => ⟨a, h, rfl⟩) id) i s hi h
  exact hr
theorem rd_get {xs : List Int} {i : Nat} (h : i < xs.length) : rd xs (i : Int) = xs[i] := by simp [rd, List.getD_eq_getElem?_getD, h]
theorem rdOf_get {α : Type} {d : α} {xs : List α} {i : Nat} (h : i < xs.length) : rdOf d xs (i : Int) = xs[i] := by simp [rdOf, List.getD_eq_getElem?_getD, h]
theorem getD_get {α : Type} {d : α} {xs : List α} {i : Nat} (h : i < xs.length) : xs.getD (i : Int).toNat d = xs[i] := by simp [List.getD_eq_getElem?_getD, h]
theorem ev_copy {α β : Type} (L : Nat → List α → List β → Int → Option (List β)) (e : Nat → List α → Int → Option β) (g : α → β)
    (hL : ∀ k xs ys i, L (k + 1) xs ys i = if i < (xs.length : Int) then (if 0 ≤ i then (if i < (ys.length : Int) then ((e k xs i).bind fun v => L k xs (ys.set (i : Int).toNat v) (wrap64 (i + 1))) else none) else none) else some ys)
    (xs : List α) (hx : xs.length < 4611686018427387904) (he : ∀ i : Nat, ∀ h : i < xs.length, Ev (fun k => e k xs (i : Int)) (g xs[i])) (ys : List β) (hy : ys.length = xs.length) :
    Ev (fun k => L k xs ys 0) (xs.map g) := by
  refine ev_for1 xs.length (fun k i ys => L k xs ys (i : Int)) (fun i ys => ys.length = xs.length ∧ ∀ j, j < i → ys[j]? = (xs.map g)[j]?) (xs.map g) ?_ ?_ 0 ys (Nat.zero_le _) ⟨hy, fun j hj => by omega⟩
  · intro ys ⟨hl, h⟩
    refine Ev.step (fun k => hL k xs ys _) (ev_neg (by omega) (ev_some ?_))
    apply List.ext_getElem?
    intro j
    rcases Nat.lt_or_ge j xs.length with hj | hj
    · exact h j hj
    · rw [List.getElem?_eq_none (by omega), List.getElem?_eq_none (by simpa using hj)]
  · intro i ys hi ⟨hl, h⟩
    refine .inr ⟨ys.set i (g xs[i]), ⟨by simpa using hl, fun j hj => ?_⟩, fun r hr => ?_⟩
    · rcases Nat.lt_or_ge j i with hji | hji
      · rw [List.getElem?_set_ne (by omega)]
        exact h j hji
      · obtain rfl : j = i := by omega
        rw [List.getElem?_set_self (by omega), List.getElem?_map, List.getElem?_eq_getElem hi]
        rfl
    · refine Ev.step (fun k => hL k xs ys _) (ev_pos (by omega) (ev_pos (by omega) (ev_pos (by omega) (Ev.bind (he i hi) ?_))))
      rw [w64s i (by omega)]
      exact hr
theorem ev_alike {α β : Type} (L : Nat → List α → List β → Int → Option Bool) (e : Nat → List α → List β → Int → Option Bool) (g : α → β → Bool)
    (hL : ∀ k xs ys i, L (k + 1) xs ys i = if i < (xs.length : Int) then (if 0 ≤ i then (if i < (ys.length : Int) then ((e k xs ys i).bind fun v => if v = true then L k xs ys (wrap64 (i + 1)) else some false) else none) else none) else some true)
    (xs : List α) (ys : List β) (hx : xs.length < 4611686018427387904) (hy : ys.length = xs.length) (he : ∀ i : Nat, ∀ (h : i < xs.length) (h' : i < ys.length), Ev (fun k => e k xs ys (i : Int)) (g xs[i] ys[i]))
    (b : Bool) (hb : b = true ↔ ∀ i : Nat, ∀ (h : i < xs.length) (h' : i < ys.length), g xs[i] ys[i] = true) :
    Ev (fun k => L k xs ys 0) b := by
  refine ev_for1 xs.length (fun k i (_ : Unit) => L k xs ys (i : Int)) (fun i _ => ∀ j, j < i → ∀ (h : j < xs.length) (h' : j < ys.length), g xs[j] ys[j] = true) b ?_ ?_ 0 () (Nat.zero_le _) (fun j hj => by omega)
  · intro _ h
    refine Ev.step (fun k => hL k xs ys _) (ev_neg (by omega) (ev_some ?_))
    exact (hb.2 fun i hi hi' => h i hi hi hi').symm
  · intro i _ hi h
    have hi' : i < ys.length := by omega
    by_cases hg : g xs[i] ys[i] = true
    · refine .inr ⟨(), fun j hj h1 h2 => ?_, fun r hr => ?_⟩
      · rcases Nat.lt_or_ge j i with hji | hji
        · exact h j hji h1 h2
        · obtain rfl : j = i := by omega
          exact hg
      · refine Ev.step (fun k => hL k xs ys _) (ev_pos (by omega) (ev_pos (by omega) (ev_pos (by omega) (Ev.bind (he i hi hi') (ev_pos hg ?_)))))
        rw [w64s i (by omega)]
        exact hr
    · refine .inl (Ev.step (fun k => hL k xs ys _) (ev_pos (by omega) (ev_pos (by omega) (ev_pos (by omega) (Ev.bind (he i hi hi') (ev_neg hg (ev_some ?_)))))))
      cases b with
      | false => rfl
      | true => exact absurd (hb.1 rfl i hi hi') hg
theorem ev_alike_self {α : Type} (L : Nat → List α → List α → Int → Option Bool) (e : Nat → List α → List α → Int → Option Bool)
    (hL : ∀ k xs ys i, L (k + 1) xs ys i = if i < (xs.length : Int) then (if 0 ≤ i then (if i < (ys.length : Int) then ((e k xs ys i).bind fun v => if v = true then L k xs ys (wrap64 (i + 1)) else some false) else none) else none) else some true)
    (xs : List α) (hx : xs.length < 4611686018427387904) (he : ∀ i : Nat, ∀ (_ : i < xs.length), Ev (fun k => e k xs xs (i : Int)) true) :
    Ev (fun k => L k xs xs 0) true :=
  ev_alike L e (fun _ _ => true) hL xs xs hx rfl (fun i h _ => he i h) true ⟨fun _ _ _ _ => rfl, fun _ => rfl⟩
theorem bool_of (P : Prop) : ∃ b : Bool, b = true ↔ P := ⟨@decide P (Classical.propDecidable P), by simp⟩
theorem bool_false {P : Prop} {b : Bool} (h : b = true ↔ P) (k : ¬ P) : b = false := by
  cases b with
  | false => rfl
  | true => exact absurd (h.1 rfl) k
theorem ev_all (n : Nat) (L : Nat → Nat → Option Bool) (ok : Nat → Prop) (e b : Bool) (hb : b = true ↔ e = true ∧ ∀ i, i < n → ok i) (hend : Ev (fun k => L k n) e)
    (hyes : ∀ i, i < n → (∀ j, j < i → ok j) → ok i → ∀ r, Ev (fun k => L k (i + 1)) r → Ev (fun k => L k i) r) (hno : ∀ i, i < n → (∀ j, j < i → ok j) → ¬ ok i → Ev (fun k => L k i) false) : Ev (fun k => L k 0) b := by
  refine ev_for1 n (fun k i (_ : Unit) => L k i) (fun i _ => ∀ j, j < i → ok j) b ?_ ?_ 0 () (Nat.zero_le _) (fun j hj => by omega)
  · intro _ h
    have : b = e := by
      cases e with
      | false => exact bool_false hb (fun h => by simp at h)
      | true => exact hb.2 ⟨rfl, h⟩
    rw [this]
    exact hend
  · intro i _ hi h
    by_cases ho : ok i
    · refine .inr ⟨(), fun j hj => ?_, hyes i hi h ho⟩
      rcases Nat.lt_or_ge j i with h1 | h1
      · exact h j h1
      · obtain rfl : j = i := by omega
        exact ho
    · have : b = false := bool_false hb (fun h => ho (h.2 i hi))
      rw [this]
      exact .inl (hno i hi h ho)
def Chain {α : Type} (E : α → Int → Int → Prop) : List α → Int → Int → Prop
  | [], c, d => c = d
  | x :: r, c, d => ∃ m, E x c m ∧ Chain E r m d
theorem Chain.snoc {α : Type} {E : α → Int → Int → Prop} : ∀ {l : List α} {c m d : Int} {x : α}, Chain E l c m → E x m d → Chain E (l ++ [x]) c d
  | [], _, _, _, _, h, k => by cases h; exact ⟨_, k, rfl⟩
  | _ :: _, _, _, _, _, ⟨q, h1, h2⟩, k => ⟨q, h1, Chain.snoc h2 k⟩
theorem Chain.le {α : Type} {E : α → Int → Int → Prop} (hm : ∀ x c d, E x c d → c ≤ d) : ∀ {l : List α} {c d : Int}, Chain E l c d → c ≤ d
  | [], _, _, h => Int.le_of_eq h
  | _ :: _, _, _, ⟨_, h1, h2⟩ => Int.le_trans (hm _ _ _ h1) (Chain.le hm h2)
theorem ev_mark {α : Type} (L : Nat → List α → Int → Nat → Option (Int × List α)) (E : α → Int → Int → Prop) (G : α → Prop) (W : Int) (hW : 0 ≤ W) (hW' : W ≤ 1099511627776)
    (hend : ∀ zs c, Ev (fun k => L k zs c zs.length) (c, zs))
    (hstep : ∀ zs c i, ∀ hi : i < zs.length, i < 1048576 → G zs[i] → 0 ≤ c → c ≤ 2305843009213693952 → ∃ x' c', E x' c c' ∧ c ≤ c' ∧ c' ≤ c + W ∧ ∀ r, Ev (fun k => L k (zs.set i x') c' (i + 1)) r → Ev (fun k => L k zs c i) r)
    (xs : List α) (hG : ∀ x ∈ xs, G x) (hl : xs.length ≤ 1048576) (c : Int) (hc0 : 0 ≤ c) (hc1 : c ≤ 1152921504606846976) :
    ∃ ys d, Chain E ys c d ∧ c ≤ d ∧ d ≤ c + W * xs.length ∧ ys.length = xs.length ∧ Ev (fun k => L k xs c 0) (d, ys) := by
  have key : ∀ n i : Nat, ∀ zs : List α, ∀ m : Int, i + n = xs.length → zs.length = xs.length → zs.drop i = xs.drop i → Chain E (zs.take i) c m → c ≤ m → m ≤ c + W * i →
      ∃ ys d, Chain E ys c d ∧ c ≤ d ∧ d ≤ c + W * xs.length ∧ ys.length = xs.length ∧ Ev (fun k => L k zs m i) (d, ys) := by
    intro n
    induction n with
    | zero =>
      intro i zs m hi hz hd hch h1 h2
      obtain rfl : i = zs.length := by omega
      rw [List.take_length] at hch
      rw [← hz]
      exact ⟨zs, m, hch, h1, h2, rfl, hend zs m⟩
    | succ n ih =>
      intro i zs m hi hz hd hch h1 h2
      have hlt : i < zs.length := by omega
      have hx : i < xs.length := by omega
      have hget : zs[i] = xs[i] := by
        have e1 := List.drop_eq_getElem_cons hlt
        have e2 := List.drop_eq_getElem_cons hx
        rw [hd, e2] at e1
        exact (List.cons.inj e1).1.symm
      have hWi : W * (i : Int) ≤ 1099511627776 * 1048576 := Int.mul_le_mul hW' (by omega) (by omega) (by omega)
      obtain ⟨x', c', hE, hc, hcW, hr⟩ := hstep zs m i hlt (by omega) (by rw [hget]; exact hG _ (List.getElem_mem hx)) (by omega) (by omega)
      obtain ⟨ys, d, g1, g2, g3, g4, g5⟩ := ih (i + 1) (zs.set i x') c' (by omega) (by simpa using hz) (by
          rw [List.drop_set_of_lt (by omega)]
          have e1 := List.drop_eq_getElem_cons hlt
          have e2 := List.drop_eq_getElem_cons hx
          rw [hd, e2] at e1
          exact (List.cons.inj e1).2.symm) (by
          rw [List.take_succ_eq_append_getElem (by simpa using hlt), List.take_set_of_le (Nat.le_refl i), List.getElem_set_self]
          exact Chain.snoc hch hE) (by omega) (by
          have : W * ((i + 1 : Nat) : Int) = W * i + W := by rw [Int.natCast_add, Int.mul_add]; simp
          omega)
      exact ⟨ys, d, g1, g2, g3, g4, hr _ g5⟩
  have := key xs.length 0 xs c (by omega) rfl rfl (by simp [Chain]) (Int.le_refl _) (by simp)
  exact this
theorem ev_held {α : Type} (H : Nat → List α → Int → Nat → Option Int) (E : α → Int → Int → Prop) (hm : ∀ x c d, E x c d → c ≤ d)
    (hend : ∀ ys c, Ev (fun k => H k ys c ys.length) c)
    (hstep : ∀ ys c c' i, ∀ hi : i < ys.length, i < 1048576 → E ys[i] c c' → 0 ≤ c → c' ≤ 2305843009213693952 → ∀ r, Ev (fun k => H k ys c' (i + 1)) r → Ev (fun k => H k ys c i) r)
    (ys : List α) (hl : ys.length ≤ 1048576) (c d : Int) (hc0 : 0 ≤ c) (hd : d ≤ 2305843009213693952) (h : Chain E ys c d) : Ev (fun k => H k ys c 0) d := by
  have key : ∀ n i : Nat, ∀ m : Int, i + n = ys.length → 0 ≤ m → Chain E (ys.drop i) m d → Ev (fun k => H k ys m i) d := by
    intro n
    induction n with
    | zero =>
      intro i m hi h0 hch
      obtain rfl : i = ys.length := by omega
      rw [List.drop_length] at hch
      obtain rfl : m = d := hch
      exact hend ys m
    | succ n ih =>
      intro i m hi h0 hch
      have hlt : i < ys.length := by omega
      rw [List.drop_eq_getElem_cons hlt] at hch
      obtain ⟨m', hE, hch⟩ := hch
      have h1 := hm _ _ _ hE
      exact hstep ys m m' i hlt (by omega) hE h0 (by have := Chain.le hm hch; omega) d (ih (i + 1) m' (by omega) (by omega) hch)
  exact key ys.length 0 c (by omega) hc0 h
theorem ev_index {α : Type} (L : Nat → List α → Int → Int → Option Int) (p : Nat → List α → Int → Option Bool)
    (hL : ∀ k xs n i, L (k + 1) xs n i = if i < n then (if 0 ≤ i then (if i < (xs.length : Int) then ((p k xs i).bind fun t => if t = true then some i else L k xs n (wrap64 (i + 1))) else none) else none) else some (-1))
    (xs : List α) (hx : xs.length < 4611686018427387904) (P : Nat → Bool) (he : ∀ i : Nat, i < xs.length → Ev (fun k => p k xs (i : Int)) (P i)) :
    ∃ r, Ev (fun k => L k xs (xs.length : Int) 0) r ∧ ((r = -1 ∧ ∀ i, i < xs.length → P i = false) ∨ ∃ i : Nat, i < xs.length ∧ r = (i : Int) ∧ P i = true ∧ ∀ j, j < i → P j = false) := by
  refine ev_for xs.length (fun k i (_ : Unit) => L k xs (xs.length : Int) (i : Int)) (fun i _ => ∀ j, j < i → P j = false) (fun r => (r = -1 ∧ ∀ i, i < xs.length → P i = false) ∨ ∃ i : Nat, i < xs.length ∧ r = (i : Int) ∧ P i = true ∧ ∀ j, j < i → P j = false) ?_ ?_ 0 () (Nat.zero_le _) (fun j hj => by omega)
  · intro _ h
    exact ⟨-1, Ev.step (fun k => hL k xs _ _) (ev_neg (by omega) (ev_some rfl)), .inl ⟨rfl, h⟩⟩
  · intro i _ hi h
    cases hP : P i with
    | true =>
      refine .inl ⟨(i : Int), Ev.step (fun k => hL k xs _ _) (ev_pos (by omega) (ev_pos (by omega) (ev_pos (by omega) (Ev.bind (he i hi) (ev_pos hP (ev_some rfl)))))), .inr ⟨i, hi, rfl, hP, h⟩⟩
    | false =>
      refine .inr ⟨(), fun j hj => ?_, fun r hr => Ev.step (fun k => hL k xs _ _) (ev_pos (by omega) (ev_pos (by omega) (ev_pos (by omega) (Ev.bind (he i hi) (ev_neg (by rw [hP]; decide) ?_)))))⟩
      · rcases Nat.lt_or_ge j i with h1 | h1
        · exact h j h1
        · obtain rfl : j = i := by omega
          exact hP
      · rw [w64s i (by omega)]
        exact hr
theorem ev_contains {α : Type} (L : Nat → List α → Int → Int → Option Int) (p : Nat → List α → Int → Option Bool)
    (hL : ∀ k xs n i, L (k + 1) xs n i = if i < n then (if 0 ≤ i then (if i < (xs.length : Int) then ((p k xs i).bind fun t => if t = true then some i else L k xs n (wrap64 (i + 1))) else none) else none) else some (-1))
    (xs : List α) (hx : xs.length < 4611686018427387904) (P : Nat → Bool) (he : ∀ i : Nat, i < xs.length → Ev (fun k => p k xs (i : Int)) (P i)) (b : Bool) (hb : b = true ↔ ∃ i, i < xs.length ∧ P i = true) :
    Ev (fun k => (L k xs (xs.length : Int) 0).bind fun t => some (decide (t ≥ 0))) b := by
  obtain ⟨r, hr, h⟩ := ev_index L p hL xs hx P he
  refine Ev.bind hr (ev_some ?_)
  rw [Bool.eq_iff_iff, decide_eq_true_eq, hb]
  rcases h with ⟨rfl, h⟩ | ⟨i, hi, rfl, hP, _⟩
  · constructor
    · intro h'; omega
    · rintro ⟨i, hi, hP⟩; rw [h i hi] at hP; cases hP
  · exact ⟨fun _ => ⟨i, hi, hP⟩, fun _ => by omega⟩
theorem exev_bind {α β : Type} {g : Nat → Option α} {f : Nat → α → Option β} {a : α} {Q : β → Prop} (h : Ev g a) (k : ∃ r, Ev (fun n => f n a) r ∧ Q r) : ∃ r, Ev (fun n => (g n).bind (f n)) r ∧ Q r := by
  obtain ⟨r, hr, hq⟩ := k
  exact ⟨r, Ev.bind h hr, hq⟩
theorem exev_pos {α : Type} {c : Prop} [Decidable c] {f g : Nat → Option α} {Q : α → Prop} (h : c) (k : ∃ r, Ev f r ∧ Q r) : ∃ r, Ev (fun n => if c then f n else g n) r ∧ Q r := by
  obtain ⟨r, hr, hq⟩ := k
  exact ⟨r, ev_pos h hr, hq⟩
theorem exev_neg {α : Type} {c : Prop} [Decidable c] {f g : Nat → Option α} {Q : α → Prop} (h : ¬ c) (k : ∃ r, Ev g r ∧ Q r) : ∃ r, Ev (fun n => if c then f n else g n) r ∧ Q r := by
  obtain ⟨r, hr, hq⟩ := k
  exact ⟨r, ev_neg h hr, hq⟩
theorem exev_ite {α : Type} {c : Prop} [Decidable c] {f g : Nat → Option α} {Q : α → Prop} (h : c → ∃ r, Ev f r ∧ Q r) (k : ¬ c → ∃ r, Ev g r ∧ Q r) : ∃ r, Ev (fun n => if c then f n else g n) r ∧ Q r := by
  by_cases hc : c
  · exact exev_pos hc (h hc)
  · exact exev_neg hc (k hc)
theorem exev_some {α : Type} {x : α} {Q : α → Prop} (h : Q x) : ∃ r, Ev (fun _ => some x) r ∧ Q r := ⟨x, ev_some rfl, h⟩
theorem ev_copy2 {α β τ : Type} (L : Nat → List α → List β → Int → Option (List β)) (e : Nat → List α → Int → Option τ) (mk : τ → β) (g : α → β)
    (hL : ∀ k xs ys i, L (k + 1) xs ys i = if i < (xs.length : Int) then (if 0 ≤ i then ((e k xs i).bind fun v => if i < (ys.length : Int) then L k xs (ys.set (i : Int).toNat (mk v)) (wrap64 (i + 1)) else none) else none) else some ys)
    (xs : List α) (hx : xs.length < 4611686018427387904) (he : ∀ i : Nat, ∀ h : i < xs.length, ∃ t, Ev (fun k => e k xs (i : Int)) t ∧ mk t = g xs[i]) (ys : List β) (hy : ys.length = xs.length) :
    Ev (fun k => L k xs ys 0) (xs.map g) := by
  refine ev_for1 xs.length (fun k i ys => L k xs ys (i : Int)) (fun i ys => ys.length = xs.length ∧ ∀ j, j < i → ys[j]? = (xs.map g)[j]?) (xs.map g) ?_ ?_ 0 ys (Nat.zero_le _) ⟨hy, fun j hj => by omega⟩
  · intro ys ⟨hl, h⟩
    refine Ev.step (fun k => hL k xs ys _) (ev_neg (by omega) (ev_some ?_))
    apply List.ext_getElem?
    intro j
    rcases Nat.lt_or_ge j xs.length with hj | hj
    · exact h j hj
    · rw [List.getElem?_eq_none (by omega), List.getElem?_eq_none (by simpa using hj)]
  · intro i ys hi ⟨hl, h⟩
    obtain ⟨t, ht, hmk⟩ := he i hi
    refine .inr ⟨ys.set i (g xs[i]), ⟨by simpa using hl, fun j hj => ?_⟩, fun r hr => ?_⟩
    · rcases Nat.lt_or_ge j i with hji | hji
      · rw [List.getElem?_set_ne (by omega)]
        exact h j hji
      · obtain rfl : j = i := by omega
        rw [List.getElem?_set_self (by omega), List.getElem?_map, List.getElem?_eq_getElem hi]
        rfl
    · refine Ev.step (fun k => hL k xs ys _) (ev_pos (by omega) (ev_pos (by omega) (Ev.bind ht (ev_pos (by omega) ?_))))
      rw [w64s i (by omega), hmk]
      exact hr
theorem ev_size {α : Type} (L : Nat → List α → Int → Int → Option Int) (e : Nat → List α → Int → Int → Option Int) (C : α → Prop)
    (hL : ∀ k xs c i, L (k + 1) xs c i = if i < (xs.length : Int) then (if 0 ≤ i then ((e k xs c i).bind fun t => if t < 0 then some (-1) else L k xs t (wrap64 (i + 1))) else none) else some c)
    (xs : List α) (hx : xs.length < 4611686018427387904) (left : Int) (h0 : 0 ≤ left)
    (he : ∀ i : Nat, ∀ h : i < xs.length, ∀ c, 0 ≤ c → c ≤ left → ∃ r, Ev (fun k => e k xs c (i : Int)) r ∧ (r < 0 ∨ 0 ≤ r ∧ r ≤ c ∧ C xs[i])) :
    ∃ r, Ev (fun k => L k xs left 0) r ∧ (r < 0 ∨ 0 ≤ r ∧ r ≤ left ∧ ∀ x ∈ xs, C x) := by
  refine ev_for xs.length (fun k i c => L k xs c (i : Int)) (fun i c => 0 ≤ c ∧ c ≤ left ∧ ∀ j, ∀ h : j < xs.length, j < i → C xs[j]) (fun r => r < 0 ∨ 0 ≤ r ∧ r ≤ left ∧ ∀ x ∈ xs, C x) ?_ ?_ 0 left (Nat.zero_le _) ⟨h0, Int.le_refl _, fun j _ hj => by omega⟩
  · intro c ⟨hc0, hc1, h⟩
    refine ⟨c, Ev.step (fun k => hL k xs c _) (ev_neg (by omega) (ev_some rfl)), .inr ⟨hc0, hc1, fun x hx => ?_⟩⟩
    obtain ⟨j, hj, rfl⟩ := List.getElem_of_mem hx
    exact h j hj hj
  · intro i c hi ⟨hc0, hc1, h⟩
    obtain ⟨r, hr, hq⟩ := he i hi c hc0 hc1
    rcases hq with hq | ⟨q0, q1, q2⟩
    · exact .inl ⟨-1, Ev.step (fun k => hL k xs c _) (ev_pos (by omega) (ev_pos (by omega) (Ev.bind hr (ev_pos hq (ev_some rfl))))), .inl (by omega)⟩
    · refine .inr ⟨r, ⟨q0, by omega, fun j hj hji => ?_⟩, fun r' hr' => Ev.step (fun k => hL k xs c _) (ev_pos (by omega) (ev_pos (by omega) (Ev.bind hr (ev_neg (by omega) ?_))))⟩
      · rcases Nat.lt_or_ge j i with h1 | h1
        · exact h j hj h1
        · obtain rfl : j = i := by omega
          exact q2
      · rw [w64s i (by omega)]
        exact hr'
end Go.Proofs.YtifejplilaefiaaO
namespace Go.Proofs.Ytifejplilaefiaa.Pure
open Go.RowKit Go.Proofs.Ytifejplilaefiaa.PFnExactMakeOrder Go.Proofs.Ytifejplilaefiaa.OFnExactMakeOrder Go.Proofs.YtifejplilaefiaaW.PrintWords Go.Proofs.YtifejplilaefiaaW.PrintLast Go.Proofs.YtifejplilaefiaaW.PrintMore Go.Proofs.YtifejplilaefiaaO
set_option linter.unusedVariables false
set_option linter.unusedSimpArgs false
theorem st_laws_markText_l0 {r : (ByteArray)} {x0 : Int} {x3 : ByteArray} (h : Ev (fun k => if x0 > 0 then ((some (([(wrap64 (48 + (Int.tmod x0 10))) % 256] : List Int) : List Int)).bind fun y231 => (if (strOfNums y231).size + x3.size ≤ 9223372036854775807 then (laws_markText.l0 k (wrap64 (Int.tdiv x0 10)) ((strOfNums y231) ++ x3)) else (none))) else (if 1 + x3.size ≤ 9223372036854775807 then (some ((⟨#[109]⟩ : ByteArray) ++ x3)) else (none))) r) : Ev (fun k => laws_markText.l0 k x0 x3) r := Ev.step (fun k => by rw [laws_markText.l0]) h
theorem st_laws_markStringS_l0 {r : (Int × List ByteArray)} {x0 : List ByteArray} {x1 : Int} {x5 : Int} (h : Ev (fun k => if x5 < (x0.length : Int) then ((laws_markText.f k x1).bind fun t234 => (if 0 ≤ x5 then (laws_markStringS.l0 k (x0.set (x5 : Int).toNat t234) (wrap64 (x1 + 1)) (wrap64 (x5 + 1))) else (none))) else (some (x1, x0))) r) : Ev (fun k => laws_markStringS.l0 k x0 x1 x5) r := Ev.step (fun k => by rw [laws_markStringS.l0]) h
theorem st_laws_markAssetS_l0 {r : (Int × (List (S63)))} {x0 : List (S63)} {x1 : Int} {x5 : Int} (h : Ev (fun k => if x5 < (x0.length : Int) then ((laws_markText.f k x1).bind fun t237 => (if 0 ≤ x5 then ((some (x0.set (x5 : Int).toNat (⟨t237, (rd_T63 x0 x5).f1, (rd_T63 x0 x5).f2⟩ : S63) : List (S63))).bind fun y238 => ((laws_markStringS.f k ((rd_T63 y238 x5).f1) (wrap64 (x1 + 1))).bind fun bt240 => ((some (y238.set (x5 : Int).toNat (⟨(rd_T63 y238 x5).f0, bt240.2, (rd_T63 y238 x5).f2⟩ : S63) : List (S63))).bind fun y242 => ((laws_markByteS.f k ((rd_T63 y242 x5).f2) bt240.1).bind fun bt244 => (laws_markAssetS.l0 k (y242.set (x5 : Int).toNat (⟨(rd_T63 y242 x5).f0, (rd_T63 y242 x5).f1, bt244.2⟩ : S63)) bt244.1 (wrap64 (x5 + 1))))))) else (none))) else (some (x1, x0))) r) : Ev (fun k => laws_markAssetS.l0 k x0 x1 x5) r := Ev.step (fun k => by rw [laws_markAssetS.l0]) h
theorem st_laws_heldStringS_l0 {r : (Int)} {x0 : List ByteArray} {x1 : Int} {x5 : Int} (h : Ev (fun k => if x5 < (x0.length : Int) then (if 0 ≤ x5 then ((laws_markText.f k x1).bind fun t248 => (if (rdOf ByteArray.empty x0 x5).toList = t248.toList then (laws_heldStringS.l0 k x0 (wrap64 (x1 + 1)) (wrap64 (x5 + 1))) else (some (-1)))) else (none)) else (some x1)) r) : Ev (fun k => laws_heldStringS.l0 k x0 x1 x5) r := Ev.step (fun k => by rw [laws_heldStringS.l0]) h
theorem st_laws_FnExactMakeOrder_j0 {r : (Bool)} {x0 : List (S62)} {x4 : List ByteArray} {x5 : Bool} {x6 : List (S63)} {x7 : List ByteArray} {x8 : Bool} {x40 : Bool} (h : Ev (fun k => if x40 = true then (some false) else ((laws_toAssetS.f k x0).bind fun t265 => ((laws_eqAssetS.f k x6 t265).bind fun t268 => (if t268 = true then ((laws_markAssetS.f k x6 1).bind fun bt269 => (if bt269.1 < 0 then (laws_FnExactMakeOrder.j1 k x0 x4 x5 x7 true) else ((laws_eqStringS.f k x7 x4).bind fun t271 => (if t271 = true then (laws_FnExactMakeOrder.j1 k x0 x4 x5 x7 (x8 != x5)) else (laws_FnExactMakeOrder.j1 k x0 x4 x5 x7 true))))) else (some false))))) r) : Ev (fun k => laws_FnExactMakeOrder.j0 k x0 x4 x5 x6 x7 x8 x40) r := Ev.step (fun k => by rw [laws_FnExactMakeOrder.j0]) h
theorem st_laws_FnExactMakeOrder_j1 {r : (Bool)} {x0 : List (S62)} {x4 : List ByteArray} {x5 : Bool} {x7 : List ByteArray} {x61 : Bool} (h : Ev (fun k => if x61 = true then (some false) else ((laws_markStringS.f k x7 1).bind fun bt272 => ((laws_heldStringS.f k bt272.2 1).bind fun t274 => (if t274 < 0 then (some false) else (if t274 = bt272.1 then ((laws_toAssetS.f k x0).bind fun t275 => ((impl_MakeOrder.f k t275).bind fun bt278 => ((laws_eqStringS.f k bt278.1 x4).bind fun t282 => (if t282 = true then (laws_FnExactMakeOrder.j2 k bt272.2 bt272.1 (bt278.2 != x5)) else (laws_FnExactMakeOrder.j2 k bt272.2 bt272.1 true))))) else (some false)))))) r) : Ev (fun k => laws_FnExactMakeOrder.j1 k x0 x4 x5 x7 x61) r := Ev.step (fun k => by rw [laws_FnExactMakeOrder.j1]) h
theorem st_laws_FnExactMakeOrder_j2 {r : (Bool)} {x7 : List ByteArray} {x10 : Int} {x87 : Bool} (h : Ev (fun k => if x87 = true then (some false) else ((laws_heldStringS.f k x7 1).bind fun t283 => (if t283 < 0 then (some false) else (if t283 = x10 then (some true) else (some false))))) r) : Ev (fun k => laws_FnExactMakeOrder.j2 k x7 x10 x87) r := Ev.step (fun k => by rw [laws_FnExactMakeOrder.j2]) h
theorem st_spec_GoodName_j0 {r : (Bool)} {x0 : ByteArray} {x16 : Bool} (h : Ev (fun k => if x16 = true then (some false) else (spec_GoodName.l0 k x0 0)) r) : Ev (fun k => spec_GoodName.j0 k x0 x16) r := Ev.step (fun k => by rw [spec_GoodName.j0]) h
theorem st_spec_GoodName_l0 {r : (Bool)} {x0 : ByteArray} {x3 : Int} (h : Ev (fun k => if x3 < (x0.size : Int) then (if 0 ≤ x3 then ((spec_l1Letter.f (bt x0 x3)).bind fun t150 => (if t150 = true then (spec_GoodName.l0 k x0 (wrap64 (x3 + 1))) else ((spec_l1Digit.f (bt x0 x3)).bind fun t151 => (if t151 = true then (spec_GoodName.l0 k x0 (wrap64 (x3 + 1))) else (some false))))) else (none)) else (some true)) r) : Ev (fun k => spec_GoodName.l0 k x0 x3) r := Ev.step (fun k => by rw [spec_GoodName.l0]) h
theorem st_spec_l3Names_l0 {r : (Bool)} {x0 : List ByteArray} {x11 : List ByteArray} {x12 : Int} {x13 : Int} (h : Ev (fun k => if x13 < x12 then (if 0 ≤ x13 then (if x13 < (x11.length : Int) then ((spec_GoodName.f k (rdOf ByteArray.empty x11 x13)).bind fun t153 => (if t153 = true then (if x13 > 0 then (if 0 ≤ (wrap64 (x13 - 1)) then (if (wrap64 (x13 - 1)) < (x0.length : Int) then (if ((Op.bytesLess ((rdOf ByteArray.empty x0 (wrap64 (x13 - 1))).toList) ((rdOf ByteArray.empty x11 x13).toList)) = true) then (spec_l3Names.l0 k x0 x11 x12 (wrap64 (x13 + 1))) else (some false)) else (none)) else (none)) else (spec_l3Names.l0 k x0 x11 x12 (wrap64 (x13 + 1)))) else (some false))) else (none)) else (none)) else (some true)) r) : Ev (fun k => spec_l3Names.l0 k x0 x11 x12 x13) r := Ev.step (fun k => by rw [spec_l3Names.l0]) h
theorem st_spec_l21At_l0 {r : (Int)} {x1 : ByteArray} {x7 : List (S63)} {x8 : Int} {x9 : Int} (h : Ev (fun k => if x9 < x8 then (if 0 ≤ x9 then (if x9 < (x7.length : Int) then (if ((rd_T63 x7 x9).f0).toList = x1.toList then (some x9) else (spec_l21At.l0 k x1 x7 x8 (wrap64 (x9 + 1)))) else (none)) else (none)) else (some (-1))) r) : Ev (fun k => spec_l21At.l0 k x1 x7 x8 x9) r := Ev.step (fun k => by rw [spec_l21At.l0]) h
theorem st_spec_l1Has_l0 {r : (Bool)} {x1 : ByteArray} {x7 : List ByteArray} {x8 : Int} {x9 : Int} (h : Ev (fun k => if x9 < x8 then (if 0 ≤ x9 then (if x9 < (x7.length : Int) then (if (rdOf ByteArray.empty x7 x9).toList = x1.toList then (some true) else (spec_l1Has.l0 k x1 x7 x8 (wrap64 (x9 + 1)))) else (none)) else (none)) else (some false)) r) : Ev (fun k => spec_l1Has.l0 k x1 x7 x8 x9) r := Ev.step (fun k => by rw [spec_l1Has.l0]) h
theorem st_spec_l21Order_l0 {r : (List ByteArray)} {x0 : List (S63)} {x3 : List ByteArray} (h : Ev (fun k => spec_l21Order.l1 k x0 x3 false x0 (x0.length : Int) 0) r) : Ev (fun k => spec_l21Order.l0 k x0 x3) r := Ev.step (fun k => by rw [spec_l21Order.l0]) h
theorem st_spec_l21Order_l1 {r : (List ByteArray)} {x0 : List (S63)} {x3 : List ByteArray} {x4 : Bool} {x10 : List (S63)} {x11 : Int} {x12 : Int} (h : Ev (fun k => if x12 < x11 then (if 0 ≤ x12 then (if x12 < (x10.length : Int) then ((spec_l1Has.f k x3 ((rd_T63 x10 x12).f0)).bind fun t160 => (spec_l21Order.l2 k x0 x3 x4 (!t160) x10 x11 x12 ((rd_T63 x10 x12).f1) (((rd_T63 x10 x12).f1).length : Int) 0 ((rd_T63 x10 x12).f0) ((rd_T63 x10 x12).f1) ((rd_T63 x10 x12).f2))) else (none)) else (none)) else (if x4 = true then (spec_l21Order.l0 k x0 x3) else (some x3))) r) : Ev (fun k => spec_l21Order.l1 k x0 x3 x4 x10 x11 x12) r := Ev.step (fun k => by rw [spec_l21Order.l1]) h
theorem st_spec_l21Order_l2 {r : (List ByteArray)} {x0 : List (S63)} {x3 : List ByteArray} {x4 : Bool} {x7 : Bool} {x10 : List (S63)} {x11 : Int} {x12 : Int} {x22 : List ByteArray} {x23 : Int} {x24 : Int} {x160000 : ByteArray} {x160001 : List ByteArray} {x160002 : List Int} (h : Ev (fun k => if x24 < x23 then (if 0 ≤ x24 then (if x24 < (x22.length : Int) then (if x7 = true then ((spec_l1Has.f k x3 (rdOf ByteArray.empty x22 x24)).bind fun t162 => (spec_l21Order.l2 k x0 x3 x4 t162 x10 x11 x12 x22 x23 (wrap64 (x24 + 1)) x160000 x160001 x160002)) else (spec_l21Order.l2 k x0 x3 x4 false x10 x11 x12 x22 x23 (wrap64 (x24 + 1)) x160000 x160001 x160002)) else (none)) else (none)) else (if x7 = true then (if x3.length < 8796093022208 then (spec_l21Order.l0 k x0 (x3 ++ [x160000])) else (none)) else (spec_l21Order.l1 k x0 x3 x4 x10 x11 (wrap64 (x12 + 1))))) r) : Ev (fun k => spec_l21Order.l2 k x0 x3 x4 x7 x10 x11 x12 x22 x23 x24 x160000 x160001 x160002) r := Ev.step (fun k => by rw [spec_l21Order.l2]) h
theorem st_spec_GoodAssets_l0 {r : (Bool)} {x0 : List (S63)} {x10 : List (S63)} {x11 : Int} {x12 : Int} (h : Ev (fun k => if x12 < x11 then (if 0 ≤ x12 then (if x12 < (x10.length : Int) then ((spec_GoodName.f k ((rd_T63 x10 x12).f0)).bind fun t171 => (if t171 = true then (if x12 > 0 then (if 0 ≤ (wrap64 (x12 - 1)) then (if (wrap64 (x12 - 1)) < (x0.length : Int) then (if ((Op.bytesLess (((rd_T63 x0 (wrap64 (x12 - 1))).f0).toList) (((rd_T63 x10 x12).f0).toList)) = true) then ((spec_l3Names.f k ((rd_T63 x10 x12).f1) 10).bind fun t173 => (if t173 = true then (spec_GoodAssets.j1 k x0 x10 x11 x12 (decide ((((rd_T63 x10 x12).f2).length : Int) > 400)) ((rd_T63 x10 x12).f0) ((rd_T63 x10 x12).f1) ((rd_T63 x10 x12).f2)) else (spec_GoodAssets.j1 k x0 x10 x11 x12 true ((rd_T63 x10 x12).f0) ((rd_T63 x10 x12).f1) ((rd_T63 x10 x12).f2)))) else (spec_GoodAssets.j1 k x0 x10 x11 x12 true ((rd_T63 x10 x12).f0) ((rd_T63 x10 x12).f1) ((rd_T63 x10 x12).f2))) else (none)) else (none)) else ((spec_l3Names.f k ((rd_T63 x10 x12).f1) 10).bind fun t174 => (if t174 = true then (spec_GoodAssets.j1 k x0 x10 x11 x12 (decide ((((rd_T63 x10 x12).f2).length : Int) > 400)) ((rd_T63 x10 x12).f0) ((rd_T63 x10 x12).f1) ((rd_T63 x10 x12).f2)) else (spec_GoodAssets.j1 k x0 x10 x11 x12 true ((rd_T63 x10 x12).f0) ((rd_T63 x10 x12).f1) ((rd_T63 x10 x12).f2))))) else (spec_GoodAssets.j1 k x0 x10 x11 x12 true ((rd_T63 x10 x12).f0) ((rd_T63 x10 x12).f1) ((rd_T63 x10 x12).f2)))) else (none)) else (none)) else ((spec_l21Order.f k x0).bind fun t166 => (some ((t166.length : Int) == (x0.length : Int))))) r) : Ev (fun k => spec_GoodAssets.l0 k x0 x10 x11 x12) r := Ev.step (fun k => by rw [spec_GoodAssets.l0]) h
theorem st_spec_GoodAssets_j1 {r : (Bool)} {x0 : List (S63)} {x10 : List (S63)} {x11 : Int} {x12 : Int} {x47 : Bool} {x171000 : ByteArray} {x171001 : List ByteArray} {x171002 : List Int} (h : Ev (fun k => if x47 = true then (some false) else (spec_GoodAssets.l1 k x0 x10 x11 x12 x171001 (x171001.length : Int) 0)) r) : Ev (fun k => spec_GoodAssets.j1 k x0 x10 x11 x12 x47 x171000 x171001 x171002) r := Ev.step (fun k => by rw [spec_GoodAssets.j1]) h
theorem st_spec_GoodAssets_l1 {r : (Bool)} {x0 : List (S63)} {x10 : List (S63)} {x11 : Int} {x12 : Int} {x49 : List ByteArray} {x50 : Int} {x51 : Int} (h : Ev (fun k => if x51 < x50 then (if 0 ≤ x51 then (if x51 < (x49.length : Int) then ((spec_l21At.f k x0 (rdOf ByteArray.empty x49 x51)).bind fun t176 => (if t176 < 0 then (some false) else (spec_GoodAssets.l1 k x0 x10 x11 x12 x49 x50 (wrap64 (x51 + 1))))) else (none)) else (none)) else (spec_GoodAssets.l0 k x0 x10 x11 (wrap64 (x12 + 1)))) r) : Ev (fun k => spec_GoodAssets.l1 k x0 x10 x11 x12 x49 x50 x51) r := Ev.step (fun k => by rw [spec_GoodAssets.l1]) h
theorem st_impl_GoodName_l0 {r : (Bool)} {x0 : ByteArray} {x5 : Int} {x6 : Int} (h : Ev (fun k => if x6 < x5 then (if 0 ≤ x6 then (if x6 < (x0.size : Int) then ((impl_isLetter.f (bt x0 x6)).bind fun t182 => (if t182 = true then (impl_GoodName.l0 k x0 x5 (wrap64 (x6 + 1))) else (if (bt x0 x6) = 95 then (impl_GoodName.l0 k x0 x5 (wrap64 (x6 + 1))) else (if x6 = 0 then (some false) else ((impl_isDigit.f (bt x0 x6)).bind fun t183 => (if t183 = true then (impl_GoodName.l0 k x0 x5 (wrap64 (x6 + 1))) else (some false))))))) else (none)) else (none)) else ((impl_inRange.f (x0.size : Int) 1 20).bind fun t181 => (some t181))) r) : Ev (fun k => impl_GoodName.l0 k x0 x5 x6) r := Ev.step (fun k => by rw [impl_GoodName.l0]) h
theorem st_impl_areNames_l0 {r : (Bool)} {x0 : List ByteArray} {x5 : List ByteArray} {x6 : Int} {x7 : Int} (h : Ev (fun k => if x7 < x6 then (if 0 ≤ x7 then (if x7 < (x5.length : Int) then ((impl_GoodName.f k (rdOf ByteArray.empty x5 x7)).bind fun t185 => (if t185 = true then (if x7 > 0 then (if 0 ≤ (wrap64 (x7 - 1)) then (if (wrap64 (x7 - 1)) < (x0.length : Int) then (if ((Op.bytesLess ((rdOf ByteArray.empty x0 (wrap64 (x7 - 1))).toList) ((rdOf ByteArray.empty x5 x7).toList)) = true) then (impl_areNames.l0 k x0 x5 x6 (wrap64 (x7 + 1))) else (some false)) else (none)) else (none)) else (impl_areNames.l0 k x0 x5 x6 (wrap64 (x7 + 1)))) else (some false))) else (none)) else (none)) else (some true)) r) : Ev (fun k => impl_areNames.l0 k x0 x5 x6 x7) r := Ev.step (fun k => by rw [impl_areNames.l0]) h
theorem st_slices_Index_string_string_l0 {r : (Int)} {x0 : List ByteArray} {x1 : ByteArray} {x7 : Int} {x8 : Int} (h : Ev (fun k => if x8 < x7 then (if 0 ≤ x8 then (if x8 < (x0.length : Int) then (if x1.toList = (rdOf ByteArray.empty x0 x8).toList then (some x8) else (slices_Index_string_string.l0 k x0 x1 x7 (wrap64 (x8 + 1)))) else (none)) else (none)) else (some (-1))) r) : Ev (fun k => slices_Index_string_string.l0 k x0 x1 x7 x8) r := Ev.step (fun k => by rw [slices_Index_string_string.l0]) h
theorem st_impl_makeOrder_l0 {r : (List ByteArray)} {x0 : List (S63)} {x208000 : List ByteArray} (h : Ev (fun k => (slices_IndexFunc_w78.f k x0 x208000).bind fun t208 => (if t208 < 0 then (some x208000) else (if 0 ≤ t208 then (if t208 < (x0.length : Int) then (if x208000.length < 8796093022208 then (impl_makeOrder.l0 k x0 (x208000 ++ [(rd_T63 x0 t208).f0])) else (none)) else (none)) else (none)))) r) : Ev (fun k => impl_makeOrder.l0 k x0 x208000) r := Ev.step (fun k => by rw [impl_makeOrder.l0]) h
theorem st_impl_GoodAssets_l0 {r : (Bool)} {x5 : List (S63)} {x6 : Int} {x7 : Int} {x217000 : List (S63)} (h : Ev (fun k => if x7 < x6 then (if 0 ≤ x7 then (if x7 < (x5.length : Int) then ((impl_GoodName.f k ((rd_T63 x5 x7).f0)).bind fun t222 => (if t222 = true then (if x7 > 0 then (if 0 ≤ (wrap64 (x7 - 1)) then (if (wrap64 (x7 - 1)) < (x217000.length : Int) then (if ((Op.bytesLess (((rd_T63 x217000 (wrap64 (x7 - 1))).f0).toList) (((rd_T63 x5 x7).f0).toList)) = true) then ((impl_areNames.f k ((rd_T63 x5 x7).f1)).bind fun t224 => (if t224 = true then (if (((rd_T63 x5 x7).f1).length : Int) > 10 then (impl_GoodAssets.j1 k x5 x6 x7 true x217000 ((rd_T63 x5 x7).f0) ((rd_T63 x5 x7).f1) ((rd_T63 x5 x7).f2)) else (impl_GoodAssets.j1 k x5 x6 x7 (decide ((((rd_T63 x5 x7).f2).length : Int) > 400)) x217000 ((rd_T63 x5 x7).f0) ((rd_T63 x5 x7).f1) ((rd_T63 x5 x7).f2))) else (impl_GoodAssets.j1 k x5 x6 x7 true x217000 ((rd_T63 x5 x7).f0) ((rd_T63 x5 x7).f1) ((rd_T63 x5 x7).f2)))) else (impl_GoodAssets.j1 k x5 x6 x7 true x217000 ((rd_T63 x5 x7).f0) ((rd_T63 x5 x7).f1) ((rd_T63 x5 x7).f2))) else (none)) else (none)) else ((impl_areNames.f k ((rd_T63 x5 x7).f1)).bind fun t225 => (if t225 = true then (if (((rd_T63 x5 x7).f1).length : Int) > 10 then (impl_GoodAssets.j1 k x5 x6 x7 true x217000 ((rd_T63 x5 x7).f0) ((rd_T63 x5 x7).f1) ((rd_T63 x5 x7).f2)) else (impl_GoodAssets.j1 k x5 x6 x7 (decide ((((rd_T63 x5 x7).f2).length : Int) > 400)) x217000 ((rd_T63 x5 x7).f0) ((rd_T63 x5 x7).f1) ((rd_T63 x5 x7).f2))) else (impl_GoodAssets.j1 k x5 x6 x7 true x217000 ((rd_T63 x5 x7).f0) ((rd_T63 x5 x7).f1) ((rd_T63 x5 x7).f2))))) else (impl_GoodAssets.j1 k x5 x6 x7 true x217000 ((rd_T63 x5 x7).f0) ((rd_T63 x5 x7).f1) ((rd_T63 x5 x7).f2)))) else (none)) else (none)) else (if (x217000.length : Int) ≤ 30 then ((impl_makeOrder.f k x217000).bind fun t217 => (some ((t217.length : Int) == (x217000.length : Int)))) else (some false))) r) : Ev (fun k => impl_GoodAssets.l0 k x5 x6 x7 x217000) r := Ev.step (fun k => by rw [impl_GoodAssets.l0]) h
theorem st_impl_GoodAssets_j1 {r : (Bool)} {x5 : List (S63)} {x6 : Int} {x7 : Int} {x48 : Bool} {x217000 : List (S63)} {x222000 : ByteArray} {x222001 : List ByteArray} {x222002 : List Int} (h : Ev (fun k => if x48 = true then (some false) else ((slices_ContainsFunc_w37.f k x222001 x217000).bind fun t226 => (if t226 = true then (some false) else (impl_GoodAssets.l0 k x5 x6 (wrap64 (x7 + 1)) x217000)))) r) : Ev (fun k => impl_GoodAssets.j1 k x5 x6 x7 x48 x217000 x222000 x222001 x222002) r := Ev.step (fun k => by rw [impl_GoodAssets.j1]) h
theorem inr_some (a b c : Int) : impl_inRange.f a b c = some (decide (b ≤ a ∧ a ≤ c)) := by
  unfold impl_inRange.f
  split <;> simp_all <;> omega
def nameChar (c : Int) : Bool := decide (97 ≤ c ∧ c ≤ 122) || decide (65 ≤ c ∧ c ≤ 90) || decide (c = 95)
def digitChar (c : Int) : Bool := decide (48 ≤ c ∧ c ≤ 57)
def CharOk (s : ByteArray) (i : Nat) : Prop := nameChar (bt s (i : Int)) = true ∨ 0 < i ∧ digitChar (bt s (i : Int)) = true
def NameOk (s : ByteArray) : Prop := (1 ≤ s.size ∧ s.size ≤ 20) ∧ ∀ i, i < s.size → CharOk s i
theorem letter_spec (c : Int) : spec_l1Letter.f c = some (nameChar c) := by
  unfold spec_l1Letter.f nameChar
  repeat' split
  all_goals (congr 1; rw [Bool.eq_iff_iff]; simp; try omega)
theorem digit_spec (c : Int) : spec_l1Digit.f c = some (digitChar c) := by
  unfold spec_l1Digit.f digitChar
  repeat' split
  all_goals (congr 1; rw [Bool.eq_iff_iff]; simp; try omega)
theorem digit_impl (c : Int) : impl_isDigit.f c = some (digitChar c) := by
  unfold impl_isDigit.f digitChar
  repeat' split
  all_goals (congr 1; rw [Bool.eq_iff_iff]; simp; try omega)
theorem letter_impl (c : Int) : ∃ b, impl_isLetter.f c = some b ∧ (nameChar c = true ↔ b = true ∨ c = 95) := by
  unfold impl_isLetter.f nameChar
  repeat' split
  all_goals (refine ⟨_, rfl, ?_⟩; simp; try omega)
theorem name_impl (s : ByteArray) (hs : s.size ≤ 140737488351232) (b : Bool) (hb : b = true ↔ NameOk s) : Ev (fun k => impl_GoodName.f k s) b := by
  refine ev_all s.size (fun k i => impl_GoodName.l0 k s (s.size : Int) (i : Int)) (CharOk s) (decide (1 ≤ (s.size : Int) ∧ (s.size : Int) ≤ 20)) b ?_ ?_ ?_ ?_
  · rw [hb]; unfold NameOk; simp; omega
  · exact st_impl_GoodName_l0 (ev_neg (by omega) (ev_bindc (inr_some _ _ _) (ev_some rfl)))
  · intro i hi _ ho r hr
    refine st_impl_GoodName_l0 (ev_pos (by omega) (ev_pos (by omega) (ev_pos (by omega) ?_)))
    obtain ⟨q, hq, hn⟩ := letter_impl (bt s (i : Int))
    rw [w64s i (by omega)]
    refine ev_bindc hq (ev_ite (fun _ => hr) fun h1 => ev_ite (fun _ => hr) fun h2 => ?_)
    rcases ho with ho | ⟨ho, hd⟩
    · rcases hn.1 ho with h | h
      · exact absurd h h1
      · exact absurd h h2
    · exact ev_neg (by omega) (ev_bindc (digit_impl _) (ev_pos hd hr))
  · intro i hi _ ho
    refine st_impl_GoodName_l0 (ev_pos (by omega) (ev_pos (by omega) (ev_pos (by omega) ?_)))
    obtain ⟨q, hq, hn⟩ := letter_impl (bt s (i : Int))
    refine ev_bindc hq (ev_ite (fun h => absurd (.inl (hn.2 (.inl h))) ho) fun h1 => ev_ite (fun h => absurd (.inl (hn.2 (.inr h))) ho) fun h2 => ev_ite (fun _ => ev_some rfl) fun h3 => ?_)
    exact ev_bindc (digit_impl _) (ev_neg (fun h => ho (.inr ⟨by omega, h⟩)) (ev_some rfl))
theorem name_spec (s : ByteArray) (b : Bool) (hb : b = true ↔ NameOk s) : Ev (fun k => spec_GoodName.f k s) b := by
  have j0t : Ev (fun k => spec_GoodName.j0 k s true) false := st_spec_GoodName_j0 (ev_pos rfl (ev_some rfl))
  by_cases h1 : (s.size : Int) < 1
  · rw [bool_false hb (fun h => by have := h.1; omega)]
    exact ev_pos h1 j0t
  · by_cases h2 : (s.size : Int) > 20
    · rw [bool_false hb (fun h => by have := h.1; omega)]
      exact ev_neg h1 (ev_pos h2 j0t)
    · refine ev_neg h1 (ev_neg h2 (ev_pos (by omega) (ev_bindc (digit_spec _) ?_)))
      cases hd : digitChar (bt s 0) with
      | true =>
        rw [bool_false hb (fun h => by
          have h0 : CharOk s 0 := h.2 0 (by omega)
          rcases h0 with h0 | h0
          · have h0 : nameChar (bt s 0) = true := h0
            generalize bt s 0 = c at hd h0
            simp [nameChar, digitChar] at hd h0; omega
          · omega)]
        exact j0t
      | false =>
        refine st_spec_GoodName_j0 (ev_neg (by decide) ?_)
        refine ev_all s.size (fun k i => spec_GoodName.l0 k s (i : Int)) (CharOk s) true b ?_ ?_ ?_ ?_
        · rw [hb]; unfold NameOk; constructor
          · exact fun h => ⟨rfl, h.2⟩
          · exact fun h => ⟨by omega, h.2⟩
        · exact st_spec_GoodName_l0 (ev_neg (by omega) (ev_some rfl))
        · intro i hi _ ho r hr
          refine st_spec_GoodName_l0 (ev_pos (by omega) (ev_pos (by omega) (ev_bindc (letter_spec _) (ev_ite (fun _ => by rw [w64s i (by omega)]; exact hr) fun hl => ev_bindc (digit_spec _) ?_))))
          rcases ho with ho | ⟨_, ho⟩
          · exact absurd ho hl
          · refine ev_pos ho ?_
            rw [w64s i (by omega)]; exact hr
        · intro i hi _ ho
          refine st_spec_GoodName_l0 (ev_pos (by omega) (ev_pos (by omega) (ev_bindc (letter_spec _) (ev_neg (fun h => ho (.inl h)) (ev_bindc (digit_spec _) (ev_neg (fun h => ho ?_) (ev_some rfl)))))))
          rcases Nat.eq_zero_or_pos i with rfl | hp
          · have h' : digitChar (bt s 0) = true := h
            rw [hd] at h'; cases h'
          · exact .inr ⟨hp, h⟩
theorem szStringS_some (xs : List ByteArray) (g : xs.length * 16 ≤ 140737488351232 ∧ ∀ y ∈ xs, y.size ≤ 140737488351232) (left : Int) (h0 : 0 ≤ left) (h1 : left ≤ 1048576) : ∃ r, Ev (fun k => laws_szStringS.f k xs left) r ∧ (r < 0 ∨ 0 ≤ r ∧ r ≤ left ∧ (xs.length ≤ 1048576 ∧ ∀ y ∈ xs, y.size ≤ 1048576)) := by
  have g1 := g.1
  unfold laws_szStringS.f
  rw [w64 (n := left - (xs.length : Int)) (by omega) (by omega)]
  refine exev_ite (fun _ => exev_some (.inl (by omega))) fun hc => ?_
  have he : ∀ i : Nat, ∀ hi : i < xs.length, ∀ c : Int, 0 ≤ c → c ≤ left - (xs.length : Int) → ∃ r, Ev (fun k => some (wrap64 (c - ((rdOf ByteArray.empty xs (i : Int)).size : Int)))) r ∧ (r < 0 ∨ 0 ≤ r ∧ r ≤ c ∧ xs[i].size ≤ 1048576) := by
    intro i hi c h0 h1
    have e : rdOf ByteArray.empty xs (i : Int) = xs[i] := rdOf_get hi
    have gx := g.2 _ (List.getElem_mem hi)
    have ew : wrap64 (c - (xs[i].size : Int)) = c - (xs[i].size : Int) := w64 (by omega) (by omega)
    rw [e, ew]
    exact ⟨_, ev_some rfl, by by_cases hn : c - (xs[i].size : Int) < 0; exact .inl hn; exact .inr ⟨by omega, by omega, by omega⟩⟩
  obtain ⟨r, hr, hq⟩ := ev_size laws_szStringS.l0 (fun _ xs c i => some (wrap64 (c - ((rdOf ByteArray.empty xs i).size : Int)))) (fun y => y.size ≤ 1048576) (fun _ _ _ _ => rfl) xs (by omega) (left - (xs.length : Int)) (by omega) he
  refine ⟨r, hr, ?_⟩
  rcases hq with hq | ⟨q0, q1, q2⟩
  · exact .inl hq
  · exact .inr ⟨q0, by omega, by omega, q2⟩
theorem szByteS_some (xs : List Int) (g : xs.length * 1 ≤ 140737488351232 ∧ ∀ y ∈ xs, InU8 y) (left : Int) (h0 : 0 ≤ left) (h1 : left ≤ 1048576) : ∃ r, Ev (fun _ => laws_szByteS.f xs left) r ∧ (r < 0 ∨ 0 ≤ r ∧ r ≤ left ∧ xs.length ≤ 1048576) := by
  have g1 := g.1
  unfold laws_szByteS.f
  rw [w64 (n := left - (xs.length : Int)) (by omega) (by omega)]
  refine exev_ite (fun _ => exev_some (.inl (by omega))) fun hc => ?_
  exact exev_some (.inr ⟨by omega, by omega, by omega⟩)
def Fit62 (x : S62) : Prop := (x.f0.size ≤ 1048576) ∧ ((x.f1.length ≤ 1048576 ∧ ∀ y ∈ x.f1, y.size ≤ 1048576)) ∧ (x.f2.length ≤ 1048576)
theorem szAsset_some (a0 : ByteArray) (l1 : List ByteArray) (l2 : List Int) (ga0 : a0.size ≤ 140737488351232) (gl1 : l1.length * 16 ≤ 140737488351232 ∧ ∀ y ∈ l1, y.size ≤ 140737488351232) (gl2 : l2.length * 1 ≤ 140737488351232 ∧ ∀ y ∈ l2, InU8 y) (left : Int) (h0 : 0 ≤ left) (h1 : left ≤ 1048576) : ∃ r, Ev (fun k => laws_szAsset.f k a0 l1 l2 left) r ∧ (r < 0 ∨ 0 ≤ r ∧ r ≤ left ∧ (a0.size ≤ 1048576) ∧ ((l1.length ≤ 1048576 ∧ ∀ y ∈ l1, y.size ≤ 1048576)) ∧ (l2.length ≤ 1048576)) := by
  unfold laws_szAsset.f
  have e0 : wrap64 (left - (a0.size : Int)) = left - (a0.size : Int) := w64 (by omega) (by omega)
  rw [e0]
  refine exev_ite (fun _ => exev_some (.inl (by omega))) fun c0 => ?_
  obtain ⟨r1, hr1, hq1⟩ := szStringS_some l1 gl1 ((left - (a0.size : Int))) (by omega) (by omega)
  refine exev_bind hr1 (exev_ite (fun _ => exev_some (.inl (by omega))) fun c1 => ?_)
  rcases hq1 with hq1 | ⟨u1, v1, w1⟩
  · omega
  obtain ⟨r2, hr2, hq2⟩ := szByteS_some l2 gl2 (r1) (by omega) (by omega)
  refine exev_bind hr2 (exev_ite (fun _ => exev_some (.inl (by omega))) fun c2 => ?_)
  rcases hq2 with hq2 | ⟨u2, v2, w2⟩
  · omega
  exact exev_some (.inr ⟨by omega, by omega, (by omega), w1, w2⟩)
theorem szAssetS_some (xs : List S62) (g : xs.length * 64 ≤ 140737488351232 ∧ ∀ y ∈ xs, Ok62 y) (left : Int) (h0 : 0 ≤ left) (h1 : left ≤ 1048576) : ∃ r, Ev (fun k => laws_szAssetS.f k xs left) r ∧ (r < 0 ∨ 0 ≤ r ∧ r ≤ left ∧ (xs.length ≤ 1048576 ∧ ∀ y ∈ xs, Fit62 y)) := by
  have g1 := g.1
  unfold laws_szAssetS.f
  rw [w64 (n := left - (xs.length : Int)) (by omega) (by omega)]
  refine exev_ite (fun _ => exev_some (.inl (by omega))) fun hc => ?_
  have he : ∀ i : Nat, ∀ hi : i < xs.length, ∀ c : Int, 0 ≤ c → c ≤ left - (xs.length : Int) → ∃ r, Ev (fun k => laws_szAsset.f k ((rd_T62 xs (i : Int)).f0) ((rd_T62 xs (i : Int)).f1) ((rd_T62 xs (i : Int)).f2) c) r ∧ (r < 0 ∨ 0 ≤ r ∧ r ≤ c ∧ Fit62 xs[i]) := by
    intro i hi c h0 h1
    have e : rd_T62 xs (i : Int) = xs[i] := getD_get hi
    rw [e]
    have gx := g.2 _ (List.getElem_mem hi)
    obtain ⟨r, hr, hq⟩ := szAsset_some _ _ _ (gx.1) (gx.2.1) (gx.2.2) c h0 (by omega)
    exact ⟨r, hr, hq⟩
  obtain ⟨r, hr, hq⟩ := ev_size laws_szAssetS.l0 (fun k xs c i => laws_szAsset.f k ((rd_T62 xs i).f0) ((rd_T62 xs i).f1) ((rd_T62 xs i).f2) c) (fun y => Fit62 y) (fun _ _ _ _ => rfl) xs (by omega) (left - (xs.length : Int)) (by omega) he
  refine ⟨r, hr, ?_⟩
  rcases hq with hq | ⟨q0, q1, q2⟩
  · exact .inl hq
  · exact .inr ⟨q0, by omega, by omega, q2⟩
theorem toStringS_ev (xs : List ByteArray) (h : (xs.length ≤ 1048576 ∧ ∀ y ∈ xs, y.size ≤ 1048576)) : Ev (fun k => laws_toStringS.f k xs) xs := by
  refine ev_pos (by omega) (ev_pos (by omega) ?_)
  have := ev_copy laws_toStringS.l0 (fun _ xs i => some (rdOf ByteArray.empty xs i)) id (fun _ _ _ _ => rfl) xs (by omega) (fun i hi => ev_some (rdOf_get hi)) (List.replicate (((xs.length : Int) : Int).toNat) (⟨#[]⟩ : ByteArray)) (by simp)
  rwa [List.map_id] at this
theorem toByteS_ev (xs : List Int) (h : xs.length ≤ 1048576) : Ev (fun k => laws_toByteS.f k xs) xs := by
  refine ev_pos (by omega) (ev_pos (by omega) ?_)
  have := ev_copy laws_toByteS.l0 (fun _ xs i => some (rd xs i)) id (fun _ _ _ _ => rfl) xs (by omega) (fun i hi => ev_some (rd_get hi)) (List.replicate (((xs.length : Int) : Int).toNat) 0) (by simp)
  rwa [List.map_id] at this
def cv62 (x : S62) : S63 := ⟨x.f0, x.f1, x.f2⟩
def Fit63 (x : S63) : Prop := (x.f0.size ≤ 1048576) ∧ ((x.f1.length ≤ 1048576 ∧ ∀ y ∈ x.f1, y.size ≤ 1048576)) ∧ (x.f2.length ≤ 1048576)
theorem fit_cv62 {x : S62} (h : Fit62 x) : Fit63 (cv62 x) := by
  obtain ⟨h0, h1, h2⟩ := h
  exact ⟨h0, h1, h2⟩
theorem toAsset_ev (a0 : ByteArray) (l1 : List ByteArray) (l2 : List Int) (ha0 : a0.size ≤ 1048576) (hl1 : (l1.length ≤ 1048576 ∧ ∀ y ∈ l1, y.size ≤ 1048576)) (hl2 : l2.length ≤ 1048576) : Ev (fun k => laws_toAsset.f k a0 l1 l2) (a0, l1, l2) := by
  unfold laws_toAsset.f
  repeat (first | exact ev_some rfl | refine Ev.bind (toStringS_ev _ hl1) ?_ | refine Ev.bind (toByteS_ev _ hl2) ?_ | refine ev_bindc rfl ?_)
theorem toAssetS_ev (xs : List S62) (h : (xs.length ≤ 1048576 ∧ ∀ y ∈ xs, Fit62 y)) : Ev (fun k => laws_toAssetS.f k xs) (xs.map cv62) := by
  refine ev_pos (by omega) (ev_pos (by have := h.1; omega) ?_)
  refine ev_copy2 laws_toAssetS.l0 (fun k xs i => laws_toAsset.f k ((rd_T62 xs i).f0) ((rd_T62 xs i).f1) ((rd_T62 xs i).f2)) (fun t => (⟨t.1, t.2.1, t.2.2⟩ : S63)) cv62 (fun _ _ _ _ => rfl) xs (by have := h.1; omega) (fun i hi => ?_) _ (by simp)
  · have e : rd_T62 xs (i : Int) = xs[i] := getD_get hi
    rw [e]
    obtain ⟨hf0, hf1, hf2⟩ := h.2 _ (List.getElem_mem hi)
    exact ⟨_, toAsset_ev _ _ _ hf0 hf1 hf2, rfl⟩
theorem eqStringS_ev (xs : List ByteArray) (h : (xs.length ≤ 1048576 ∧ ∀ y ∈ xs, y.size ≤ 1048576)) : Ev (fun k => laws_eqStringS.f k xs xs) true := by
  refine ev_pos rfl ?_
  refine ev_for1 xs.length (fun k i (_ : Unit) => laws_eqStringS.l0 k xs xs (i : Int)) (fun _ _ => True) true ?_ ?_ 0 () (Nat.zero_le _) trivial
  · intro _ _
    exact Ev.step (fun _ => rfl) (ev_neg (by omega) (ev_some rfl))
  · intro i _ hi _
    refine .inr ⟨(), trivial, fun r hr => Ev.step (fun _ => rfl) (ev_pos (by omega) (ev_pos (by omega) (ev_pos (by omega) ?_)))⟩
    rw [w64s i (by have := h.1; omega)]
    exact ev_pos rfl hr
theorem eqByteS_ev (xs : List Int) (h : xs.length ≤ 1048576) : Ev (fun k => laws_eqByteS.f k xs xs) true := by
  refine ev_pos rfl ?_
  refine ev_for1 xs.length (fun k i (_ : Unit) => laws_eqByteS.l0 k xs xs (i : Int)) (fun _ _ => True) true ?_ ?_ 0 () (Nat.zero_le _) trivial
  · intro _ _
    exact Ev.step (fun _ => rfl) (ev_neg (by omega) (ev_some rfl))
  · intro i _ hi _
    refine .inr ⟨(), trivial, fun r hr => Ev.step (fun _ => rfl) (ev_pos (by omega) (ev_pos (by omega) (ev_pos (by omega) ?_)))⟩
    rw [w64s i (by have := h; omega)]
    exact ev_pos rfl hr
theorem eqAsset_ev (a0 : ByteArray) (l1 : List ByteArray) (l2 : List Int) (ha0 : a0.size ≤ 1048576) (hl1 : (l1.length ≤ 1048576 ∧ ∀ y ∈ l1, y.size ≤ 1048576)) (hl2 : l2.length ≤ 1048576) : Ev (fun k => laws_eqAsset.f k a0 l1 l2 a0 l1 l2) true := by
  unfold laws_eqAsset.f
  repeat (first | exact ev_some rfl | refine Ev.bind (eqStringS_ev l1 hl1) ?_ | refine Ev.bind (eqByteS_ev l2 hl2) ?_ | refine ev_pos rfl ?_ | refine ev_neg (by simp) ?_)
theorem eqAssetS_ev (xs : List S63) (h : (xs.length ≤ 1048576 ∧ ∀ y ∈ xs, Fit63 y)) : Ev (fun k => laws_eqAssetS.f k xs xs) true := by
  refine ev_pos rfl (ev_alike_self laws_eqAssetS.l0 (fun k xs ys i => laws_eqAsset.f k ((rd_T63 xs i).f0) ((rd_T63 xs i).f1) ((rd_T63 xs i).f2) ((rd_T63 ys i).f0) ((rd_T63 ys i).f1) ((rd_T63 ys i).f2)) (fun _ _ _ _ => rfl) xs (by have := h.1; omega) (fun i hi => ?_))
  · have e : rd_T63 xs (i : Int) = xs[i] := getD_get hi
    rw [e]
    obtain ⟨hf0, hf1, hf2⟩ := h.2 _ (List.getElem_mem hi)
    exact eqAsset_ev _ _ _ hf0 hf1 hf2
def MarkByteS (x : Int) (c d : Int) : Prop := x = (c) % 256 ∧ d = c + 1
theorem markByteS_ev (xs : List Int) (hl : xs.length ≤ 1048576) (c : Int) (hc0 : 0 ≤ c) (hc1 : c ≤ 1152921504606846976) :
    ∃ ys d, Chain MarkByteS ys c d ∧ c ≤ d ∧ d ≤ c + 1 * xs.length ∧ ys.length = xs.length ∧ Ev (fun k => laws_markByteS.f k xs c) (d, ys) := by
  refine ev_mark (fun k zs c i => laws_markByteS.l0 k zs c (i : Int)) MarkByteS (fun _ => True) 1 (by omega) (by omega) ?_ ?_ xs (fun _ _ => trivial) hl c hc0 hc1
  · intro zs c
    exact Ev.step (fun _ => rfl) (ev_neg (by omega) (ev_some rfl))
  · intro zs c i hi h20 _ h0 h1
    refine ⟨_, _, ⟨rfl, rfl⟩, by omega, by omega, fun r hr => Ev.step (fun _ => rfl) (ev_pos (by omega) (ev_pos (by omega) ?_))⟩
    simp only [Int.toNat_natCast, w64s i (by omega), w64 (n := c + 1) (by omega) (by omega)]
    exact hr
def NamesOk (l : List ByteArray) : Prop := ∀ i, i < l.length → NameOk (rdOf ByteArray.empty l (i : Int)) ∧ (0 < i → Op.bytesLess (rdOf ByteArray.empty l ((i : Int) - 1)).toList (rdOf ByteArray.empty l (i : Int)).toList = true)
theorem names_spec (l : List ByteArray) (hl : l.length ≤ 1048576) (b : Bool) (hb : b = true ↔ l.length ≤ 10 ∧ NamesOk l) : Ev (fun k => spec_l3Names.f k l 10) b := by
  refine ev_ite (fun h => ev_some (bool_false hb (fun h' => by have := h'.1; omega)).symm) fun h => ?_
  refine ev_all l.length (fun k i => spec_l3Names.l0 k l l (l.length : Int) (i : Int)) (fun i => NameOk (rdOf ByteArray.empty l (i : Int)) ∧ (0 < i → Op.bytesLess (rdOf ByteArray.empty l ((i : Int) - 1)).toList (rdOf ByteArray.empty l (i : Int)).toList = true)) true b ?_ ?_ ?_ ?_
  · rw [hb]; unfold NamesOk; constructor
    · exact fun h => ⟨rfl, h.2⟩
    · exact fun h' => ⟨by omega, h'.2⟩
  · exact st_spec_l3Names_l0 (ev_neg (by omega) (ev_some rfl))
  · intro i hi _ ⟨h0, h1⟩ r hr
    refine st_spec_l3Names_l0 (ev_pos (by omega) (ev_pos (by omega) (ev_pos (by omega) (Ev.bind (name_spec _ true ⟨fun _ => h0, fun _ => rfl⟩) (ev_pos rfl ?_)))))
    rw [w64s i (by omega), w64 (n := (i : Int) - 1) (by omega) (by omega)]
    exact ev_ite (fun hp => ev_pos (by omega) (ev_pos (by omega) (ev_pos (h1 (by omega)) hr))) fun _ => hr
  · intro i hi _ ho
    obtain ⟨c, hc⟩ := bool_of (NameOk (rdOf ByteArray.empty l (i : Int)))
    refine st_spec_l3Names_l0 (ev_pos (by omega) (ev_pos (by omega) (ev_pos (by omega) (Ev.bind (name_spec _ c hc) (ev_ite (fun h0 => ?_) fun _ => ev_some rfl)))))
    rw [w64 (n := (i : Int) - 1) (by omega) (by omega)]
    exact ev_ite (fun hp => ev_pos (by omega) (ev_pos (by omega) (ev_ite (fun h2 => absurd ⟨hc.1 h0, fun _ => h2⟩ ho) fun _ => ev_some rfl))) fun hp => absurd ⟨hc.1 h0, fun h => by omega⟩ ho
theorem names_impl (l : List ByteArray) (hx : l.length ≤ 1048576 ∧ ∀ y ∈ l, y.size ≤ 1048576) (b : Bool) (hb : b = true ↔ NamesOk l) : Ev (fun k => impl_areNames.f k l) b := by
  have hl := hx.1
  have hn : ∀ i : Nat, i < l.length → (rdOf ByteArray.empty l (i : Int)).size ≤ 140737488351232 := by
    intro i hi
    rw [rdOf_get hi]
    have := hx.2 _ (List.getElem_mem hi)
    omega
  refine ev_all l.length (fun k i => impl_areNames.l0 k l l (l.length : Int) (i : Int)) (fun i => NameOk (rdOf ByteArray.empty l (i : Int)) ∧ (0 < i → Op.bytesLess (rdOf ByteArray.empty l ((i : Int) - 1)).toList (rdOf ByteArray.empty l (i : Int)).toList = true)) true b ?_ ?_ ?_ ?_
  · rw [hb]; unfold NamesOk; constructor
    · exact fun h => ⟨rfl, h⟩
    · exact fun h' => h'.2
  · exact st_impl_areNames_l0 (ev_neg (by omega) (ev_some rfl))
  · intro i hi _ ⟨h0, h1⟩ r hr
    refine st_impl_areNames_l0 (ev_pos (by omega) (ev_pos (by omega) (ev_pos (by omega) (Ev.bind (name_impl _ (hn i hi) true ⟨fun _ => h0, fun _ => rfl⟩) (ev_pos rfl ?_)))))
    rw [w64s i (by omega), w64 (n := (i : Int) - 1) (by omega) (by omega)]
    exact ev_ite (fun hp => ev_pos (by omega) (ev_pos (by omega) (ev_pos (h1 (by omega)) hr))) fun _ => hr
  · intro i hi _ ho
    obtain ⟨c, hc⟩ := bool_of (NameOk (rdOf ByteArray.empty l (i : Int)))
    refine st_impl_areNames_l0 (ev_pos (by omega) (ev_pos (by omega) (ev_pos (by omega) (Ev.bind (name_impl _ (hn i hi) c hc) (ev_ite (fun h0 => ?_) fun _ => ev_some rfl)))))
    rw [w64 (n := (i : Int) - 1) (by omega) (by omega)]
    exact ev_ite (fun hp => ev_pos (by omega) (ev_pos (by omega) (ev_ite (fun h2 => absurd ⟨hc.1 h0, fun _ => h2⟩ ho) fun _ => ev_some rfl))) fun hp => absurd ⟨hc.1 h0, fun h => by omega⟩ ho
def hasB (l : List ByteArray) (s : ByteArray) : Bool := l.any fun y => y.toList == s.toList
theorem hasB_iff (l : List ByteArray) (s : ByteArray) : hasB l s = true ↔ ∃ j, j < l.length ∧ (rdOf ByteArray.empty l (j : Int)).toList = s.toList := by
  unfold hasB
  rw [List.any_eq_true]
  constructor
  · rintro ⟨y, hy, h⟩
    obtain ⟨j, hj, rfl⟩ := List.getElem_of_mem hy
    exact ⟨j, hj, by rw [rdOf_get hj]; simpa using h⟩
  · rintro ⟨j, hj, h⟩
    exact ⟨_, List.getElem_mem hj, by rw [rdOf_get hj] at h; simpa using h⟩
theorem hasB_snoc (l : List ByteArray) (x s : ByteArray) : hasB (l ++ [x]) s = (hasB l s || x.toList == s.toList) := by
  simp [hasB, List.any_append]
theorem has_spec (l : List ByteArray) (hl : l.length ≤ 1048576) (s : ByteArray) : Ev (fun k => spec_l1Has.f k l s) (hasB l s) := by
  refine ev_for1 l.length (fun k i (_ : Unit) => spec_l1Has.l0 k s l (l.length : Int) (i : Int)) (fun i _ => ∀ j, j < i → (rdOf ByteArray.empty l (j : Int)).toList ≠ s.toList) _ ?_ ?_ 0 () (Nat.zero_le _) (fun j hj => by omega)
  · intro _ h
    refine st_spec_l1Has_l0 (ev_neg (by omega) (ev_some ?_))
    rw [eq_comm, ← Bool.not_eq_true, hasB_iff]
    rintro ⟨j, hj, e⟩
    exact h j hj e
  · intro i _ hi h
    by_cases e : (rdOf ByteArray.empty l (i : Int)).toList = s.toList
    · refine .inl (st_spec_l1Has_l0 (ev_pos (by omega) (ev_pos (by omega) (ev_pos (by omega) (ev_pos e (ev_some ?_))))))
      rw [eq_comm, hasB_iff]
      exact ⟨i, hi, e⟩
    · refine .inr ⟨(), fun j hj => ?_, fun r hr => st_spec_l1Has_l0 (ev_pos (by omega) (ev_pos (by omega) (ev_pos (by omega) (ev_neg e ?_))))⟩
      · rcases Nat.lt_or_ge j i with h1 | h1
        · exact h j h1
        · obtain rfl : j = i := by omega
          exact e
      · rw [w64s i (by omega)]; exact hr
theorem has_impl (l : List ByteArray) (hl : l.length ≤ 1048576) (s : ByteArray) : Ev (fun k => slices_Contains_string_string.f k l s) (hasB l s) := by
  have key : ∃ r, Ev (fun k => slices_Index_string_string.f k l s) r ∧ (0 ≤ r ↔ hasB l s = true) := by
    refine ev_for l.length (fun k i (_ : Unit) => slices_Index_string_string.l0 k l s (l.length : Int) (i : Int)) (fun i _ => ∀ j, j < i → (rdOf ByteArray.empty l (j : Int)).toList ≠ s.toList) _ ?_ ?_ 0 () (Nat.zero_le _) (fun j hj => by omega)
    · intro _ h
      refine ⟨-1, st_slices_Index_string_string_l0 (ev_neg (by omega) (ev_some rfl)), ?_⟩
      rw [hasB_iff]
      exact ⟨fun h => by omega, fun ⟨j, hj, e⟩ => absurd e (h j hj)⟩
    · intro i _ hi h
      by_cases e : s.toList = (rdOf ByteArray.empty l (i : Int)).toList
      · refine .inl ⟨(i : Int), st_slices_Index_string_string_l0 (ev_pos (by omega) (ev_pos (by omega) (ev_pos (by omega) (ev_pos e (ev_some rfl))))), ?_⟩
        rw [hasB_iff]
        exact ⟨fun _ => ⟨i, hi, e.symm⟩, fun _ => by omega⟩
      · refine .inr ⟨(), fun j hj => ?_, fun r hr => st_slices_Index_string_string_l0 (ev_pos (by omega) (ev_pos (by omega) (ev_pos (by omega) (ev_neg e ?_))))⟩
        · rcases Nat.lt_or_ge j i with h1 | h1
          · exact h j h1
          · obtain rfl : j = i := by omega
            exact fun h => e h.symm
        · rw [w64s i (by omega)]; exact hr
  obtain ⟨r, hr, h⟩ := key
  refine Ev.bind hr (ev_some ?_)
  rw [Bool.eq_iff_iff, decide_eq_true_eq]
  exact h
def Ready (out : List ByteArray) (a : S63) : Prop := ¬ hasB out a.f0 = true ∧ ∀ j, j < a.f1.length → hasB out (rdOf ByteArray.empty a.f1 (j : Int)) = true
def NeedsFit (l : List S63) : Prop := ∀ i : Nat, i < l.length → (rd_T63 l (i : Int)).f1.length ≤ 1048576
def cnt (l : List S63) (out : List ByteArray) : Nat → Nat
  | 0 => 0
  | i + 1 => cnt l out i + (if hasB out (rd_T63 l (i : Int)).f0 = true then 0 else 1)
theorem cnt_le (l : List S63) (out : List ByteArray) : ∀ n, cnt l out n ≤ n
  | 0 => Nat.le_refl _
  | n + 1 => by
    have := cnt_le l out n
    unfold cnt
    split <;> omega
theorem cnt_mono (l : List S63) (out out' : List ByteArray) (h : ∀ s, hasB out s = true → hasB out' s = true) : ∀ n, cnt l out' n ≤ cnt l out n
  | 0 => Nat.le_refl _
  | n + 1 => by
    have := cnt_mono l out out' h n
    unfold cnt
    by_cases h1 : hasB out (rd_T63 l (n : Int)).f0 = true
    · rw [if_pos h1, if_pos (h _ h1)]; omega
    · rw [if_neg h1]; split <;> omega
theorem cnt_lt (l : List S63) (out out' : List ByteArray) (h : ∀ s, hasB out s = true → hasB out' s = true) (i : Nat) (h0 : ¬ hasB out (rd_T63 l (i : Int)).f0 = true) (h1 : hasB out' (rd_T63 l (i : Int)).f0 = true) : ∀ n, i < n → cnt l out' n < cnt l out n
  | 0, hi => by omega
  | n + 1, hi => by
    unfold cnt
    by_cases e : i = n
    · subst e
      have := cnt_mono l out out' h i
      rw [if_neg h0, if_pos h1]; omega
    · have := cnt_lt l out out' h i h0 h1 n (by omega)
      by_cases h2 : hasB out (rd_T63 l (n : Int)).f0 = true
      · rw [if_pos h2, if_pos (h _ h2)]; omega
      · rw [if_neg h2]; split <;> omega
theorem ready_impl (out : List ByteArray) (ho : out.length ≤ 1048576) (a : S63) (ha : a.f1.length ≤ 1048576) (b : Bool) (hb : b = true ↔ Ready out a) : Ev (fun k => impl_makeOrder_1.f k a.f0 a.f1 a.f2 out) b := by
  unfold impl_makeOrder_1.f
  refine Ev.bind (has_impl out ho a.f0) (ev_ite (fun h0 => ev_some (bool_false hb (fun h => h.1 h0)).symm) fun h0 => ?_)
  refine Ev.bind (ev_contains (fun k xs n i => slices_IndexFunc_w80.l0 k xs n i out) (fun k xs i => impl_makeOrder_1_1.f k (rdOf ByteArray.empty xs i) out) (fun _ _ _ _ => rfl) a.f1 (by omega) (fun j => !hasB out (rdOf ByteArray.empty a.f1 (j : Int))) (fun j _ => Ev.bind (has_impl out ho _) (ev_some rfl)) (!b) ?_) (ev_some (by simp))
  cases b with
  | true =>
    have hr := hb.1 rfl
    simp only [Bool.not_true, Bool.not_eq_true', false_iff, not_exists, not_and, Bool.false_eq_true]
    intro j hj
    rw [hr.2 j hj]; decide
  | false =>
    simp only [Bool.not_false, true_iff]
    rcases Classical.em (∃ j, j < a.f1.length ∧ (!hasB out (rdOf ByteArray.empty a.f1 (j : Int))) = true) with h | h
    · exact h
    · refine absurd (hb.2 ⟨h0, fun j hj => ?_⟩) (by decide)
      cases e : hasB out (rdOf ByteArray.empty a.f1 (j : Int)) with
      | true => rfl
      | false => exact absurd ⟨j, hj, by rw [e]; rfl⟩ h
theorem inner_spec (l : List S63) (out : List ByteArray) (ho : out.length ≤ 1048576) (i : Nat) (hi : i < 1048576) (a : S63) (ha : a.f1.length ≤ 1048576) (r : List ByteArray)
    (hyes : Ready out a → Ev (fun k => spec_l21Order.l0 k l (out ++ [a.f0])) r) (hno : ¬ Ready out a → Ev (fun k => spec_l21Order.l1 k l out false l (l.length : Int) ((i + 1 : Nat) : Int)) r) :
    Ev (fun k => spec_l21Order.l2 k l out false (!hasB out a.f0) l (l.length : Int) (i : Int) a.f1 (a.f1.length : Int) 0 a.f0 a.f1 a.f2) r := by
  refine ev_for1 a.f1.length (fun k j (x : Bool) => spec_l21Order.l2 k l out false x l (l.length : Int) (i : Int) a.f1 (a.f1.length : Int) (j : Int) a.f0 a.f1 a.f2) (fun j x => x = true ↔ ¬ hasB out a.f0 = true ∧ ∀ q, q < j → hasB out (rdOf ByteArray.empty a.f1 (q : Int)) = true) r ?_ ?_ 0 _ (Nat.zero_le _) ?_
  · intro x hx
    refine st_spec_l21Order_l2 (ev_neg (by omega) (ev_ite (fun h => ev_pos (by omega) (hyes (hx.1 h))) fun h => ?_))
    rw [w64s i (by omega)]
    exact hno fun h' => h (hx.2 h')
  · intro j x hj hx
    cases x with
    | true =>
      refine .inr ⟨hasB out (rdOf ByteArray.empty a.f1 (j : Int)), ?_, fun r' hr' => st_spec_l21Order_l2 (ev_pos (by omega) (ev_pos (by omega) (ev_pos (by omega) (ev_pos rfl (Ev.bind (has_spec out ho _) ?_)))))⟩
      · have hx := hx.1 rfl
        constructor
        · intro h
          refine ⟨hx.1, fun q hq => ?_⟩
          rcases Nat.lt_or_ge q j with h1 | h1
          · exact hx.2 q h1
          · obtain rfl : q = j := by omega
            exact h
        · exact fun h => h.2 j (by omega)
      · rw [w64s j (by omega)]; exact hr'
    | false =>
      refine .inr ⟨false, ?_, fun r' hr' => st_spec_l21Order_l2 (ev_pos (by omega) (ev_pos (by omega) (ev_pos (by omega) (ev_neg (by decide) ?_))))⟩
      · constructor
        · intro h; cases h
        · intro h; exact hx.2 ⟨h.1, fun q hq => h.2 q (by omega)⟩
      · rw [w64s j (by omega)]; exact hr'
  · constructor
    · intro h; exact ⟨by simpa using h, fun q hq => by omega⟩
    · intro h; simpa using h.1
theorem order_step (l : List S63) (hl : l.length ≤ 1048576) (hf : NeedsFit l) (out : List ByteArray) (ho : out.length ≤ l.length)
    (next : ∀ i : Nat, i < l.length → Ready out (rd_T63 l (i : Int)) → (∀ j, j < i → ¬ Ready out (rd_T63 l (j : Int))) → ∃ res, Ev (fun k => spec_l21Order.l0 k l (out ++ [(rd_T63 l (i : Int)).f0])) res ∧ Ev (fun k => impl_makeOrder.l0 k l (out ++ [(rd_T63 l (i : Int)).f0])) res ∧ res.length ≤ l.length) :
    ∃ res, Ev (fun k => spec_l21Order.l0 k l out) res ∧ Ev (fun k => impl_makeOrder.l0 k l out) res ∧ res.length ≤ l.length := by
  obtain ⟨P, hP⟩ : ∃ P : Nat → Bool, ∀ i : Nat, P i = true ↔ Ready out (rd_T63 l (i : Int)) := ⟨fun i => Classical.choose (bool_of (Ready out (rd_T63 l (i : Int)))), fun i => Classical.choose_spec (bool_of (Ready out (rd_T63 l (i : Int))))⟩
  have hno : ∀ i, P i = false → ¬ Ready out (rd_T63 l (i : Int)) := fun i h h' => by rw [(hP i).2 h'] at h; cases h
  obtain ⟨r, hr, h⟩ := ev_index (fun k xs n i => slices_IndexFunc_w78.l0 k xs n i out) (fun k xs i => impl_makeOrder_1.f k (rd_T63 xs i).f0 (rd_T63 xs i).f1 (rd_T63 xs i).f2 out) (fun _ _ _ _ => rfl) l (by omega) P (fun i hi => ready_impl out (by omega) _ (hf i hi) _ (hP i))
  have skip : ∀ (j : Nat) (res : List ByteArray), j < l.length → ¬ Ready out (rd_T63 l (j : Int)) → Ev (fun k => spec_l21Order.l1 k l out false l (l.length : Int) ((j + 1 : Nat) : Int)) res → Ev (fun k => spec_l21Order.l1 k l out false l (l.length : Int) (j : Int)) res := fun j res hj hn he =>
    st_spec_l21Order_l1 (ev_pos (by omega) (ev_pos (by omega) (ev_pos (by omega) (Ev.bind (has_spec out (by omega) _) (inner_spec l out (by omega) j (by omega) _ (hf j hj) res (fun h => absurd h hn) fun _ => he)))))
  rcases h with ⟨rfl, h⟩ | ⟨i, hi, rfl, h1, h2⟩
  · refine ⟨out, ?_, st_impl_makeOrder_l0 (Ev.bind hr (ev_pos (by omega) (ev_some rfl))), ho⟩
    refine st_spec_l21Order_l0 ?_
    refine ev_for1 l.length (fun k j (_ : Unit) => spec_l21Order.l1 k l out false l (l.length : Int) (j : Int)) (fun _ _ => True) out ?_ ?_ 0 () (Nat.zero_le _) trivial
    · intro _ _
      exact st_spec_l21Order_l1 (ev_neg (by omega) (ev_neg (by decide) (ev_some rfl)))
    · intro j _ hj _
      exact .inr ⟨(), trivial, fun res he => skip j res hj (hno j (h j hj)) he⟩
  · have hy := (hP i).1 h1
    obtain ⟨res, r1, r2, r3⟩ := next i hi hy (fun j hj => hno j (h2 j hj))
    refine ⟨res, ?_, st_impl_makeOrder_l0 (Ev.bind hr (ev_neg (by omega) (ev_pos (by omega) (ev_pos (by omega) (ev_pos (by omega) r2))))), r3⟩
    refine st_spec_l21Order_l0 ?_
    refine ev_for1 l.length (fun k j (_ : Unit) => spec_l21Order.l1 k l out false l (l.length : Int) (j : Int)) (fun j _ => j ≤ i) res ?_ ?_ 0 () (Nat.zero_le _) (Nat.zero_le _)
    · intro _ h; omega
    · intro j _ hj hji
      by_cases e : j = i
      · subst e
        exact .inl (st_spec_l21Order_l1 (ev_pos (by omega) (ev_pos (by omega) (ev_pos (by omega) (Ev.bind (has_spec out (by omega) _) (inner_spec l out (by omega) j (by omega) _ (hf j hj) res (fun _ => r1) fun h => absurd hy h))))))
      · exact .inr ⟨(), by omega, fun res' he => skip j res' hj (hno j (h2 j (by omega))) he⟩
theorem order_same (l : List S63) (hl : l.length ≤ 1048576) (hf : NeedsFit l) : ∀ (d : Nat) (out : List ByteArray), cnt l out l.length ≤ d → out.length + cnt l out l.length ≤ l.length →
    ∃ res, Ev (fun k => spec_l21Order.l0 k l out) res ∧ Ev (fun k => impl_makeOrder.l0 k l out) res ∧ res.length ≤ l.length := by
  intro d
  induction d with
  | zero =>
    intro out hd ho
    refine order_step l hl hf out (by omega) (fun i hi h0 h1 => ?_)
    have := cnt_lt l out (out ++ [(rd_T63 l (i : Int)).f0]) (fun s hs => by rw [hasB_snoc, hs]; rfl) i h0.1 (by rw [hasB_snoc]; simp) l.length hi
    omega
  | succ d ih =>
    intro out hd ho
    refine order_step l hl hf out (by omega) (fun i hi h0 h1 => ?_)
    have := cnt_lt l out (out ++ [(rd_T63 l (i : Int)).f0]) (fun s hs => by rw [hasB_snoc, hs]; rfl) i h0.1 (by rw [hasB_snoc]; simp) l.length hi
    exact ih _ (by omega) (by rw [List.length_append]; simp only [List.length_cons, List.length_nil]; omega)
def AtS (l : List S63) (s : ByteArray) : Prop := ∃ q, q < l.length ∧ (rd_T63 l (q : Int)).f0.toList = s.toList
theorem at_spec (l : List S63) (hl : l.length ≤ 1048576) (s : ByteArray) : ∃ r, Ev (fun k => spec_l21At.f k l s) r ∧ (r < 0 ↔ ¬ AtS l s) := by
  refine ev_for l.length (fun k i (_ : Unit) => spec_l21At.l0 k s l (l.length : Int) (i : Int)) (fun i _ => ∀ j, j < i → (rd_T63 l (j : Int)).f0.toList ≠ s.toList) (fun r => r < 0 ↔ ¬ AtS l s) ?_ ?_ 0 () (Nat.zero_le _) (fun j hj => by omega)
  · intro _ h
    refine ⟨-1, st_spec_l21At_l0 (ev_neg (by omega) (ev_some rfl)), ?_⟩
    exact ⟨fun _ ⟨j, hj, e⟩ => h j hj e, fun _ => by omega⟩
  · intro i _ hi h
    by_cases e : (rd_T63 l (i : Int)).f0.toList = s.toList
    · refine .inl ⟨(i : Int), st_spec_l21At_l0 (ev_pos (by omega) (ev_pos (by omega) (ev_pos (by omega) (ev_pos e (ev_some rfl))))), ?_⟩
      exact ⟨fun h => by omega, fun h => absurd ⟨i, hi, e⟩ h⟩
    · refine .inr ⟨(), fun j hj => ?_, fun r hr => st_spec_l21At_l0 (ev_pos (by omega) (ev_pos (by omega) (ev_pos (by omega) (ev_neg e ?_))))⟩
      · rcases Nat.lt_or_ge j i with h1 | h1
        · exact h j h1
        · obtain rfl : j = i := by omega
          exact e
      · rw [w64s i (by omega)]; exact hr
theorem at_impl (l : List S63) (hl : l.length ≤ 1048576) (s : ByteArray) : ∃ r, Ev (fun k => impl_assetAt.f k l s) r ∧ (r < 0 ↔ ¬ AtS l s) := by
  obtain ⟨r, hr, h⟩ := ev_index (fun k xs n i => slices_IndexFunc_w77.l0 k xs n i s) (fun _ xs i => impl_assetAt_1.f (rd_T63 xs i).f0 (rd_T63 xs i).f1 (rd_T63 xs i).f2 s) (fun _ _ _ _ => rfl) l (by omega) (fun i => (rd_T63 l (i : Int)).f0.toList == s.toList) (fun i _ => ev_some rfl)
  refine ⟨r, Ev.bind hr (ev_some rfl), ?_⟩
  rcases h with ⟨rfl, h⟩ | ⟨i, hi, rfl, h1, _⟩
  · exact ⟨fun _ ⟨j, hj, e⟩ => by have := h j hj; rw [e] at this; simp at this, fun _ => by omega⟩
  · exact ⟨fun h => by omega, fun h => absurd ⟨i, hi, by simpa using h1⟩ h⟩
def AssetOk (l : List S63) (i : Nat) : Prop :=
  NameOk (rd_T63 l i).f0 ∧ (0 < i → Op.bytesLess (rd_T63 l ((i : Int) - 1)).f0.toList (rd_T63 l i).f0.toList = true) ∧ ((rd_T63 l i).f1.length ≤ 10 ∧ NamesOk (rd_T63 l i).f1) ∧ (rd_T63 l i).f2.length ≤ 400 ∧ ∀ j, j < (rd_T63 l i).f1.length → AtS l (rdOf ByteArray.empty (rd_T63 l i).f1 (j : Int))
def AssetsOk (l : List S63) (res : List ByteArray) : Prop := l.length ≤ 30 ∧ (∀ i, i < l.length → AssetOk l i) ∧ res.length = l.length
theorem asset_spec (l : List S63) (hl : l.length ≤ 1048576) (hf : NeedsFit l) (i : Nat) (hi : i < l.length) (r : Bool) (hyes : AssetOk l i → Ev (fun k => spec_GoodAssets.l0 k l l (l.length : Int) ((i + 1 : Nat) : Int)) r) (hno : ¬ AssetOk l i → r = false) :
    Ev (fun k => spec_GoodAssets.l0 k l l (l.length : Int) (i : Int)) r := by
  have e : wrap64 ((i : Int) - 1) = (i : Int) - 1 := w64 (by omega) (by omega)
  have hfi := hf i hi
  obtain ⟨d, hd⟩ := bool_of (NameOk (rd_T63 l i).f0)
  have j1t : ¬ AssetOk l i → Ev (fun k => spec_GoodAssets.j1 k l l (l.length : Int) (i : Int) true (rd_T63 l i).f0 (rd_T63 l i).f1 (rd_T63 l i).f2) r := fun h => st_spec_GoodAssets_j1 (ev_pos rfl (ev_some (hno h).symm))
  refine st_spec_GoodAssets_l0 (ev_pos (by omega) (ev_pos (by omega) (ev_pos (by omega) (Ev.bind (name_spec _ d hd) (ev_ite (fun g0 => ?_) fun g0 => j1t fun h => g0 (hd.2 h.1))))))
  have g0 := hd.1 g0
  rw [e]
  have tail : (0 < i → Op.bytesLess (rd_T63 l ((i : Int) - 1)).f0.toList (rd_T63 l i).f0.toList = true) → Ev (fun k => (spec_l3Names.f k (rd_T63 l i).f1 10).bind fun t => if t = true then spec_GoodAssets.j1 k l l (l.length : Int) (i : Int) (decide (((rd_T63 l i).f2.length : Int) > 400)) (rd_T63 l i).f0 (rd_T63 l i).f1 (rd_T63 l i).f2 else spec_GoodAssets.j1 k l l (l.length : Int) (i : Int) true (rd_T63 l i).f0 (rd_T63 l i).f1 (rd_T63 l i).f2) r := by
    intro g1
    obtain ⟨c, hc⟩ := bool_of ((rd_T63 l i).f1.length ≤ 10 ∧ NamesOk (rd_T63 l i).f1)
    refine Ev.bind (names_spec _ hfi c hc) (ev_ite (fun g2 => ?_) fun g2 => j1t fun h => g2 (hc.2 h.2.2.1))
    have g2 := hc.1 g2
    refine st_spec_GoodAssets_j1 (ev_ite (fun g3 => ev_some (hno fun h => by have := h.2.2.2.1; have := of_decide_eq_true g3; omega).symm) fun g3 => ?_)
    have g3 : (rd_T63 l i).f2.length ≤ 400 := by
      rcases Nat.lt_or_ge 400 (rd_T63 l i).f2.length with h | h
      · exact absurd (decide_eq_true (by omega)) g3
      · exact h
    refine ev_for1 (rd_T63 l i).f1.length (fun k j (_ : Unit) => spec_GoodAssets.l1 k l l (l.length : Int) (i : Int) (rd_T63 l i).f1 ((rd_T63 l i).f1.length : Int) (j : Int)) (fun j _ => ∀ q, q < j → AtS l (rdOf ByteArray.empty (rd_T63 l i).f1 (q : Int))) r ?_ ?_ 0 () (Nat.zero_le _) (fun j hj => by omega)
    · intro _ h
      refine st_spec_GoodAssets_l1 (ev_neg (by omega) ?_)
      rw [w64s i (by omega)]
      exact hyes ⟨g0, g1, g2, g3, h⟩
    · intro j _ hj h
      obtain ⟨q, hq, hqs⟩ := at_spec l hl (rdOf ByteArray.empty (rd_T63 l i).f1 (j : Int))
      by_cases ha : AtS l (rdOf ByteArray.empty (rd_T63 l i).f1 (j : Int))
      · refine .inr ⟨(), fun q' hq' => ?_, fun r' hr' => st_spec_GoodAssets_l1 (ev_pos (by omega) (ev_pos (by omega) (ev_pos (by omega) (Ev.bind hq (ev_neg (fun h' => hqs.1 h' ha) ?_)))))⟩
        · rcases Nat.lt_or_ge q' j with h1 | h1
          · exact h q' h1
          · obtain rfl : q' = j := by omega
            exact ha
        · rw [w64s j (by omega)]; exact hr'
      · exact .inl (st_spec_GoodAssets_l1 (ev_pos (by omega) (ev_pos (by omega) (ev_pos (by omega) (Ev.bind hq (ev_pos (hqs.2 ha) (ev_some (hno fun h' => ha (h'.2.2.2.2 j hj)).symm)))))))
  exact ev_ite (fun hp => ev_pos (by omega) (ev_pos (by omega) (ev_ite (fun g1 => tail fun _ => g1) fun g1 => j1t fun h => g1 (h.2.1 (by omega))))) fun hp => tail (fun h => by omega)
theorem asset_impl (l : List S63) (hx : l.length ≤ 1048576 ∧ ∀ y ∈ l, Fit63 y) (i : Nat) (hi : i < l.length) (r : Bool) (hyes : AssetOk l i → Ev (fun k => impl_GoodAssets.l0 k l (l.length : Int) ((i + 1 : Nat) : Int) l) r) (hno : ¬ AssetOk l i → r = false) :
    Ev (fun k => impl_GoodAssets.l0 k l (l.length : Int) (i : Int) l) r := by
  have hl := hx.1
  have e : wrap64 ((i : Int) - 1) = (i : Int) - 1 := w64 (by omega) (by omega)
  have hfit : Fit63 (rd_T63 l (i : Int)) := by
    have e : rd_T63 l (i : Int) = l[i] := getD_get hi
    rw [e]
    exact hx.2 _ (List.getElem_mem hi)
  have hfi := hfit.2.1.1
  have hn0 := hfit.1
  obtain ⟨d, hd⟩ := bool_of (NameOk (rd_T63 l i).f0)
  have j1t : ¬ AssetOk l i → Ev (fun k => impl_GoodAssets.j1 k l (l.length : Int) (i : Int) true l (rd_T63 l i).f0 (rd_T63 l i).f1 (rd_T63 l i).f2) r := fun h => st_impl_GoodAssets_j1 (ev_pos rfl (ev_some (hno h).symm))
  refine st_impl_GoodAssets_l0 (ev_pos (by omega) (ev_pos (by omega) (ev_pos (by omega) (Ev.bind (name_impl _ (by omega) d hd) (ev_ite (fun g0 => ?_) fun g0 => j1t fun h => g0 (hd.2 h.1))))))
  have g0 := hd.1 g0
  rw [e]
  have tail : (0 < i → Op.bytesLess (rd_T63 l ((i : Int) - 1)).f0.toList (rd_T63 l i).f0.toList = true) → Ev (fun k => (impl_areNames.f k (rd_T63 l i).f1).bind fun t => if t = true then (if ((rd_T63 l i).f1.length : Int) > 10 then impl_GoodAssets.j1 k l (l.length : Int) (i : Int) true l (rd_T63 l i).f0 (rd_T63 l i).f1 (rd_T63 l i).f2 else impl_GoodAssets.j1 k l (l.length : Int) (i : Int) (decide (((rd_T63 l i).f2.length : Int) > 400)) l (rd_T63 l i).f0 (rd_T63 l i).f1 (rd_T63 l i).f2) else impl_GoodAssets.j1 k l (l.length : Int) (i : Int) true l (rd_T63 l i).f0 (rd_T63 l i).f1 (rd_T63 l i).f2) r := by
    intro g1
    obtain ⟨c, hc⟩ := bool_of (NamesOk (rd_T63 l i).f1)
    refine Ev.bind (names_impl _ hfit.2.1 c hc) (ev_ite (fun g2 => ?_) fun g2 => j1t fun h => g2 (hc.2 h.2.2.1.2))
    have g2 := hc.1 g2
    refine ev_ite (fun g4 => j1t fun h => by have := h.2.2.1.1; omega) fun g4 => ?_
    refine st_impl_GoodAssets_j1 (ev_ite (fun g3 => ev_some (hno fun h => by have := h.2.2.2.1; have := of_decide_eq_true g3; omega).symm) fun g3 => ?_)
    have g3 : (rd_T63 l i).f2.length ≤ 400 := by
      rcases Nat.lt_or_ge 400 (rd_T63 l i).f2.length with h | h
      · exact absurd (decide_eq_true (by omega)) g3
      · exact h
    obtain ⟨P, hP⟩ : ∃ P : Nat → Bool, ∀ j : Nat, P j = true ↔ ¬ AtS l (rdOf ByteArray.empty (rd_T63 l i).f1 (j : Int)) := ⟨fun j => Classical.choose (bool_of (¬ AtS l (rdOf ByteArray.empty (rd_T63 l i).f1 (j : Int)))), fun j => Classical.choose_spec (bool_of (¬ AtS l (rdOf ByteArray.empty (rd_T63 l i).f1 (j : Int))))⟩
    obtain ⟨b, hb⟩ := bool_of (∃ j, j < (rd_T63 l i).f1.length ∧ P j = true)
    refine Ev.bind (ev_contains (fun k xs n i => slices_IndexFunc_w37.l0 k xs n i l) (fun k xs i => impl_GoodAssets_1.f k (rdOf ByteArray.empty xs i) l) (fun _ _ _ _ => rfl) _ (by omega) P (fun j _ => ?_) b hb) (ev_ite (fun g5 => ev_some (hno fun h => ?_).symm) fun g5 => ?_)
    · obtain ⟨q, hq, hqs⟩ := at_impl l hl (rdOf ByteArray.empty (rd_T63 l i).f1 (j : Int))
      refine Ev.bind hq (ev_some ?_)
      rw [Bool.eq_iff_iff, decide_eq_true_eq, hqs, hP]
    · obtain ⟨j, hj, hp⟩ := hb.1 g5
      exact (hP j).1 hp (h.2.2.2.2 j hj)
    · rw [w64s i (by omega)]
      refine hyes ⟨g0, g1, ⟨by omega, g2⟩, g3, fun j hj => ?_⟩
      rcases Classical.em (AtS l (rdOf ByteArray.empty (rd_T63 l i).f1 (j : Int))) with h | h
      · exact h
      · exact absurd (hb.2 ⟨j, hj, (hP j).2 h⟩) g5
  exact ev_ite (fun hp => ev_pos (by omega) (ev_pos (by omega) (ev_ite (fun g1 => tail fun _ => g1) fun g1 => j1t fun h => g1 (h.2.1 (by omega))))) fun hp => tail (fun h => by omega)
theorem needs_fit (l : List S63) (hx : l.length ≤ 1048576 ∧ ∀ y ∈ l, Fit63 y) : NeedsFit l := by
  intro i hi
  have e : rd_T63 l (i : Int) = l[i] := getD_get hi
  rw [e]
  exact (hx.2 _ (List.getElem_mem hi)).2.1.1
theorem assets_same (l : List S63) (hx : l.length ≤ 1048576 ∧ ∀ y ∈ l, Fit63 y) :
    ∃ res b, Ev (fun k => spec_l21Order.f k l) res ∧ Ev (fun k => impl_makeOrder.f k l) res ∧ res.length ≤ l.length ∧ (b = true ↔ AssetsOk l res) ∧ Ev (fun k => spec_GoodAssets.f k l) b ∧ Ev (fun k => impl_GoodAssets.f k l) b := by
  have hl := hx.1
  have hf := needs_fit l hx
  obtain ⟨res, r1, r2, r3⟩ := order_same l hl hf (cnt l [] l.length) [] (Nat.le_refl _) (by have := cnt_le l [] l.length; simpa using this)
  obtain ⟨b, hb⟩ := bool_of (AssetsOk l res)
  have no : ∀ i, i < l.length → ¬ AssetOk l i → b = false := fun i hi h => bool_false hb fun h' => h (h'.2.1 i hi)
  refine ⟨res, b, r1, r2, r3, hb, ?_, ?_⟩
  · refine ev_ite (fun h => ev_some (bool_false hb (fun h' => by have := h'.1; omega)).symm) fun h => ?_
    refine ev_for1 l.length (fun k i (_ : Unit) => spec_GoodAssets.l0 k l l (l.length : Int) (i : Int)) (fun i _ => ∀ j, j < i → AssetOk l j) b ?_ ?_ 0 () (Nat.zero_le _) (fun j hj => by omega)
    · intro _ hall
      refine st_spec_GoodAssets_l0 (ev_neg (by omega) (Ev.bind r1 (ev_some ?_)))
      rw [Bool.eq_iff_iff, hb, beq_iff_eq]
      exact ⟨fun h' => ⟨by omega, hall, by omega⟩, fun h' => by have := h'.2.2; omega⟩
    · intro i _ hi hall
      by_cases ho : AssetOk l i
      · refine .inr ⟨(), fun j hj => ?_, fun r hr => asset_spec l hl hf i hi r (fun _ => hr) (fun h' => absurd ho h')⟩
        rcases Nat.lt_or_ge j i with h1 | h1
        · exact hall j h1
        · obtain rfl : j = i := by omega
          exact ho
      · exact .inl (asset_spec l hl hf i hi b (fun h' => absurd h' ho) (fun _ => no i hi ho))
  · refine ev_for1 l.length (fun k i (_ : Unit) => impl_GoodAssets.l0 k l (l.length : Int) (i : Int) l) (fun i _ => ∀ j, j < i → AssetOk l j) b ?_ ?_ 0 () (Nat.zero_le _) (fun j hj => by omega)
    · intro _ hall
      refine st_impl_GoodAssets_l0 (ev_neg (by omega) (ev_ite (fun h => Ev.bind r2 (ev_some ?_)) fun h => ev_some (bool_false hb (fun h' => by have := h'.1; omega)).symm))
      rw [Bool.eq_iff_iff, hb, beq_iff_eq]
      exact ⟨fun h' => ⟨by omega, hall, by omega⟩, fun h' => by have := h'.2.2; omega⟩
    · intro i _ hi hall
      by_cases ho : AssetOk l i
      · refine .inr ⟨(), fun j hj => ?_, fun r hr => asset_impl l hx i hi r (fun _ => hr) (fun h' => absurd ho h')⟩
        rcases Nat.lt_or_ge j i with h1 | h1
        · exact hall j h1
        · obtain rfl : j = i := by omega
          exact ho
      · exact .inl (asset_impl l hx i hi b (fun h' => absurd h' ho) (fun _ => no i hi ho))
theorem marktext_loop : ∀ (n : Nat) (s : ByteArray), n + s.size ≤ 2305843009213693952 → ∃ t, Ev (fun k => laws_markText.l0 k (n : Int) s) t := by
  intro n
  induction n using Nat.strongRecOn with
  | _ n ih =>
    intro s hs
    by_cases h : n = 0
    · subst h
      exact ⟨_, st_laws_markText_l0 (ev_neg (by omega) (ev_pos (by omega) (ev_some rfl)))⟩
    · have h1 : ∀ x : Int, (strOfNums [x]).size = 1 := fun x => by simp [strOfNums, ByteArray.size]
      obtain ⟨t, ht⟩ := ih (n / 10) (by omega) (strOfNums [(wrap64 (48 + (Int.tmod (n : Int) 10))) % 256] ++ s) (by rw [ByteArray.size_append, h1]; omega)
      refine ⟨t, st_laws_markText_l0 (ev_pos (by omega) (ev_bindc rfl (ev_pos (by rw [h1]; omega) ?_)))⟩
      rw [show wrap64 (Int.tdiv (n : Int) 10) = ((n / 10 : Nat) : Int) by rw [Int.tdiv_eq_ediv_of_nonneg (by omega), w64 (by omega) (by omega)]; omega]
      exact ht
theorem marktext_ev (c : Int) (h0 : 0 ≤ c) (h1 : c ≤ 2305843009213693952) : ∃ t, Ev (fun k => laws_markText.f k c) t := by
  unfold laws_markText.f
  by_cases h : c ≤ 0
  · exact ⟨_, ev_pos h (ev_some rfl)⟩
  · obtain ⟨t, ht⟩ := marktext_loop c.toNat (⟨#[]⟩ : ByteArray) (by simp [ByteArray.size]; omega)
    refine ⟨t, ev_neg h ?_⟩
    rw [Int.toNat_of_nonneg h0] at ht
    exact ht
def MarkStringS (x : ByteArray) (c d : Int) : Prop := Ev (fun k => laws_markText.f k c) x ∧ d = c + 1
theorem markStringS_ev (xs : List ByteArray) (hl : xs.length ≤ 1048576) (c : Int) (hc0 : 0 ≤ c) (hc1 : c ≤ 1152921504606846976) :
    ∃ ys d, Chain MarkStringS ys c d ∧ c ≤ d ∧ d ≤ c + 1 * xs.length ∧ ys.length = xs.length ∧ Ev (fun k => laws_markStringS.f k xs c) (d, ys) := by
  refine ev_mark (fun k zs c i => laws_markStringS.l0 k zs c (i : Int)) MarkStringS (fun _ => True) 1 (by omega) (by omega) ?_ ?_ xs (fun _ _ => trivial) hl c hc0 hc1
  · intro zs c
    exact st_laws_markStringS_l0 (ev_neg (by omega) (ev_some rfl))
  · intro zs c i hi h20 _ h0 h1
    obtain ⟨t, ht⟩ := marktext_ev c h0 h1
    refine ⟨t, _, ⟨ht, rfl⟩, by omega, by omega, fun r hr => st_laws_markStringS_l0 (ev_pos (by omega) (Ev.bind ht (ev_pos (by omega) ?_)))⟩
    simp only [Int.toNat_natCast, w64s i (by omega), w64 (n := c + 1) (by omega) (by omega)]
    exact hr
theorem heldStringS_ev (ys : List ByteArray) (hl : ys.length ≤ 1048576) (c d : Int) (hc0 : 0 ≤ c) (hd : d ≤ 2305843009213693952) (h : Chain MarkStringS ys c d) : Ev (fun k => laws_heldStringS.f k ys c) d := by
  refine ev_held (fun k ys c i => laws_heldStringS.l0 k ys c (i : Int)) MarkStringS (fun x c d h => by have := h.2; omega) ?_ ?_ ys hl c d hc0 hd h
  · intro ys c
    exact st_laws_heldStringS_l0 (ev_neg (by omega) (ev_some rfl))
  · intro ys c c' i hi h20 hE h0 h1 r hr
    obtain ⟨hE, rfl⟩ := hE
    refine st_laws_heldStringS_l0 (ev_pos (by omega) (ev_pos (by omega) (Ev.bind hE (ev_pos (by rw [rdOf_get hi]) ?_))))
    rw [w64s i (by omega), w64 (n := c + 1) (by omega) (by omega)]
    exact hr
theorem order_fit (l : List S63) (hx : l.length ≤ 1048576 ∧ ∀ y ∈ l, Fit63 y) (res : List ByteArray) (h : Ev (fun k => impl_makeOrder.f k l) res) : ∀ y ∈ res, y.size ≤ 1048576 := by
  have key : ∀ k out res, (∀ y ∈ out, y.size ≤ 1048576) → impl_makeOrder.l0 k l out = some res → ∀ y ∈ res, y.size ≤ 1048576 := by
    intro k
    induction k with
    | zero => intro out res _ h; simp [impl_makeOrder.l0] at h
    | succ k ih =>
      intro out res ho h
      simp only [impl_makeOrder.l0] at h
      obtain ⟨t, _, h⟩ := Option.bind_eq_some_iff.mp h
      split at h
      · obtain rfl := Option.some.inj h; exact ho
      · split at h
        · split at h
          · rename_i h1 h2
            split at h
            · refine ih _ _ (fun y hy => ?_) h
              rcases List.mem_append.1 hy with hy | hy
              · exact ho y hy
              · obtain rfl := List.mem_singleton.1 hy
                obtain ⟨i, rfl⟩ : ∃ i : Nat, t = (i : Int) := ⟨t.toNat, by omega⟩
                have e : rd_T63 l (i : Int) = l[i]'(by omega) := getD_get (by omega)
                rw [e]
                exact (hx.2 _ (List.getElem_mem _)).1
            · cases h
          · cases h
        · cases h
  obtain ⟨K, hK⟩ := h
  exact key K [] res (fun y hy => by cases hy) (hK K (Nat.le_refl _))
theorem rd_set_self (l : List S63) (i : Nat) (v : S63) (h : i < l.length) : rd_T63 (l.set ((i : Int)).toNat v) (i : Int) = v := by
  simp [rd_T63, List.getD_eq_getElem?_getD, List.getElem?_set_self, h]
theorem markAssetS_ev (l : List S63) (hx : l.length ≤ 1048576 ∧ ∀ y ∈ l, Fit63 y) : ∃ p, Ev (fun k => laws_markAssetS.f k l 1) p ∧ 0 ≤ p.1 := by
  refine ev_for l.length (fun k i (s : List S63 × Int) => laws_markAssetS.l0 k s.1 s.2 (i : Int)) (fun i s => s.1.length = l.length ∧ (∀ j, i ≤ j → j < l.length → s.1[j]? = l[j]?) ∧ 0 ≤ s.2 ∧ s.2 ≤ 1 + 3145728 * (i : Int)) (fun p => 0 ≤ p.1) ?_ ?_ 0 (l, 1) (Nat.zero_le _) ⟨rfl, fun _ _ _ => rfl, by omega, by omega⟩
  · rintro ⟨zs, c⟩ ⟨h1, _, h3, _⟩
    exact ⟨_, st_laws_markAssetS_l0 (ev_neg (by show ¬ (l.length : Int) < (zs.length : Int); have : zs.length = l.length := h1; omega) (ev_some rfl)), h3⟩
  · rintro i ⟨zs, c⟩ hi ⟨h1, h2, h3, h4⟩
    have h1 : zs.length = l.length := h1
    have h3 : 0 ≤ c := h3
    have h4 : c ≤ 1 + 3145728 * (i : Int) := h4
    have hl := hx.1
    have hz : rd_T63 zs (i : Int) = l[i] := by
      have e : rd_T63 zs (i : Int) = zs[i] := getD_get (by omega)
      have h5 := h2 i (Nat.le_refl _) hi
      rw [List.getElem?_eq_getElem (by omega), List.getElem?_eq_getElem hi] at h5
      rw [e]; exact Option.some.inj h5
    have hf := hx.2 _ (List.getElem_mem hi)
    obtain ⟨t, ht⟩ := marktext_ev c h3 (by omega)
    obtain ⟨ys1, d1, _, g1, g2, g3, g4⟩ := markStringS_ev l[i].f1 hf.2.1.1 (c + 1) (by omega) (by omega)
    obtain ⟨ys2, d2, _, q1, q2, q3, q4⟩ := markByteS_ev l[i].f2 hf.2.2 d1 (by have := hf.2.1.1; omega) (by have := hf.2.1.1; omega)
    have f1 := hf.2.1.1
    have f2 := hf.2.2
    refine .inr ⟨(((zs.set ((i : Int)).toNat ⟨t, l[i].f1, l[i].f2⟩).set ((i : Int)).toNat ⟨t, ys1, l[i].f2⟩).set ((i : Int)).toNat ⟨t, ys1, ys2⟩, d2), ⟨by simp; exact h1, fun j hj hj2 => ?_, by show 0 ≤ d2; omega, by show d2 ≤ _; omega⟩, fun r hr => ?_⟩
    · have hj' : i ≠ j := by omega
      simp only [Int.toNat_natCast]
      rw [List.getElem?_set_ne hj', List.getElem?_set_ne hj', List.getElem?_set_ne hj']
      exact h2 j (by omega) hj2
    · refine st_laws_markAssetS_l0 (ev_pos (by omega) (Ev.bind ht (ev_pos (by omega) (ev_bindc rfl ?_))))
      rw [rd_set_self _ i _ (by omega), hz]
      have ew : wrap64 (c + 1) = c + 1 := w64 (by omega) (by omega)
      rw [ew]
      refine Ev.bind g4 (ev_bindc rfl ?_)
      rw [rd_set_self _ i _ (by simp; omega)]
      refine Ev.bind q4 ?_
      rw [w64s i (by omega)]
      exact hr
theorem order_all (l : List S63) (hx : l.length ≤ 1048576 ∧ ∀ y ∈ l, Fit63 y) : ∃ res b, Ev (fun k => spec_MakeOrder.f k l) (res, b) ∧ Ev (fun k => impl_MakeOrder.f k l) (res, b) ∧ res.length ≤ 1048576 ∧ ∀ y ∈ res, y.size ≤ 1048576 := by
  obtain ⟨res, b, r1, r2, r3, hb, g1, g2⟩ := assets_same l hx
  have hl := hx.1
  cases b with
  | true => exact ⟨res, true, Ev.bind g1 (ev_pos rfl (Ev.bind r1 (ev_some rfl))), Ev.bind g2 (ev_pos rfl (Ev.bind r2 (ev_some rfl))), by omega, order_fit l hx res r2⟩
  | false => exact ⟨[], false, Ev.bind g1 (ev_neg (by decide) (ev_some rfl)), Ev.bind g2 (ev_neg (by decide) (ev_some rfl)), by simp, fun y hy => by cases hy⟩
theorem FnExactMakeOrder : ∀ (l0 : List (S62)), (l0.length * 64 ≤ 140737488351232 ∧ ∀ y ∈ l0, Ok62 y) → ∃ k, laws_FnExactMakeOrder.f k l0 = some true := by
  intro xs gl
  refine Ev.rounds (g := fun k => laws_FnExactMakeOrder.f k xs) ?_
  obtain ⟨r, hr, h | ⟨h0, h1, hx⟩⟩ := szAssetS_some xs gl 1048576 (by omega) (by omega)
  · exact Ev.bind hr (ev_pos h (ev_some rfl))
  · have tx := toAssetS_ev xs hx
    have hx' : (xs.map cv62).length ≤ 1048576 ∧ ∀ y ∈ xs.map cv62, Fit63 y := ⟨by rw [List.length_map]; exact hx.1, fun y hy => by obtain ⟨z, hz, rfl⟩ := List.mem_map.1 hy; exact fit_cv62 (hx.2 z hz)⟩
    obtain ⟨res, b, hs, hi, hl, hf⟩ := order_all (xs.map cv62) hx'
    have ee := eqStringS_ev res ⟨hl, hf⟩
    obtain ⟨p, hm1, hp0⟩ := markAssetS_ev (xs.map cv62) hx'
    obtain ⟨y2, d2, hch, q0, q1, ml, hm2⟩ := markStringS_ev res hl 1 (by omega) (by omega)
    have hh := heldStringS_ev y2 (by omega) 1 d2 (by omega) (by omega) hch
    have eb : (b != b) = false := by simp
    refine Ev.bind hr (ev_neg (by omega) (Ev.bind tx (Ev.bind hs (Ev.bind tx (Ev.bind hi (Ev.bind ee (ev_pos rfl ?_)))))))
    simp only [eb]
    refine st_laws_FnExactMakeOrder_j0 (ev_neg (by decide) (Ev.bind tx (Ev.bind (eqAssetS_ev _ hx') (ev_pos rfl (Ev.bind hm1 (ev_neg (by omega) (Ev.bind ee (ev_pos rfl ?_))))))))
    simp only [eb]
    refine st_laws_FnExactMakeOrder_j1 (ev_neg (by decide) (Ev.bind hm2 (Ev.bind hh (ev_neg (by omega) (ev_pos rfl (Ev.bind tx (Ev.bind hi (Ev.bind ee (ev_pos rfl ?_)))))))))
    simp only [eb]
    exact st_laws_FnExactMakeOrder_j2 (ev_neg (by decide) (Ev.bind hh (ev_neg (by omega) (ev_pos rfl (ev_some rfl)))))
end Go.Proofs.Ytifejplilaefiaa.Pure
