/- Texts of a row. -/
import Derived.Test.YtggfmjfgfjphgaaZFnExactPutBits3
import Derived.Test.YtggfmjfgfjphgaaZFnExactPutBits0
import Derived.SizedLaws
import Derived.ChangeArms
import Derived.OpenShut
import Derived.WideShapes
import Derived.WalkKit
import Derived.KernelRfl
import Derived.Laws.BitsLemmas
namespace Go.Proofs.Ytggfmjfgfjphgaa.PFnExactPutBits
open Go.RowKit Go.Proofs.YtggfmjfgfjphgaaW.PrintWords Go.Proofs.YtggfmjfgfjphgaaW.PrintLast Go.Proofs.YtggfmjfgfjphgaaW.PrintMore
attribute [local go_sem] max2_int min2_int max_two min_two max_three min_three max_four min_four   -- for this text's walks alone
set_option linter.unusedVariables false
set_option linter.unusedSimpArgs false
mutual
def laws_FnExactPutBits.j0 : Nat → Int → Int → Bool → Bool → Bool → Int → List Int → Int → List Int → Int → List Int → Int → List Int → Option (Bool)
 | 0, _, _, _, _, _, _, _, _, _, _, _, _, _ => none
 | k + 1, x1, x2, x9, x12, x48, x187000, x187001, x198000, x198001, x203000, x203001, x209000, x209001 => if x48 = true then (some false) else ((laws_toBits.f k x187000 x187001).bind fun bt210 => ((laws_eqBits.f k x203000 x203001 bt210.1 bt210.2).bind fun t214 => (if t214 = true then ((laws_markBits.f k x203000 x203001 1).bind fun bt215 => (if bt215.1 < 0 then (laws_FnExactPutBits.j1 k x1 x2 x9 true x187000 x187001 x198000 x198001 x209000 x209001) else ((laws_eqBits.f k x209000 x209001 x198000 x198001).bind fun t217 => (if t217 = true then (laws_FnExactPutBits.j1 k x1 x2 x9 (x12 != x9) x187000 x187001 x198000 x198001 x209000 x209001) else (laws_FnExactPutBits.j1 k x1 x2 x9 true x187000 x187001 x198000 x198001 x209000 x209001))))) else (some false))))
def laws_FnExactPutBits.j1 : Nat → Int → Int → Bool → Bool → Int → List Int → Int → List Int → Int → List Int → Option (Bool)
 | 0, _, _, _, _, _, _, _, _, _, _ => none
 | k + 1, x1, x2, x9, x69, x187000, x187001, x198000, x198001, x209000, x209001 => if x69 = true then (some false) else ((laws_markBits.f k x209000 x209001 1).bind fun bt218 => ((laws_heldBits.f k x209000 bt218.2 1).bind fun t220 => (if t220 < 0 then (some false) else (if t220 = bt218.1 then ((laws_toBits.f k x187000 x187001).bind fun bt221 => ((impl_PutBits.f k bt221.1 bt221.2 x1 x2).bind fun bt225 => ((laws_eqBits.f k bt225.1 bt225.2.1 x198000 x198001).bind fun t231 => (if t231 = true then (laws_FnExactPutBits.j2 k bt218.1 (bt225.2.2 != x9) x209000 bt218.2) else (laws_FnExactPutBits.j2 k bt218.1 true x209000 bt218.2))))) else (some false)))))
def laws_FnExactPutBits.j2 : Nat → Int → Bool → Int → List Int → Option (Bool)
 | 0, _, _, _, _ => none
 | k + 1, x14, x97, x209000, x209001 => if x97 = true then (some false) else ((laws_heldBits.f k x209000 x209001 1).bind fun t232 => (if t232 < 0 then (some false) else (if t232 = x14 then (some true) else (some false))))
end
def laws_FnExactPutBits.f (k : Nat) (a0_0 : Int) (l0_1 : List Int) (a1 : Int) (a2 : Int) : Option (Bool) := (laws_szBits.f a0_0 l0_1 1048576).bind fun t187 => (if t187 < 0 then (some true) else ((laws_toBits.f k a0_0 l0_1).bind fun bt188 => ((spec_PutBits.f k bt188.1 bt188.2 a1 a2).bind fun bt192 => ((laws_toBits.f k a0_0 l0_1).bind fun bt198 => ((impl_PutBits.f k bt198.1 bt198.2 a1 a2).bind fun bt203 => ((laws_eqBits.f k bt203.1 bt203.2.1 bt192.1 bt192.2.1).bind fun t209 => (if t209 = true then (laws_FnExactPutBits.j0 k a1 a2 bt192.2.2 bt203.2.2 (bt203.2.2 != bt192.2.2) a0_0 l0_1 bt192.1 bt192.2.1 bt198.1 bt198.2 bt203.1 bt203.2.1) else (laws_FnExactPutBits.j0 k a1 a2 bt192.2.2 bt203.2.2 true a0_0 l0_1 bt192.1 bt192.2.1 bt198.1 bt198.2 bt203.1 bt203.2.1))))))))
theorem laws_FnExactPutBits.mono_l : ∀ k, (∀ y0 y1 y2 y3 y4 y5 y6 y7 y8 y9 y10 y11 y12, LeO (laws_FnExactPutBits.j0 k y0 y1 y2 y3 y4 y5 y6 y7 y8 y9 y10 y11 y12) (laws_FnExactPutBits.j0 (k + 1) y0 y1 y2 y3 y4 y5 y6 y7 y8 y9 y10 y11 y12)) ∧ (∀ y0 y1 y2 y3 y4 y5 y6 y7 y8 y9, LeO (laws_FnExactPutBits.j1 k y0 y1 y2 y3 y4 y5 y6 y7 y8 y9) (laws_FnExactPutBits.j1 (k + 1) y0 y1 y2 y3 y4 y5 y6 y7 y8 y9)) ∧ (∀ y0 y1 y2 y3, LeO (laws_FnExactPutBits.j2 k y0 y1 y2 y3) (laws_FnExactPutBits.j2 (k + 1) y0 y1 y2 y3))
 | 0 => ⟨fun _ _ _ _ _ _ _ _ _ _ _ _ _ r h => by simp [laws_FnExactPutBits.j0] at h, fun _ _ _ _ _ _ _ _ _ _ r h => by simp [laws_FnExactPutBits.j1] at h, fun _ _ _ _ r h => by simp [laws_FnExactPutBits.j2] at h⟩
 | k + 1 => by
  obtain ⟨ih0, ih1, ih2⟩ := laws_FnExactPutBits.mono_l k
  refine ⟨?_, ?_, ?_⟩
  ·intro y0 y1 y2 y3 y4 y5 y6 y7 y8 y9 y10 y11 y12
   unfold laws_FnExactPutBits.j0
   repeat' first
   | (with_reducible exact ih0 _ _ _ _ _ _ _ _ _ _ _ _ _)
   | (with_reducible exact ih1 _ _ _ _ _ _ _ _ _ _)
   | (with_reducible exact ih2 _ _ _ _)
   | (with_reducible exact impl_PutBits.mono _ _ _ _ _)
   | (with_reducible exact laws_eqBits.mono _ _ _ _ _)
   | (with_reducible exact laws_heldBits.mono _ _ _ _)
   | (with_reducible exact laws_markBits.mono _ _ _ _)
   | (with_reducible exact laws_toBits.mono _ _ _)
   | (with_reducible exact spec_PutBits.mono _ _ _ _ _)
   | (with_reducible first | exact LeO.refl _ | exact LeO.none _ | refine LeO.ite ?_ ?_ | refine LeO.bind ?_ (fun _ => ?_))
   | exact ih0 _ _ _ _ _ _ _ _ _ _ _ _ _
   | exact ih1 _ _ _ _ _ _ _ _ _ _
   | exact ih2 _ _ _ _
   | exact impl_PutBits.mono _ _ _ _ _
   | exact laws_eqBits.mono _ _ _ _ _
   | exact laws_heldBits.mono _ _ _ _
   | exact laws_markBits.mono _ _ _ _
   | exact laws_toBits.mono _ _ _
   | exact spec_PutBits.mono _ _ _ _ _ | exact LeO.none _ | refine LeO.ite ?_ ?_ | refine LeO.bind ?_ (fun _ => ?_)
  ·intro y0 y1 y2 y3 y4 y5 y6 y7 y8 y9
   unfold laws_FnExactPutBits.j1
   repeat' first
   | (with_reducible exact ih0 _ _ _ _ _ _ _ _ _ _ _ _ _)
   | (with_reducible exact ih1 _ _ _ _ _ _ _ _ _ _)
   | (with_reducible exact ih2 _ _ _ _)
   | (with_reducible exact impl_PutBits.mono _ _ _ _ _)
   | (with_reducible exact laws_eqBits.mono _ _ _ _ _)
   | (with_reducible exact laws_heldBits.mono _ _ _ _)
   | (with_reducible exact laws_markBits.mono _ _ _ _)
   | (with_reducible exact laws_toBits.mono _ _ _)
   | (with_reducible exact spec_PutBits.mono _ _ _ _ _)
   | (with_reducible first | exact LeO.refl _ | exact LeO.none _ | refine LeO.ite ?_ ?_ | refine LeO.bind ?_ (fun _ => ?_))
   | exact ih0 _ _ _ _ _ _ _ _ _ _ _ _ _
   | exact ih1 _ _ _ _ _ _ _ _ _ _
   | exact ih2 _ _ _ _
   | exact impl_PutBits.mono _ _ _ _ _
   | exact laws_eqBits.mono _ _ _ _ _
   | exact laws_heldBits.mono _ _ _ _
   | exact laws_markBits.mono _ _ _ _
   | exact laws_toBits.mono _ _ _
   | exact spec_PutBits.mono _ _ _ _ _ | exact LeO.none _ | refine LeO.ite ?_ ?_ | refine LeO.bind ?_ (fun _ => ?_)
  ·intro y0 y1 y2 y3
   unfold laws_FnExactPutBits.j2
   repeat' first
   | (with_reducible exact ih0 _ _ _ _ _ _ _ _ _ _ _ _ _)
   | (with_reducible exact ih1 _ _ _ _ _ _ _ _ _ _)
   | (with_reducible exact ih2 _ _ _ _)
   | (with_reducible exact impl_PutBits.mono _ _ _ _ _)
   | (with_reducible exact laws_eqBits.mono _ _ _ _ _)
   | (with_reducible exact laws_heldBits.mono _ _ _ _)
   | (with_reducible exact laws_markBits.mono _ _ _ _)
   | (with_reducible exact laws_toBits.mono _ _ _)
   | (with_reducible exact spec_PutBits.mono _ _ _ _ _)
   | (with_reducible first | exact LeO.refl _ | exact LeO.none _ | refine LeO.ite ?_ ?_ | refine LeO.bind ?_ (fun _ => ?_))
   | exact ih0 _ _ _ _ _ _ _ _ _ _ _ _ _
   | exact ih1 _ _ _ _ _ _ _ _ _ _
   | exact ih2 _ _ _ _
   | exact impl_PutBits.mono _ _ _ _ _
   | exact laws_eqBits.mono _ _ _ _ _
   | exact laws_heldBits.mono _ _ _ _
   | exact laws_markBits.mono _ _ _ _
   | exact laws_toBits.mono _ _ _
   | exact spec_PutBits.mono _ _ _ _ _ | exact LeO.none _ | refine LeO.ite ?_ ?_ | refine LeO.bind ?_ (fun _ => ?_)
theorem laws_FnExactPutBits.mono : ∀ a0 a1 a2 a3 k, LeO (laws_FnExactPutBits.f k a0 a1 a2 a3) (laws_FnExactPutBits.f (k + 1) a0 a1 a2 a3) := by
 intro a0 a1 a2 a3 k
 obtain ⟨ih0, ih1, ih2⟩ := laws_FnExactPutBits.mono_l k
 unfold laws_FnExactPutBits.f
 repeat' first
   | (with_reducible exact ih0 _ _ _ _ _ _ _ _ _ _ _ _ _)
   | (with_reducible exact ih1 _ _ _ _ _ _ _ _ _ _)
   | (with_reducible exact ih2 _ _ _ _)
   | (with_reducible exact impl_PutBits.mono _ _ _ _ _)
   | (with_reducible exact laws_eqBits.mono _ _ _ _ _)
   | (with_reducible exact laws_heldBits.mono _ _ _ _)
   | (with_reducible exact laws_markBits.mono _ _ _ _)
   | (with_reducible exact laws_toBits.mono _ _ _)
   | (with_reducible exact spec_PutBits.mono _ _ _ _ _)
   | (with_reducible first | exact LeO.refl _ | exact LeO.none _ | refine LeO.ite ?_ ?_ | refine LeO.bind ?_ (fun _ => ?_))
   | exact ih0 _ _ _ _ _ _ _ _ _ _ _ _ _
   | exact ih1 _ _ _ _ _ _ _ _ _ _
   | exact ih2 _ _ _ _
   | exact impl_PutBits.mono _ _ _ _ _
   | exact laws_eqBits.mono _ _ _ _ _
   | exact laws_heldBits.mono _ _ _ _
   | exact laws_markBits.mono _ _ _ _
   | exact laws_toBits.mono _ _ _
   | exact spec_PutBits.mono _ _ _ _ _ | exact LeO.none _ | refine LeO.ite ?_ ?_ | refine LeO.bind ?_ (fun _ => ?_)
set_option maxHeartbeats 8000000 in
set_option maxRecDepth 100000 in
theorem laws_FnExactPutBits.calls (k : Nat) (a0_0 : Int) (A0_1 : Option Addr) (c0_1 : Nat) (l0_1 : List Int) (a1 : Int) (a2 : Int) (r : Bool) (w : World) (hr0_1 : Kd.C (Kd.int .u8) w A0_1 l0_1.length l0_1) (hc0_1 : l0_1.length ≤ c0_1) (h : laws_FnExactPutBits.f k a0_0 l0_1 a1 a2 = some r) :
  Calls Try.prog 3 #[.agg #[.int .i64 a0_0, .slice A0_1 l0_1.length c0_1], .int .i64 a1, .int .i64 a2] w fun e w' => e = .returned (.bool r) ∧ Below w.heap.size w w' := by
 have hu24 := Try.underlying24
 have hu26 := Try.underlying26
 have HR0_1 := Aside0.mk hr0_1
 have HC0_1 := Aside0.mk hc0_1
 clear hr0_1 hc0_1
 have HB := Aside0.mk (Below.refl w.heap.size w)
 have H : ((laws_szBits.f a0_0 l0_1 1048576).bind fun t187 => (if t187 < 0 then (some true) else ((laws_toBits.f k a0_0 l0_1).bind fun bt188 => ((spec_PutBits.f k bt188.1 bt188.2 a1 a2).bind fun bt192 => ((laws_toBits.f k a0_0 l0_1).bind fun bt198 => ((impl_PutBits.f k bt198.1 bt198.2 a1 a2).bind fun bt203 => ((laws_eqBits.f k bt203.1 bt203.2.1 bt192.1 bt192.2.1).bind fun t209 => (if t209 = true then (laws_FnExactPutBits.j0 k a1 a2 bt192.2.2 bt203.2.2 (bt203.2.2 != bt192.2.2) a0_0 l0_1 bt192.1 bt192.2.1 bt198.1 bt198.2 bt203.1 bt203.2.1) else (laws_FnExactPutBits.j0 k a1 a2 bt192.2.2 bt203.2.2 true a0_0 l0_1 bt192.1 bt192.2.1 bt198.1 bt198.2 bt203.1 bt203.2.1))))))))) = some r := h
 clear h
 replace H := Option.bind_eq_some_iff.mp H
 obtain ⟨t187, A40, H⟩ := H
 replace H : (if t187 < 0 then (some true) else ((laws_toBits.f k a0_0 l0_1).bind fun bt188 => ((spec_PutBits.f k bt188.1 bt188.2 a1 a2).bind fun bt192 => ((laws_toBits.f k a0_0 l0_1).bind fun bt198 => ((impl_PutBits.f k bt198.1 bt198.2 a1 a2).bind fun bt203 => ((laws_eqBits.f k bt203.1 bt203.2.1 bt192.1 bt192.2.1).bind fun t209 => (if t209 = true then (laws_FnExactPutBits.j0 k a1 a2 bt192.2.2 bt203.2.2 (bt203.2.2 != bt192.2.2) a0_0 l0_1 bt192.1 bt192.2.1 bt198.1 bt198.2 bt203.1 bt203.2.1) else (laws_FnExactPutBits.j0 k a1 a2 bt192.2.2 bt203.2.2 true a0_0 l0_1 bt192.1 bt192.2.1 bt198.1 bt198.2 bt203.1 bt203.2.1)))))))) = some r := H
 have A4 := Aside0.mk A40
 clear A40
 by_cases c5 : t187 < 0
 ·rw [if_pos c5] at H
  have c5b0 : decide (t187 < 0) = true := decide_eq_true c5
  clear c5
  obtain rfl := Option.some.inj H
  go_enter Try.func3, Try.ntmps3
  go_wp2_with (first | ((with_reducible refine gate_dst (N := 3) rfl ?_); refine box_event rfl (N := 3) rfl (cs := #[.int .i64 a0_0, .slice A0_1 l0_1.length c0_1]) (t := 24) sE ?_; intro gb186 hg w6 hbox hb; have BK186 := Aside0.mk hbox; have GW186 := gS w hg (lU); have GE186 := gS w hg (lU); replace HB := bH (lU) hb; clear hb hbox hg; have hcz7_0 := cz BK186 0 (.int .i64 a0_0); have hcz7_1 := cz BK186 1 (.slice A0_1 l0_1.length c0_1); have hfz7_0 := fz BK186 0; have hfz7_1 := fz BK186 1) | ((with_reducible refine gate_callee (f := 4) rfl ?_); refine goesL_ (some 20) rfl rfl Try.func4 (by kernel_rfl) rfl #[.agg #[.int .i64 a0_0, .slice A0_1 l0_1.length c0_1], .int .i64 1048576] rfl aE ?_; (with_reducible refine (laws_szBits.calls a0_0 _ _ l0_1 1048576 t187 _ ?side1 ?side2 A4.out).mono ?_); (case side1 => exact cU (Kd.C_below HR0_1.out HB.out)); (case side2 => exact HC0_1.out); rintro e w8 ⟨rfl, hb⟩; refine ⟨_, rfl, ?_⟩; replace BK186 := bB (bV BK186) hb; replace HB := bH (lV1 GE186) hb; (try clear hb)))
  go_ret
  exact ⟨eE, lV1 GE186⟩
 ·rw [if_neg c5] at H
  have c5b0 : decide (t187 < 0) = false := decide_eq_false c5
  clear c5
  replace H := Option.bind_eq_some_iff.mp H
  obtain ⟨⟨t188, t189⟩, A90, H⟩ := H
  replace H : ((spec_PutBits.f k t188 t189 a1 a2).bind fun bt192 => ((laws_toBits.f k a0_0 l0_1).bind fun bt198 => ((impl_PutBits.f k bt198.1 bt198.2 a1 a2).bind fun bt203 => ((laws_eqBits.f k bt203.1 bt203.2.1 bt192.1 bt192.2.1).bind fun t209 => (if t209 = true then (laws_FnExactPutBits.j0 k a1 a2 bt192.2.2 bt203.2.2 (bt203.2.2 != bt192.2.2) a0_0 l0_1 bt192.1 bt192.2.1 bt198.1 bt198.2 bt203.1 bt203.2.1) else (laws_FnExactPutBits.j0 k a1 a2 bt192.2.2 bt203.2.2 true a0_0 l0_1 bt192.1 bt192.2.1 bt198.1 bt198.2 bt203.1 bt203.2.1)))))) = some r := H
  have A9 := Aside0.mk A90
  clear A90
  replace H := Option.bind_eq_some_iff.mp H
  obtain ⟨⟨t192, t193, t196⟩, A100, H⟩ := H
  replace H : ((laws_toBits.f k a0_0 l0_1).bind fun bt198 => ((impl_PutBits.f k bt198.1 bt198.2 a1 a2).bind fun bt203 => ((laws_eqBits.f k bt203.1 bt203.2.1 t192 t193).bind fun t209 => (if t209 = true then (laws_FnExactPutBits.j0 k a1 a2 t196 bt203.2.2 (bt203.2.2 != t196) a0_0 l0_1 t192 t193 bt198.1 bt198.2 bt203.1 bt203.2.1) else (laws_FnExactPutBits.j0 k a1 a2 t196 bt203.2.2 true a0_0 l0_1 t192 t193 bt198.1 bt198.2 bt203.1 bt203.2.1))))) = some r := H
  have A10 := Aside0.mk A100
  clear A100
  replace H := Option.bind_eq_some_iff.mp H
  obtain ⟨⟨t198, t199⟩, A110, H⟩ := H
  replace H : ((impl_PutBits.f k t198 t199 a1 a2).bind fun bt203 => ((laws_eqBits.f k bt203.1 bt203.2.1 t192 t193).bind fun t209 => (if t209 = true then (laws_FnExactPutBits.j0 k a1 a2 t196 bt203.2.2 (bt203.2.2 != t196) a0_0 l0_1 t192 t193 t198 t199 bt203.1 bt203.2.1) else (laws_FnExactPutBits.j0 k a1 a2 t196 bt203.2.2 true a0_0 l0_1 t192 t193 t198 t199 bt203.1 bt203.2.1)))) = some r := H
  have A11 := Aside0.mk A110
  clear A110
  replace H := Option.bind_eq_some_iff.mp H
  obtain ⟨⟨t203, t204, t207⟩, A120, H⟩ := H
  replace H : ((laws_eqBits.f k t203 t204 t192 t193).bind fun t209 => (if t209 = true then (laws_FnExactPutBits.j0 k a1 a2 t196 t207 (t207 != t196) a0_0 l0_1 t192 t193 t198 t199 t203 t204) else (laws_FnExactPutBits.j0 k a1 a2 t196 t207 true a0_0 l0_1 t192 t193 t198 t199 t203 t204))) = some r := H
  have A12 := Aside0.mk A120
  clear A120
  have HC13 := Aside0.mk H
  clear H
  go_enter Try.func3, Try.ntmps3
  go_upto_region 8 with (first | ((with_reducible refine gate_dst (N := 3) rfl ?_); refine box_event rfl (N := 3) rfl (cs := #[.int .i64 a0_0, .slice A0_1 l0_1.length c0_1]) (t := 24) sE ?_; intro gb186 hg w14 hbox hb; have BK186 := Aside0.mk hbox; have GW186 := gS w hg (lU); have GE186 := gS w hg (lU); replace HB := bH (lU) hb; clear hb hbox hg; have hcz15_0 := cz BK186 0 (.int .i64 a0_0); have hcz15_1 := cz BK186 1 (.slice A0_1 l0_1.length c0_1); have hfz15_0 := fz BK186 0; have hfz15_1 := fz BK186 1) | ((with_reducible refine gate_callee (f := 4) rfl ?_); refine goesL_ (some 20) rfl rfl Try.func4 (by kernel_rfl) rfl #[.agg #[.int .i64 a0_0, .slice A0_1 l0_1.length c0_1], .int .i64 1048576] rfl aE ?_; (with_reducible refine (laws_szBits.calls a0_0 _ _ l0_1 1048576 t187 _ ?side1 ?side2 A4.out).mono ?_); (case side1 => exact cU (Kd.C_below HR0_1.out HB.out)); (case side2 => exact HC0_1.out); rintro e w16 ⟨rfl, hb⟩; refine ⟨_, rfl, ?_⟩; replace BK186 := bB (bV BK186) hb; replace HB := bH (lV1 GE186) hb; (try clear hb); have hcz17_0 := cz BK186 0 (.int .i64 a0_0); have hcz17_1 := cz BK186 1 (.slice A0_1 l0_1.length c0_1); have hfz17_0 := fz BK186 0; have hfz17_1 := fz BK186 1) | ((with_reducible refine gate_callee (f := 6) rfl ?_); refine goesL_ (some 25) rfl rfl Try.func6 (by kernel_rfl) rfl #[.agg #[.int .i64 a0_0, .slice A0_1 l0_1.length c0_1]] rfl aE ?_; (with_reducible refine (laws_toBits.calls k a0_0 _ _ l0_1 t188 t189 _ ?side1 ?side2 A9.out).mono ?_); (case side1 => exact cU (Kd.C_below HR0_1.out HB.out)); (case side2 => exact HC0_1.out); rintro e w18 ⟨v190, rfl, ho0, hb⟩; refine ⟨_, rfl, ?_⟩; have HO191 := Aside0.mk (Kd.R_lower ho0 (below_size (lV1 GE186))); replace BK186 := bB (bV BK186) hb; replace HB := bH (lV1 GE186) hb; (try clear hb); (try clear ho0); obtain ⟨Ao19, co19, eo19⟩ := Kd.R_slice HO191.out; subst eo19) | ((with_reducible refine gate_callee (f := 5) rfl ?_); refine goesL_ (some 28) rfl rfl Try.func5 (by kernel_rfl) rfl #[.agg #[.int .i64 t188, .slice Ao19 t189.length co19], .int .i64 a1, .int .i64 a2] rfl aE ?_; (with_reducible refine (spec_PutBits.calls k t188 _ _ t189 a1 a2 t192 t193 t196 _ ?side1 ?side2 A10.out).mono ?_); (case side1 => exact cU (Kd.R_reads' HO191.out).2.2); (case side2 => exact (Kd.R_reads' HO191.out).2.1); rintro e w20 ⟨v194, rfl, ho0, hb⟩; refine ⟨_, rfl, ?_⟩; have HO195 := Aside0.mk (Kd.R_lower (Kd.R_new' ho0 (Kd.R_lt (rU HO191.out))) (below_size (lV1 GE186))); replace HO191 := Aside0.mk (Kd.R_elder' (rU HO191.out) (Kd.R_base ho0) hb); replace BK186 := bB (bV BK186) hb; replace HB := bH (lV1 GE186) hb; (try clear hb); (try clear ho0)) | ((with_reducible refine gate_dst (N := 8) rfl ?_); refine box_event rfl (N := 8) rfl (cs := #[.int .i64 0, .slice none 0 0]) (t := 26) sE ?_; intro gb197 hg w21 hbox hb; replace HO191 := Aside0.mk (Kd.R_below (rU HO191.out) hb); replace HO195 := Aside0.mk (Kd.R_below (rU HO195.out) hb); have BK197 := Aside0.mk hbox; have GW197 := gS w hg (lV1 GE186); have GE197 := gS w hg (lV1 GE186); replace HB := bH (lV1 GE186) hb; have NB186_197 := nL hg (bV BK186); have NB197_186 := nG hg (bV BK186); replace BK186 := bB (bV BK186) hb; clear hb hbox hg; have hnb22 := NB197_186.out; have hnc22 := NB186_197.out; have hcz23_0 := cz BK197 0 (.int .i64 0); have hcz23_1 := cz BK197 1 (.slice none 0 0); have hfz23_0 := fz BK197 0; have hfz23_1 := fz BK197 1; obtain ⟨Ao24, co24, eo24⟩ := Kd.R_slice HO195.out; subst eo24) | ((with_reducible refine gate_store (t := 26) (p := 8) rfl ?_); refine store_event (t := 26) (p := 8) (v := ?vo_w25) (w1 := ((w21.setCell ⟨gb197, 0, none⟩ (.int .i64 t192)).setCell ⟨gb197, 1, none⟩ (.slice Ao24 t193.length co24))) ?hg ?ho ?hn ?hr ?_; (case ho => rfl); (case hg => rfl); (case hn => rfl); (case hr => first | (go_simp; done) | (go_simp; rfl) | (have hq0_ := (blk_cell BK197.out 0).trans (show _ = some _ from rfl); have hf0_ := blk_frozen BK197.out 0; have hq1_ := (blk_cell BK197.out 1).trans (show _ = some _ from rfl); have hf1_ := blk_frozen BK197.out 1; first | (go_simp; done) | (go_simp; rfl))); intro w25 hw; replace HO191 : Aside0 (Kd.R (Kd.int .u8) 5 w25 w.heap.size (fun k_ => some k_ ≠ (.slice Ao24 t193.length co24 : Value).ownBlock) (.slice Ao19 t189.length co19) t189) := ⟨(by rw [hw]; exact (by (with_reducible repeat (first | apply Kd.R_alloc | apply Kd.R_drewN | apply Kd.R_drew)); exact Kd.R_mono (Kd.R_far (p := ⟨gb197, 1, none⟩) (Kd.R_far (p := ⟨gb197, 0, none⟩) (Kd.R_types HO191.out BK197.out (by decide)) (fun _ hk => hk.2) (.int .i64 t192)) (fun _ hk => hk.2) (.slice Ao24 t193.length co24)) (fun _ hk => hk.1.2)))⟩; replace HO195 : Aside0 (Kd.R (Kd.int .u8) 5 w25 w.heap.size (fun k_ => some k_ ≠ (.slice Ao19 t189.length co19 : Value).ownBlock) (.slice Ao24 t193.length co24) t193) := ⟨(by rw [hw]; exact (by (with_reducible repeat (first | apply Kd.R_alloc | apply Kd.R_drewN | apply Kd.R_drew)); exact Kd.R_mono (Kd.R_far (p := ⟨gb197, 1, none⟩) (Kd.R_far (p := ⟨gb197, 0, none⟩) (Kd.R_types HO195.out BK197.out (by decide)) (fun _ hk => hk.2) (.int .i64 t192)) (fun _ hk => hk.2) (.slice Ao24 t193.length co24)) (fun _ hk => hk.1.2)))⟩; replace BK186 : Aside0 (w25.heap[gb186]? = some (.cells #[.int .i64 a0_0, .slice A0_1 l0_1.length c0_1] 24 (0, 0))) := ⟨(by rw [hw]; exact (bG NB186_197 BK186))⟩; replace BK197 : Aside0 (w25.heap[gb197]? = some (.cells #[.int .i64 t192, .slice Ao24 t193.length co24] 26 (0, 0))) := ⟨(by rw [hw]; exact (by refine bU ?_; refine blk_put (cs := #[.int .i64 t192, .slice none 0 0]) ?_ 1 _ rfl; refine bU ?_; refine blk_put (cs := #[.int .i64 0, .slice none 0 0]) ?_ 0 _ rfl; refine bU ?_; exact BK197.out))⟩; replace HB : Aside0 (Below w.heap.size w w25) := ⟨(by rw [hw]; exact (lV2 GE186 GE197))⟩; clear hw; have hcz26_0 := cz BK186 0 (.int .i64 a0_0); have hcz26_1 := cz BK186 1 (.slice A0_1 l0_1.length c0_1); have hfz26_0 := fz BK186 0; have hfz26_1 := fz BK186 1) | ((with_reducible refine gate_callee (f := 6) rfl ?_); refine goesL_ (some 32) rfl rfl Try.func6 (by kernel_rfl) rfl #[.agg #[.int .i64 a0_0, .slice A0_1 l0_1.length c0_1]] rfl aE ?_; (with_reducible refine (laws_toBits.calls k a0_0 _ _ l0_1 t198 t199 _ ?side1 ?side2 A11.out).mono ?_); (case side1 => exact cU (Kd.C_below HR0_1.out HB.out)); (case side2 => exact HC0_1.out); rintro e w27 ⟨v200, rfl, ho0, hb⟩; refine ⟨_, rfl, ?_⟩; have HO201 := Aside0.mk (Kd.R_lower (Kd.R_new' (Kd.R_new' ho0 (Kd.R_lt (rU HO191.out))) (Kd.R_lt (rU HO195.out))) (below_size (lV2 GE186 GE197))); replace HO191 := Aside0.mk (Kd.R_elder' (rU HO191.out) (Kd.R_base ho0) hb); replace HO195 := Aside0.mk (Kd.R_elder' (rU HO195.out) (Kd.R_base ho0) hb); replace BK186 := bB (bV BK186) hb; replace BK197 := bB (bV BK197) hb; replace HB := bH (lV2 GE186 GE197) hb; (try clear hb); (try clear ho0)) | ((with_reducible refine gate_dst (N := 10) rfl ?_); refine box_event rfl (N := 10) rfl (cs := #[.int .i64 0, .slice none 0 0]) (t := 26) sE ?_; intro gb202 hg w28 hbox hb; replace HO191 := Aside0.mk (Kd.R_below (rU HO191.out) hb); replace HO195 := Aside0.mk (Kd.R_below (rU HO195.out) hb); replace HO201 := Aside0.mk (Kd.R_below (rU HO201.out) hb); have BK202 := Aside0.mk hbox; have GW202 := gS w hg (lV2 GE186 GE197); have GE202 := gS w hg (lV2 GE186 GE197); replace HB := bH (lV2 GE186 GE197) hb; have NB186_202 := nL hg (bV BK186); have NB202_186 := nG hg (bV BK186); replace BK186 := bB (bV BK186) hb; have NB197_202 := nL hg (bV BK197); have NB202_197 := nG hg (bV BK197); replace BK197 := bB (bV BK197) hb; clear hb hbox hg; have hnb29 := NB202_186.out; have hnc29 := NB186_202.out; have hnb30 := NB202_197.out; have hnc30 := NB197_202.out; have hcz31_0 := cz BK202 0 (.int .i64 0); have hcz31_1 := cz BK202 1 (.slice none 0 0); have hfz31_0 := fz BK202 0; have hfz31_1 := fz BK202 1; obtain ⟨Ao32, co32, eo32⟩ := Kd.R_slice HO201.out; subst eo32) | ((with_reducible refine gate_store (t := 26) (p := 10) rfl ?_); refine store_event (t := 26) (p := 10) (v := ?vo_w33) (w1 := ((w28.setCell ⟨gb202, 0, none⟩ (.int .i64 t198)).setCell ⟨gb202, 1, none⟩ (.slice Ao32 t199.length co32))) ?hg ?ho ?hn ?hr ?_; (case ho => rfl); (case hg => rfl); (case hn => rfl); (case hr => first | (go_simp; done) | (go_simp; rfl) | (have hq0_ := (blk_cell BK202.out 0).trans (show _ = some _ from rfl); have hf0_ := blk_frozen BK202.out 0; have hq1_ := (blk_cell BK202.out 1).trans (show _ = some _ from rfl); have hf1_ := blk_frozen BK202.out 1; first | (go_simp; done) | (go_simp; rfl))); intro w33 hw; replace HO191 : Aside0 (Kd.R (Kd.int .u8) 5 w33 w.heap.size (fun k_ => some k_ ≠ (.slice Ao24 t193.length co24 : Value).ownBlock ∧ some k_ ≠ (.slice Ao32 t199.length co32 : Value).ownBlock) (.slice Ao19 t189.length co19) t189) := ⟨(by rw [hw]; exact (by (with_reducible repeat (first | apply Kd.R_alloc | apply Kd.R_drewN | apply Kd.R_drew)); exact Kd.R_mono (Kd.R_far (p := ⟨gb202, 1, none⟩) (Kd.R_far (p := ⟨gb202, 0, none⟩) (Kd.R_types HO191.out BK202.out (by decide)) (fun _ hk => hk.2) (.int .i64 t198)) (fun _ hk => hk.2) (.slice Ao32 t199.length co32)) (fun _ hk => ⟨hk.1.1, hk.1.2⟩)))⟩; replace HO195 : Aside0 (Kd.R (Kd.int .u8) 5 w33 w.heap.size (fun k_ => some k_ ≠ (.slice Ao19 t189.length co19 : Value).ownBlock ∧ some k_ ≠ (.slice Ao32 t199.length co32 : Value).ownBlock) (.slice Ao24 t193.length co24) t193) := ⟨(by rw [hw]; exact (by (with_reducible repeat (first | apply Kd.R_alloc | apply Kd.R_drewN | apply Kd.R_drew)); exact Kd.R_mono (Kd.R_far (p := ⟨gb202, 1, none⟩) (Kd.R_far (p := ⟨gb202, 0, none⟩) (Kd.R_types HO195.out BK202.out (by decide)) (fun _ hk => hk.2) (.int .i64 t198)) (fun _ hk => hk.2) (.slice Ao32 t199.length co32)) (fun _ hk => ⟨hk.1.1, hk.1.2⟩)))⟩; replace HO201 : Aside0 (Kd.R (Kd.int .u8) 5 w33 w.heap.size (fun k_ => some k_ ≠ (.slice Ao19 t189.length co19 : Value).ownBlock ∧ some k_ ≠ (.slice Ao24 t193.length co24 : Value).ownBlock) (.slice Ao32 t199.length co32) t199) := ⟨(by rw [hw]; exact (by (with_reducible repeat (first | apply Kd.R_alloc | apply Kd.R_drewN | apply Kd.R_drew)); exact Kd.R_mono (Kd.R_far (p := ⟨gb202, 1, none⟩) (Kd.R_far (p := ⟨gb202, 0, none⟩) (Kd.R_types HO201.out BK202.out (by decide)) (fun _ hk => hk.2) (.int .i64 t198)) (fun _ hk => hk.2) (.slice Ao32 t199.length co32)) (fun _ hk => ⟨hk.1.1.2, hk.1.2⟩)))⟩; replace BK186 : Aside0 (w33.heap[gb186]? = some (.cells #[.int .i64 a0_0, .slice A0_1 l0_1.length c0_1] 24 (0, 0))) := ⟨(by rw [hw]; exact (bG NB186_202 BK186))⟩; replace BK197 : Aside0 (w33.heap[gb197]? = some (.cells #[.int .i64 t192, .slice Ao24 t193.length co24] 26 (0, 0))) := ⟨(by rw [hw]; exact (bG NB197_202 BK197))⟩; replace BK202 : Aside0 (w33.heap[gb202]? = some (.cells #[.int .i64 t198, .slice Ao32 t199.length co32] 26 (0, 0))) := ⟨(by rw [hw]; exact (by refine bU ?_; refine blk_put (cs := #[.int .i64 t198, .slice none 0 0]) ?_ 1 _ rfl; refine bU ?_; refine blk_put (cs := #[.int .i64 0, .slice none 0 0]) ?_ 0 _ rfl; refine bU ?_; exact BK202.out))⟩; replace HB : Aside0 (Below w.heap.size w w33) := ⟨(by rw [hw]; exact (lV3 GE186 GE197 GE202))⟩; clear hw; have hcz34_0 := cz BK202 0 (.int .i64 t198); have hcz34_1 := cz BK202 1 (.slice Ao32 t199.length co32); have hfz34_0 := fz BK202 0; have hfz34_1 := fz BK202 1) | ((with_reducible refine gate_callee (f := 7) rfl ?_); refine goesL_ (some 37) rfl rfl Try.func7 (by kernel_rfl) rfl #[.agg #[.int .i64 t198, .slice Ao32 t199.length co32], .int .i64 a1, .int .i64 a2] rfl aE ?_; (with_reducible refine (impl_PutBits.calls k t198 _ _ t199 a1 a2 t203 t204 t207 _ ?side1 ?side2 A12.out).mono ?_); (case side1 => exact cU (Kd.R_reads' HO201.out).2.2); (case side2 => exact (Kd.R_reads' HO201.out).2.1); rintro e w35 ⟨v205, rfl, ho0, hb⟩; refine ⟨_, rfl, ?_⟩; have HO206 := Aside0.mk (Kd.R_lower (Kd.R_new' (Kd.R_new' (Kd.R_new' ho0 (Kd.R_lt (rU HO191.out))) (Kd.R_lt (rU HO195.out))) (Kd.R_lt (rU HO201.out))) (below_size (lV3 GE186 GE197 GE202))); replace HO191 := Aside0.mk (Kd.R_elder' (rU HO191.out) (Kd.R_base ho0) hb); replace HO195 := Aside0.mk (Kd.R_elder' (rU HO195.out) (Kd.R_base ho0) hb); replace HO201 := Aside0.mk (Kd.R_elder' (rU HO201.out) (Kd.R_base ho0) hb); replace BK186 := bB (bV BK186) hb; replace BK197 := bB (bV BK197) hb; replace BK202 := bB (bV BK202) hb; replace HB := bH (lV3 GE186 GE197 GE202) hb; (try clear hb); (try clear ho0)) | ((with_reducible refine gate_dst (N := 11) rfl ?_); refine box_event rfl (N := 11) rfl (cs := #[.int .i64 0, .slice none 0 0]) (t := 26) sE ?_; intro gb208 hg w36 hbox hb; replace HO191 := Aside0.mk (Kd.R_below (rU HO191.out) hb); replace HO195 := Aside0.mk (Kd.R_below (rU HO195.out) hb); replace HO201 := Aside0.mk (Kd.R_below (rU HO201.out) hb); replace HO206 := Aside0.mk (Kd.R_below (rU HO206.out) hb); have BK208 := Aside0.mk hbox; have GW208 := gS w hg (lV3 GE186 GE197 GE202); have GE208 := gS w hg (lV3 GE186 GE197 GE202); replace HB := bH (lV3 GE186 GE197 GE202) hb; have NB186_208 := nL hg (bV BK186); have NB208_186 := nG hg (bV BK186); replace BK186 := bB (bV BK186) hb; have NB197_208 := nL hg (bV BK197); have NB208_197 := nG hg (bV BK197); replace BK197 := bB (bV BK197) hb; have NB202_208 := nL hg (bV BK202); have NB208_202 := nG hg (bV BK202); replace BK202 := bB (bV BK202) hb; clear hb hbox hg; have hnb37 := NB208_186.out; have hnc37 := NB186_208.out; have hnb38 := NB208_197.out; have hnc38 := NB197_208.out; have hnb39 := NB208_202.out; have hnc39 := NB202_208.out; have hcz40_0 := cz BK208 0 (.int .i64 0); have hcz40_1 := cz BK208 1 (.slice none 0 0); have hfz40_0 := fz BK208 0; have hfz40_1 := fz BK208 1; obtain ⟨Ao41, co41, eo41⟩ := Kd.R_slice HO206.out; subst eo41) | ((with_reducible refine gate_store (t := 26) (p := 11) rfl ?_); refine store_event (t := 26) (p := 11) (v := ?vo_w42) (w1 := ((w36.setCell ⟨gb208, 0, none⟩ (.int .i64 t203)).setCell ⟨gb208, 1, none⟩ (.slice Ao41 t204.length co41))) ?hg ?ho ?hn ?hr ?_; (case ho => rfl); (case hg => rfl); (case hn => rfl); (case hr => first | (go_simp; done) | (go_simp; rfl) | (have hq0_ := (blk_cell BK208.out 0).trans (show _ = some _ from rfl); have hf0_ := blk_frozen BK208.out 0; have hq1_ := (blk_cell BK208.out 1).trans (show _ = some _ from rfl); have hf1_ := blk_frozen BK208.out 1; first | (go_simp; done) | (go_simp; rfl))); intro w42 hw; replace HO191 : Aside0 (Kd.R (Kd.int .u8) 5 w42 w.heap.size (fun k_ => some k_ ≠ (.slice Ao24 t193.length co24 : Value).ownBlock ∧ some k_ ≠ (.slice Ao32 t199.length co32 : Value).ownBlock ∧ some k_ ≠ (.slice Ao41 t204.length co41 : Value).ownBlock) (.slice Ao19 t189.length co19) t189) := ⟨(by rw [hw]; exact (by (with_reducible repeat (first | apply Kd.R_alloc | apply Kd.R_drewN | apply Kd.R_drew)); exact Kd.R_mono (Kd.R_far (p := ⟨gb208, 1, none⟩) (Kd.R_far (p := ⟨gb208, 0, none⟩) (Kd.R_types HO191.out BK208.out (by decide)) (fun _ hk => hk.2) (.int .i64 t203)) (fun _ hk => hk.2) (.slice Ao41 t204.length co41)) (fun _ hk => ⟨hk.1.1.1, ⟨hk.1.1.2, hk.1.2⟩⟩)))⟩; replace HO195 : Aside0 (Kd.R (Kd.int .u8) 5 w42 w.heap.size (fun k_ => some k_ ≠ (.slice Ao19 t189.length co19 : Value).ownBlock ∧ some k_ ≠ (.slice Ao32 t199.length co32 : Value).ownBlock ∧ some k_ ≠ (.slice Ao41 t204.length co41 : Value).ownBlock) (.slice Ao24 t193.length co24) t193) := ⟨(by rw [hw]; exact (by (with_reducible repeat (first | apply Kd.R_alloc | apply Kd.R_drewN | apply Kd.R_drew)); exact Kd.R_mono (Kd.R_far (p := ⟨gb208, 1, none⟩) (Kd.R_far (p := ⟨gb208, 0, none⟩) (Kd.R_types HO195.out BK208.out (by decide)) (fun _ hk => hk.2) (.int .i64 t203)) (fun _ hk => hk.2) (.slice Ao41 t204.length co41)) (fun _ hk => ⟨hk.1.1.1, ⟨hk.1.1.2, hk.1.2⟩⟩)))⟩; replace HO201 : Aside0 (Kd.R (Kd.int .u8) 5 w42 w.heap.size (fun k_ => some k_ ≠ (.slice Ao19 t189.length co19 : Value).ownBlock ∧ some k_ ≠ (.slice Ao24 t193.length co24 : Value).ownBlock ∧ some k_ ≠ (.slice Ao41 t204.length co41 : Value).ownBlock) (.slice Ao32 t199.length co32) t199) := ⟨(by rw [hw]; exact (by (with_reducible repeat (first | apply Kd.R_alloc | apply Kd.R_drewN | apply Kd.R_drew)); exact Kd.R_mono (Kd.R_far (p := ⟨gb208, 1, none⟩) (Kd.R_far (p := ⟨gb208, 0, none⟩) (Kd.R_types HO201.out BK208.out (by decide)) (fun _ hk => hk.2) (.int .i64 t203)) (fun _ hk => hk.2) (.slice Ao41 t204.length co41)) (fun _ hk => ⟨hk.1.1.1, ⟨hk.1.1.2, hk.1.2⟩⟩)))⟩; replace HO206 : Aside0 (Kd.R (Kd.int .u8) 5 w42 w.heap.size (fun k_ => some k_ ≠ (.slice Ao19 t189.length co19 : Value).ownBlock ∧ some k_ ≠ (.slice Ao24 t193.length co24 : Value).ownBlock ∧ some k_ ≠ (.slice Ao32 t199.length co32 : Value).ownBlock) (.slice Ao41 t204.length co41) t204) := ⟨(by rw [hw]; exact (by (with_reducible repeat (first | apply Kd.R_alloc | apply Kd.R_drewN | apply Kd.R_drew)); exact Kd.R_mono (Kd.R_far (p := ⟨gb208, 1, none⟩) (Kd.R_far (p := ⟨gb208, 0, none⟩) (Kd.R_types HO206.out BK208.out (by decide)) (fun _ hk => hk.2) (.int .i64 t203)) (fun _ hk => hk.2) (.slice Ao41 t204.length co41)) (fun _ hk => ⟨hk.1.1.1.2, ⟨hk.1.1.2, hk.1.2⟩⟩)))⟩; replace BK186 : Aside0 (w42.heap[gb186]? = some (.cells #[.int .i64 a0_0, .slice A0_1 l0_1.length c0_1] 24 (0, 0))) := ⟨(by rw [hw]; exact (bG NB186_208 BK186))⟩; replace BK197 : Aside0 (w42.heap[gb197]? = some (.cells #[.int .i64 t192, .slice Ao24 t193.length co24] 26 (0, 0))) := ⟨(by rw [hw]; exact (bG NB197_208 BK197))⟩; replace BK202 : Aside0 (w42.heap[gb202]? = some (.cells #[.int .i64 t198, .slice Ao32 t199.length co32] 26 (0, 0))) := ⟨(by rw [hw]; exact (bG NB202_208 BK202))⟩; replace BK208 : Aside0 (w42.heap[gb208]? = some (.cells #[.int .i64 t203, .slice Ao41 t204.length co41] 26 (0, 0))) := ⟨(by rw [hw]; exact (by refine bU ?_; refine blk_put (cs := #[.int .i64 t203, .slice none 0 0]) ?_ 1 _ rfl; refine bU ?_; refine blk_put (cs := #[.int .i64 0, .slice none 0 0]) ?_ 0 _ rfl; refine bU ?_; exact BK208.out))⟩; replace HB : Aside0 (Below w.heap.size w w42) := ⟨(by rw [hw]; exact (lV4 GE186 GE197 GE202 GE208))⟩; clear hw))
  (try simp only [Act.put, List.setIfInBounds_toArray, List.set_cons_zero, List.set_cons_succ])
  go_cut [48] (fun v48 wc => ∃ (kq : Nat) (x48_12 : Bool), v48 = .bool x48_12 ∧ Aside0 (laws_FnExactPutBits.j0 kq a1 a2 t196 t207 x48_12 a0_0 l0_1 t192 t193 t198 t199 t203 t204 = some r) ∧ Aside0 (kq ≤ k) ∧ Aside0 (Kd.R (Kd.int .u8) 5 wc w.heap.size (fun k_ => some k_ ≠ ((.slice Ao32 t199.length co32) : Value).ownBlock ∧ some k_ ≠ ((.slice Ao41 t204.length co41) : Value).ownBlock) (.slice Ao24 t193.length co24) t193) ∧ Aside0 (Kd.R (Kd.int .u8) 5 wc w.heap.size (fun k_ => some k_ ≠ ((.slice Ao24 t193.length co24) : Value).ownBlock ∧ some k_ ≠ ((.slice Ao41 t204.length co41) : Value).ownBlock) (.slice Ao32 t199.length co32) t199) ∧ Aside0 (Kd.R (Kd.int .u8) 5 wc w.heap.size (fun k_ => some k_ ≠ ((.slice Ao24 t193.length co24) : Value).ownBlock ∧ some k_ ≠ ((.slice Ao32 t199.length co32) : Value).ownBlock) (.slice Ao41 t204.length co41) t204) ∧ Aside0 (wc.heap[gb186]? = some (.cells #[.int .i64 a0_0, (.slice A0_1 l0_1.length c0_1)] 24 (0, 0))) ∧ Aside0 (wc.heap[gb197]? = some (.cells #[.int .i64 t192, (.slice Ao24 t193.length co24)] 26 (0, 0))) ∧ Aside0 (wc.heap[gb202]? = some (.cells #[.int .i64 t198, (.slice Ao32 t199.length co32)] 26 (0, 0))) ∧ Aside0 (wc.heap[gb208]? = some (.cells #[.int .i64 t203, (.slice Ao41 t204.length co41)] 26 (0, 0))) ∧ Aside0 (Below w.heap.size w wc))
  case first =>
   have H := HC13.out
   clear HC13
   replace H := Option.bind_eq_some_iff.mp H
   obtain ⟨t209, A430, H⟩ := H
   replace H : (if t209 = true then (laws_FnExactPutBits.j0 k a1 a2 t196 t207 (t207 != t196) a0_0 l0_1 t192 t193 t198 t199 t203 t204) else (laws_FnExactPutBits.j0 k a1 a2 t196 t207 true a0_0 l0_1 t192 t193 t198 t199 t203 t204)) = some r := H
   have A43 := Aside0.mk A430
   clear A430
   by_cases c44 : t209 = true
   ·subst c44
    have H1 : (laws_FnExactPutBits.j0 k a1 a2 t196 t207 (t207 != t196) a0_0 l0_1 t192 t193 t198 t199 t203 t204) = some r := by rw [if_pos rfl] at H; exact H
    clear H
    have H := H1
    clear H1
    have H' := Aside0.mk H
    clear H
    have hnb45 := NB208_186.out
    have hnc45 := NB186_208.out
    have hnb46 := NB208_197.out
    have hnc46 := NB197_208.out
    have hnb47 := NB208_202.out
    have hnc47 := NB202_208.out
    have hcz48_0 := cz BK208 0 (.int .i64 t203)
    have hcz48_1 := cz BK208 1 (.slice Ao41 t204.length co41)
    have hfz48_0 := fz BK208 0
    have hfz48_1 := fz BK208 1
    have hnb49 := NB197_186.out
    have hnc49 := NB186_197.out
    have hnb50 := NB197_202.out
    have hnc50 := NB202_197.out
    have hcz51_0 := cz BK197 0 (.int .i64 t192)
    have hcz51_1 := cz BK197 1 (.slice Ao24 t193.length co24)
    have hfz51_0 := fz BK197 0
    have hfz51_1 := fz BK197 1
    go_wp2_with (first | ((with_reducible refine gate_callee (f := 8) rfl ?_); refine goesL_ (some 42) rfl rfl Try.func8 (by kernel_rfl) rfl #[.agg #[.int .i64 t203, .slice Ao41 t204.length co41], .agg #[.int .i64 t192, .slice Ao24 t193.length co24]] rfl aE ?_; (with_reducible refine (laws_eqBits.calls k t203 _ _ t204 t192 _ _ t193 true _ ?side1 ?side2 ?side3 ?side4 A43.out).mono ?_); (case side1 => exact cU (Kd.R_reads' HO206.out).2.2); (case side2 => exact (Kd.R_reads' HO206.out).2.1); (case side3 => exact cU (Kd.R_reads' HO195.out).2.2); (case side4 => exact (Kd.R_reads' HO195.out).2.1); rintro e w52 ⟨rfl, hb⟩; refine ⟨_, rfl, ?_⟩; replace HO191 := Aside0.mk (Kd.R_below (rU HO191.out) hb); replace HO195 := Aside0.mk (Kd.R_below (rU HO195.out) hb); replace HO201 := Aside0.mk (Kd.R_below (rU HO201.out) hb); replace HO206 := Aside0.mk (Kd.R_below (rU HO206.out) hb); replace BK186 := bB (bV BK186) hb; replace BK197 := bB (bV BK197) hb; replace BK202 := bB (bV BK202) hb; replace BK208 := bB (bV BK208) hb; replace HB := bH (lV4 GE186 GE197 GE202 GE208) hb; (try clear hb)))
    go_meet
    case rel => exact ⟨_, ((t207 != t196)), tE, H', ⟨by first | omega | exact Nat.le_refl _⟩, ⟨by (with_reducible repeat (first | apply Kd.R_alloc | apply Kd.R_drewN | apply Kd.R_drew)); exact Kd.R_mono HO195.out (fun _ hk => ⟨hk.2.1, hk.2.2⟩)⟩, ⟨by (with_reducible repeat (first | apply Kd.R_alloc | apply Kd.R_drewN | apply Kd.R_drew)); exact Kd.R_mono HO201.out (fun _ hk => ⟨hk.2.1, hk.2.2⟩)⟩, ⟨by (with_reducible repeat (first | apply Kd.R_alloc | apply Kd.R_drewN | apply Kd.R_drew)); exact Kd.R_mono HO206.out (fun _ hk => ⟨hk.2.1, hk.2.2⟩)⟩, ⟨by refine bU ?_; exact BK186.out⟩, ⟨by refine bU ?_; exact BK197.out⟩, ⟨by refine bU ?_; exact BK202.out⟩, ⟨by refine bU ?_; exact BK208.out⟩, ⟨by repeat (first | (with_reducible first | exact HB.out | apply below_alloc | apply pw_below_drewN | apply below_drew1 | refine below_set ?_ GE186.out | refine below_set ?_ GE197.out | refine below_set ?_ GE202.out | refine below_set ?_ GE208.out) | exact HB.out)⟩⟩
   ·replace c44 := Bool.eq_false_iff.mpr c44
    subst c44
    have H1 : (laws_FnExactPutBits.j0 k a1 a2 t196 t207 true a0_0 l0_1 t192 t193 t198 t199 t203 t204) = some r := by rw [if_neg (show ¬ (false = true) by decide)] at H; exact H
    clear H
    have H := H1
    clear H1
    have H' := Aside0.mk H
    clear H
    have hnb53 := NB208_186.out
    have hnc53 := NB186_208.out
    have hnb54 := NB208_197.out
    have hnc54 := NB197_208.out
    have hnb55 := NB208_202.out
    have hnc55 := NB202_208.out
    have hcz56_0 := cz BK208 0 (.int .i64 t203)
    have hcz56_1 := cz BK208 1 (.slice Ao41 t204.length co41)
    have hfz56_0 := fz BK208 0
    have hfz56_1 := fz BK208 1
    have hnb57 := NB197_186.out
    have hnc57 := NB186_197.out
    have hnb58 := NB197_202.out
    have hnc58 := NB202_197.out
    have hcz59_0 := cz BK197 0 (.int .i64 t192)
    have hcz59_1 := cz BK197 1 (.slice Ao24 t193.length co24)
    have hfz59_0 := fz BK197 0
    have hfz59_1 := fz BK197 1
    go_wp2_with (first | ((with_reducible refine gate_callee (f := 8) rfl ?_); refine goesL_ (some 42) rfl rfl Try.func8 (by kernel_rfl) rfl #[.agg #[.int .i64 t203, .slice Ao41 t204.length co41], .agg #[.int .i64 t192, .slice Ao24 t193.length co24]] rfl aE ?_; (with_reducible refine (laws_eqBits.calls k t203 _ _ t204 t192 _ _ t193 false _ ?side1 ?side2 ?side3 ?side4 A43.out).mono ?_); (case side1 => exact cU (Kd.R_reads' HO206.out).2.2); (case side2 => exact (Kd.R_reads' HO206.out).2.1); (case side3 => exact cU (Kd.R_reads' HO195.out).2.2); (case side4 => exact (Kd.R_reads' HO195.out).2.1); rintro e w60 ⟨rfl, hb⟩; refine ⟨_, rfl, ?_⟩; replace HO191 := Aside0.mk (Kd.R_below (rU HO191.out) hb); replace HO195 := Aside0.mk (Kd.R_below (rU HO195.out) hb); replace HO201 := Aside0.mk (Kd.R_below (rU HO201.out) hb); replace HO206 := Aside0.mk (Kd.R_below (rU HO206.out) hb); replace BK186 := bB (bV BK186) hb; replace BK197 := bB (bV BK197) hb; replace BK202 := bB (bV BK202) hb; replace BK208 := bB (bV BK208) hb; replace HB := bH (lV4 GE186 GE197 GE202 GE208) hb; (try clear hb)))
    go_meet
    case rel => exact ⟨_, (true), tE, H', ⟨by first | omega | exact Nat.le_refl _⟩, ⟨by (with_reducible repeat (first | apply Kd.R_alloc | apply Kd.R_drewN | apply Kd.R_drew)); exact Kd.R_mono HO195.out (fun _ hk => ⟨hk.2.1, hk.2.2⟩)⟩, ⟨by (with_reducible repeat (first | apply Kd.R_alloc | apply Kd.R_drewN | apply Kd.R_drew)); exact Kd.R_mono HO201.out (fun _ hk => ⟨hk.2.1, hk.2.2⟩)⟩, ⟨by (with_reducible repeat (first | apply Kd.R_alloc | apply Kd.R_drewN | apply Kd.R_drew)); exact Kd.R_mono HO206.out (fun _ hk => ⟨hk.2.1, hk.2.2⟩)⟩, ⟨by refine bU ?_; exact BK186.out⟩, ⟨by refine bU ?_; exact BK197.out⟩, ⟨by refine bU ?_; exact BK202.out⟩, ⟨by refine bU ?_; exact BK208.out⟩, ⟨by repeat (first | (with_reducible first | exact HB.out | apply below_alloc | apply pw_below_drewN | apply below_drew1 | refine below_set ?_ GE186.out | refine below_set ?_ GE197.out | refine below_set ?_ GE202.out | refine below_set ?_ GE208.out) | exact HB.out)⟩⟩
  case rest =>
   clear HC13
   try clear q1
   try clear c2
   try clear p2
   try clear c3
   try clear c4
   try clear c5
   try clear c5b0
   try clear c6
   try clear c7
   try clear c8
   try clear c22
   try clear c29
   try clear c30
   try clear c37
   try clear c38
   try clear c39
   try clear c44
   try clear c45
   try clear c46
   try clear c47
   try clear c49
   try clear c50
   try clear c53
   try clear c54
   try clear c55
   try clear c57
   try clear c58
   try clear hcz15_0
   try clear hcz15_1
   try clear hcz17_0
   try clear hcz17_1
   try clear hcz23_0
   try clear hcz23_1
   try clear hcz26_0
   try clear hcz26_1
   try clear hcz31_0
   try clear hcz31_1
   try clear hcz34_0
   try clear hcz34_1
   try clear hcz40_0
   try clear hcz40_1
   try clear hcz48_0
   try clear hcz48_1
   try clear hcz51_0
   try clear hcz51_1
   try clear hcz56_0
   try clear hcz56_1
   try clear hcz59_0
   try clear hcz59_1
   try clear hcz7_0
   try clear hcz7_1
   try clear hfz15_0
   try clear hfz15_1
   try clear hfz17_0
   try clear hfz17_1
   try clear hfz23_0
   try clear hfz23_1
   try clear hfz26_0
   try clear hfz26_1
   try clear hfz31_0
   try clear hfz31_1
   try clear hfz34_0
   try clear hfz34_1
   try clear hfz40_0
   try clear hfz40_1
   try clear hfz48_0
   try clear hfz48_1
   try clear hfz51_0
   try clear hfz51_1
   try clear hfz56_0
   try clear hfz56_1
   try clear hfz59_0
   try clear hfz59_1
   try clear hfz7_0
   try clear hfz7_1
   obtain ⟨kq, x48_12, rfl, HA, HJ12, HO_198001, HO_203001, HO_209001, BK186, BK197, BK202, BK208, HB⟩ := hcut
   cases kq with
   | zero => exact absurd HA.out (by simp [laws_FnExactPutBits.j0])
   | succ kj12 =>
    have H := HA.out
    clear HA
    simp only [laws_FnExactPutBits.j0] at H
    by_cases c61 : x48_12 = true
    ·subst c61
     have H1 : (some false) = some r := by rw [if_pos rfl] at H; exact H
     clear H
     have H := H1
     clear H1
     obtain rfl := Option.some.inj H
     go_wp2
     go_ret
     exact ⟨eE, lV4 GE186 GE197 GE202 GE208⟩
    ·replace c61 := Bool.eq_false_iff.mpr c61
     subst c61
     have H1 : ((laws_toBits.f kj12 a0_0 l0_1).bind fun bt210 => ((laws_eqBits.f kj12 t198 t199 bt210.1 bt210.2).bind fun t214 => (if t214 = true then ((laws_markBits.f kj12 t198 t199 1).bind fun bt215 => (if bt215.1 < 0 then (laws_FnExactPutBits.j1 kj12 a1 a2 t196 true a0_0 l0_1 t192 t193 t203 t204) else ((laws_eqBits.f kj12 t203 t204 t192 t193).bind fun t217 => (if t217 = true then (laws_FnExactPutBits.j1 kj12 a1 a2 t196 (t207 != t196) a0_0 l0_1 t192 t193 t203 t204) else (laws_FnExactPutBits.j1 kj12 a1 a2 t196 true a0_0 l0_1 t192 t193 t203 t204))))) else (some false)))) = some r := by rw [if_neg (show ¬ (false = true) by decide)] at H; exact H
     clear H
     have H := H1
     clear H1
     replace H := Option.bind_eq_some_iff.mp H
     obtain ⟨⟨t210, t211⟩, A620, H⟩ := H
     replace H : ((laws_eqBits.f kj12 t198 t199 t210 t211).bind fun t214 => (if t214 = true then ((laws_markBits.f kj12 t198 t199 1).bind fun bt215 => (if bt215.1 < 0 then (laws_FnExactPutBits.j1 kj12 a1 a2 t196 true a0_0 l0_1 t192 t193 t203 t204) else ((laws_eqBits.f kj12 t203 t204 t192 t193).bind fun t217 => (if t217 = true then (laws_FnExactPutBits.j1 kj12 a1 a2 t196 (t207 != t196) a0_0 l0_1 t192 t193 t203 t204) else (laws_FnExactPutBits.j1 kj12 a1 a2 t196 true a0_0 l0_1 t192 t193 t203 t204))))) else (some false))) = some r := H
     have A62 := Aside0.mk A620
     clear A620
     replace H := Option.bind_eq_some_iff.mp H
     obtain ⟨t214, A630, H⟩ := H
     replace H : (if t214 = true then ((laws_markBits.f kj12 t198 t199 1).bind fun bt215 => (if bt215.1 < 0 then (laws_FnExactPutBits.j1 kj12 a1 a2 t196 true a0_0 l0_1 t192 t193 t203 t204) else ((laws_eqBits.f kj12 t203 t204 t192 t193).bind fun t217 => (if t217 = true then (laws_FnExactPutBits.j1 kj12 a1 a2 t196 (t207 != t196) a0_0 l0_1 t192 t193 t203 t204) else (laws_FnExactPutBits.j1 kj12 a1 a2 t196 true a0_0 l0_1 t192 t193 t203 t204))))) else (some false)) = some r := H
     have A63 := Aside0.mk A630
     clear A630
     by_cases c64 : t214 = true
     ·subst c64
      have H1 : ((laws_markBits.f kj12 t198 t199 1).bind fun bt215 => (if bt215.1 < 0 then (laws_FnExactPutBits.j1 kj12 a1 a2 t196 true a0_0 l0_1 t192 t193 t203 t204) else ((laws_eqBits.f kj12 t203 t204 t192 t193).bind fun t217 => (if t217 = true then (laws_FnExactPutBits.j1 kj12 a1 a2 t196 (t207 != t196) a0_0 l0_1 t192 t193 t203 t204) else (laws_FnExactPutBits.j1 kj12 a1 a2 t196 true a0_0 l0_1 t192 t193 t203 t204))))) = some r := by rw [if_pos rfl] at H; exact H
      clear H
      have H := H1
      clear H1
      replace H := Option.bind_eq_some_iff.mp H
      obtain ⟨⟨t215, t216⟩, A650, H⟩ := H
      replace H : (if t215 < 0 then (laws_FnExactPutBits.j1 kj12 a1 a2 t196 true a0_0 l0_1 t192 t193 t203 t204) else ((laws_eqBits.f kj12 t203 t204 t192 t193).bind fun t217 => (if t217 = true then (laws_FnExactPutBits.j1 kj12 a1 a2 t196 (t207 != t196) a0_0 l0_1 t192 t193 t203 t204) else (laws_FnExactPutBits.j1 kj12 a1 a2 t196 true a0_0 l0_1 t192 t193 t203 t204)))) = some r := H
      have A65 := Aside0.mk A650
      clear A650
      have HC66 := Aside0.mk H
      clear H
      try go_wp2
      replace HO_198001 := Aside0.mk (Kd.R_drew HO_198001.out)
      replace HO_203001 := Aside0.mk (Kd.R_drew HO_203001.out)
      replace HO_209001 := Aside0.mk (Kd.R_drew HO_209001.out)
      replace BK186 := Aside0.mk (blk_drew BK186.out)
      replace BK197 := Aside0.mk (blk_drew BK197.out)
      replace BK202 := Aside0.mk (blk_drew BK202.out)
      replace BK208 := Aside0.mk (blk_drew BK208.out)
      replace HB := Aside0.mk (below_drew1 HB.out)
      refine start_ (n := 5) (S := fun w' => w'.cell? ⟨gb202, 0, none⟩ = some (.int .i64 t198) ∧ w'.cell? ⟨gb202, 1, none⟩ = some (.slice Ao32 t199.length co32) ∧ w'.cell? ⟨gb186, 0, none⟩ = some (.int .i64 a0_0) ∧ w'.cell? ⟨gb186, 1, none⟩ = some (.slice A0_1 l0_1.length c0_1)) (ds := []) #[false, false, false, false, false] (by kernel_rfl) rfl rfl ⟨cz BK202 0 _, cz BK202 1 _, cz BK186 0 _, cz BK186 1 _⟩ (fun hHeld => ?_)
      generalize wc.drew = w67 at HO_198001 HO_203001 HO_209001 BK186 BK197 BK202 BK208 HB hHeld ⊢
      refine take_ (i := 0) (N := some 49) (v := ?_) (a' := ?_) (bz 5 1) rfl rfl (by kernel_rfl) (fun _ _ _ h => h) (Or.inl ⟨by rfl, ?_⟩) hHeld ?_ ?_
      rotate_left
      ·rintro w' ⟨s0, s1, s2, s3⟩
       go_simp
       with_reducible rfl
      rotate_left
      ·simp only [Act.put, List.setIfInBounds_toArray, List.set_cons_zero, List.set_cons_succ, i64_w, i32_w]
       rfl
      refine take_ (i := 1) (N := some 50) (v := ?_) (a' := ?_) (bz 5 3) rfl rfl (by kernel_rfl) (fun _ _ _ h => h) (Or.inl ⟨by rfl, ?_⟩) hHeld ?_ ?_
      rotate_left
      ·rintro w' ⟨s0, s1, s2, s3⟩
       go_simp
       with_reducible rfl
      rotate_left
      ·simp only [Act.put, List.setIfInBounds_toArray, List.set_cons_zero, List.set_cons_succ, i64_w, i32_w]
       rfl
      refine one_ (i := 2) (N := some 51) (bz 5 7) rfl rfl (by kernel_rfl) (by decide) (fun K hK => ?_)
      refine goes_ Try.func6 (by kernel_rfl) rfl #[.agg #[.int .i64 a0_0, .slice A0_1 l0_1.length c0_1]] (by rfl) rfl rfl aE ?_
      with_reducible refine (laws_toBits.calls kj12 a0_0 _ _ l0_1 t210 t211 _ ?side1 ?side2 A62.out).mono ?_
      (case side1 => exact cU (Kd.C_below HR0_1.out HB.out))
      (case side2 => exact HC0_1.out)
      rintro e w68 ⟨v212, rfl, ho0, hb⟩
      refine ⟨_, rfl, ?_⟩
      have HO213 := Aside0.mk (Kd.R_lower (Kd.R_new' (Kd.R_new' (Kd.R_new' ho0 (Kd.R_lt (rU HO_198001.out))) (Kd.R_lt (rU HO_203001.out))) (Kd.R_lt (rU HO_209001.out))) (below_size (lV4 GE186 GE197 GE202 GE208)))
      replace HO_198001 := Aside0.mk (Kd.R_elder' (rU HO_198001.out) (Kd.R_base ho0) hb)
      replace HO_203001 := Aside0.mk (Kd.R_elder' (rU HO_203001.out) (Kd.R_base ho0) hb)
      replace HO_209001 := Aside0.mk (Kd.R_elder' (rU HO_209001.out) (Kd.R_base ho0) hb)
      replace BK186 := bB (bV BK186) hb
      replace BK197 := bB (bV BK197) hb
      replace BK202 := bB (bV BK202) hb
      replace BK208 := bB (bV BK208) hb
      replace HB := bH (lV4 GE186 GE197 GE202 GE208) hb
      (try clear hb)
      (try clear hb2)
      (try clear hk)
      (try clear hi)
      (try clear ho0)
      obtain ⟨Ao69, co69, eo69⟩ := Kd.R_slice HO213.out
      (first | subst eo69 | (injection eo69 with f1_ f2_ f3_; have f4_ := f1_.symm; have f5_ := f3_.symm; clear f1_ f2_ f3_; subst f4_; subst f5_))
      refine hK.out _ _ ⟨cz BK202 0 _, cz BK202 1 _, cz BK186 0 _, cz BK186 1 _⟩ (fun hHeld => ?_)
      clear hK K
      refine norm_ (a' := ?_) ?_ ?_
      rotate_left
      ·show Act.put _ (some 51) _ = _
       simp only [Act.put, List.setIfInBounds_toArray, List.set_cons_zero, List.set_cons_succ, i64_w, i32_w]
       rfl
      refine one_ (i := 3) (N := some 52) (bz 5 15) rfl rfl (by kernel_rfl) (by decide) (fun K hK => ?_)
      refine goes_ Try.func8 (by kernel_rfl) rfl #[.agg #[.int .i64 t198, .slice Ao32 t199.length co32], .agg #[.int .i64 t210, .slice Ao69 t211.length co69]] (by rfl) rfl rfl aE ?_
      with_reducible refine (laws_eqBits.calls kj12 t198 _ _ t199 t210 _ _ t211 true _ ?side1 ?side2 ?side3 ?side4 A63.out).mono ?_
      (case side1 => exact cU (Kd.R_reads' HO_203001.out).2.2)
      (case side2 => exact (Kd.R_reads' HO_203001.out).2.1)
      (case side3 => exact cU (Kd.R_reads' HO213.out).2.2)
      (case side4 => exact (Kd.R_reads' HO213.out).2.1)
      rintro e w70 ⟨rfl, hb⟩
      refine ⟨_, rfl, ?_⟩
      replace HO_198001 := Aside0.mk (Kd.R_below (rU HO_198001.out) hb)
      replace HO_203001 := Aside0.mk (Kd.R_below (rU HO_203001.out) hb)
      replace HO_209001 := Aside0.mk (Kd.R_below (rU HO_209001.out) hb)
      replace HO213 := Aside0.mk (Kd.R_below (rU HO213.out) hb)
      replace BK186 := bB (bV BK186) hb
      replace BK197 := bB (bV BK197) hb
      replace BK202 := bB (bV BK202) hb
      replace BK208 := bB (bV BK208) hb
      replace HB := bH (lV4 GE186 GE197 GE202 GE208) hb
      (try clear hb)
      (try clear hb2)
      (try clear hk)
      (try clear hi)
      refine hK.out _ _ ⟨cz BK202 0 _, cz BK202 1 _, cz BK186 0 _, cz BK186 1 _⟩ (fun hHeld => ?_)
      clear hK K
      refine norm_ (a' := ?_) ?_ ?_
      rotate_left
      ·show Act.put _ (some 52) _ = _
       simp only [Act.put, List.setIfInBounds_toArray, List.set_cons_zero, List.set_cons_succ, i64_w, i32_w]
       rfl
      refine pure_ (i := 4) (N := some 53) (v := ?_) (a' := ?_) (bz 5 31) rfl rfl (by kernel_rfl) (fun _ _ _ h => h) (Or.inl ⟨by rfl, ?_⟩) ?_ ?_
      rotate_left
      ·intro w'
       go_simp
       with_reducible rfl
      rotate_left
      ·simp only [Act.put, List.setIfInBounds_toArray, List.set_cons_zero, List.set_cons_succ, i64_w, i32_w]
       rfl
      refine done_ (by kernel_rfl) ?_
      have hnb71 := NB202_186.out
      have hnc71 := NB186_202.out
      have hnb72 := NB202_197.out
      have hnc72 := NB197_202.out
      have hnb73 := NB202_208.out
      have hnc73 := NB208_202.out
      have hcz74_0 := cz BK202 0 (.int .i64 t198)
      have hcz74_1 := cz BK202 1 (.slice Ao32 t199.length co32)
      have hfz74_0 := fz BK202 0
      have hfz74_1 := fz BK202 1
      go_upto_region 14 with (first | ((with_reducible refine gate_callee (f := 9) rfl ?_); refine goesL_ (some 56) rfl rfl Try.func9 (by kernel_rfl) rfl #[.agg #[.int .i64 t198, .slice Ao32 t199.length co32], .int .i64 1] rfl aE ?_; (with_reducible refine (laws_markBits.calls kj12 t198 (fun k_ => some k_ = (.slice Ao32 t199.length co32 : Value).ownBlock) (.slice Ao32 t199.length co32) t199 1 t215 t216 w _ ?side1 ?side2 A65.out).mono ?_); (case side1 => repeat (first | (with_reducible first | exact HB.out | apply below_alloc | apply pw_below_drewN | apply below_drew1 | refine below_set ?_ GE186.out | refine below_set ?_ GE197.out | refine below_set ?_ GE202.out | refine below_set ?_ GE208.out) | exact HB.out)); (case side2 => exact Kd.R_tight rfl HO_203001.out); rintro e w75 ⟨rfl, hy0, hb, hkp⟩; refine ⟨_, rfl, ?_⟩; replace HO_198001 := Aside0.mk (Kd.R_mono (ok' := fun k_ => some k_ ≠ (.slice Ao32 t199.length co32 : Value).ownBlock ∧ some k_ ≠ (.slice Ao41 t204.length co41 : Value).ownBlock ∧ some k_ ≠ (.slice Ao69 t211.length co69 : Value).ownBlock) (Kd.R_keptB (HO_198001.out) hkp (fun k_ hk_ hs_ => (hk_.1.1) hs_)) (fun k_ hk_ => ⟨hk_.1.1.1, hk_.1.1.2, hk_.1.2⟩)); replace HO_209001 := Aside0.mk (Kd.R_mono (ok' := fun k_ => some k_ ≠ (.slice Ao24 t193.length co24 : Value).ownBlock ∧ some k_ ≠ (.slice Ao32 t199.length co32 : Value).ownBlock ∧ some k_ ≠ (.slice Ao69 t211.length co69 : Value).ownBlock) (Kd.R_keptB (HO_209001.out) hkp (fun k_ hk_ hs_ => (hk_.1.2) hs_)) (fun k_ hk_ => ⟨hk_.1.1.1, hk_.1.1.2, hk_.1.2⟩)); replace BK186 := Aside0.mk (blk_kept (bV BK186) hkp (fun hs_ => (fun e_ => (Kd.R_ne HO_203001.out BK186.out (by decide)) e_) hs_)); replace BK197 := Aside0.mk (blk_kept (bV BK197) hkp (fun hs_ => (fun e_ => (Kd.R_ne HO_203001.out BK197.out (by decide)) e_) hs_)); replace BK202 := Aside0.mk (blk_kept (bV BK202) hkp (fun hs_ => (fun e_ => (Kd.R_ne HO_203001.out BK202.out (by decide)) e_) hs_)); replace BK208 := Aside0.mk (blk_kept (bV BK208) hkp (fun hs_ => (fun e_ => (Kd.R_ne HO_203001.out BK208.out (by decide)) e_) hs_)); replace HO_203001 := Aside0.mk (Kd.R_reok rfl hy0 (fun k_ e_ => HO_203001.out.1 k_ e_)); replace HO213 := Aside0.mk (Kd.R_mono (ok' := fun k_ => some k_ ≠ (.slice Ao24 t193.length co24 : Value).ownBlock ∧ some k_ ≠ (.slice Ao32 t199.length co32 : Value).ownBlock ∧ some k_ ≠ (.slice Ao41 t204.length co41 : Value).ownBlock) (Kd.R_keptB (HO213.out) hkp (fun k_ hk_ hs_ => (hk_.1.2) hs_)) (fun k_ hk_ => ⟨hk_.1.1.1.2, hk_.1.1.2, hk_.1.2⟩)); replace HB := Aside0.mk hb; (try clear hb); (try clear hkp); (try clear hg_); (try clear hp_); (try clear hy0)))
      (try simp only [Act.put, List.setIfInBounds_toArray, List.set_cons_zero, List.set_cons_succ])
      go_cut [69] (fun v69 wc => ∃ (kq : Nat) (x69_65 : Bool), v69 = .bool x69_65 ∧ Aside0 (laws_FnExactPutBits.j1 kq a1 a2 t196 x69_65 a0_0 l0_1 t192 t193 t203 t204 = some r) ∧ Aside0 (kq ≤ kj12) ∧ Aside0 (Kd.R (Kd.int .u8) 5 wc w.heap.size (fun k_ => some k_ ≠ ((.slice Ao32 t199.length co32) : Value).ownBlock ∧ some k_ ≠ ((.slice Ao41 t204.length co41) : Value).ownBlock) (.slice Ao24 t193.length co24) t193) ∧ Aside0 (Kd.R (Kd.int .u8) 5 wc w.heap.size (fun k_ => some k_ ≠ ((.slice Ao24 t193.length co24) : Value).ownBlock ∧ some k_ ≠ ((.slice Ao41 t204.length co41) : Value).ownBlock) (.slice Ao32 t199.length co32) t216) ∧ Aside0 (Kd.R (Kd.int .u8) 5 wc w.heap.size (fun k_ => some k_ ≠ ((.slice Ao24 t193.length co24) : Value).ownBlock ∧ some k_ ≠ ((.slice Ao32 t199.length co32) : Value).ownBlock) (.slice Ao41 t204.length co41) t204) ∧ Aside0 (wc.heap[gb186]? = some (.cells #[.int .i64 a0_0, (.slice A0_1 l0_1.length c0_1)] 24 (0, 0))) ∧ Aside0 (wc.heap[gb197]? = some (.cells #[.int .i64 t192, (.slice Ao24 t193.length co24)] 26 (0, 0))) ∧ Aside0 (wc.heap[gb202]? = some (.cells #[.int .i64 t198, (.slice Ao32 t199.length co32)] 26 (0, 0))) ∧ Aside0 (wc.heap[gb208]? = some (.cells #[.int .i64 t203, (.slice Ao41 t204.length co41)] 26 (0, 0))) ∧ Aside0 (Below w.heap.size w wc))
      case first =>
       have H := HC66.out
       clear HC66
       by_cases c76 : t215 < 0
       ·rw [if_pos c76] at H
        have c76b0 : decide (t215 < 0) = true := decide_eq_true c76
        clear c76
        (first | rw [c76b0] | (simp only [i64_w, i32_w]; rw [c76b0]) | (rw [c76b2]; simp only [Bool.not_false, Bool.not_true]) | skip)
        have H' := Aside0.mk H
        clear H
        go_wp2
        go_meet
        case rel => exact ⟨_, (true), tE, H', ⟨by have := HJ12.out; first | omega | exact Nat.le_refl _⟩, ⟨by (with_reducible repeat (first | apply Kd.R_alloc | apply Kd.R_drewN | apply Kd.R_drew)); exact Kd.R_mono HO_198001.out (fun _ hk => ⟨hk.1, hk.2.1⟩)⟩, ⟨by (with_reducible repeat (first | apply Kd.R_alloc | apply Kd.R_drewN | apply Kd.R_drew)); exact Kd.R_mono HO_203001.out (fun _ hk => ⟨hk.1.1, hk.1.2⟩)⟩, ⟨by (with_reducible repeat (first | apply Kd.R_alloc | apply Kd.R_drewN | apply Kd.R_drew)); exact Kd.R_mono HO_209001.out (fun _ hk => ⟨hk.1, hk.2.1⟩)⟩, ⟨by refine bU ?_; exact BK186.out⟩, ⟨by refine bU ?_; exact BK197.out⟩, ⟨by refine bU ?_; exact BK202.out⟩, ⟨by refine bU ?_; exact BK208.out⟩, ⟨by repeat (first | (with_reducible first | exact HB.out | apply below_alloc | apply pw_below_drewN | apply below_drew1 | refine below_set ?_ GE186.out | refine below_set ?_ GE197.out | refine below_set ?_ GE202.out | refine below_set ?_ GE208.out) | exact HB.out)⟩⟩
       ·rw [if_neg c76] at H
        have c76b0 : decide (t215 < 0) = false := decide_eq_false c76
        clear c76
        (first | rw [c76b0] | (simp only [i64_w, i32_w]; rw [c76b0]) | (rw [c76b2]; simp only [Bool.not_false, Bool.not_true]) | skip)
        replace H := Option.bind_eq_some_iff.mp H
        obtain ⟨t217, A770, H⟩ := H
        replace H : (if t217 = true then (laws_FnExactPutBits.j1 kj12 a1 a2 t196 (t207 != t196) a0_0 l0_1 t192 t193 t203 t204) else (laws_FnExactPutBits.j1 kj12 a1 a2 t196 true a0_0 l0_1 t192 t193 t203 t204)) = some r := H
        have A77 := Aside0.mk A770
        clear A770
        by_cases c78 : t217 = true
        ·subst c78
         have H1 : (laws_FnExactPutBits.j1 kj12 a1 a2 t196 (t207 != t196) a0_0 l0_1 t192 t193 t203 t204) = some r := by rw [if_pos rfl] at H; exact H
         clear H
         have H := H1
         clear H1
         have H' := Aside0.mk H
         clear H
         have hnb79 := NB208_186.out
         have hnc79 := NB186_208.out
         have hnb80 := NB208_197.out
         have hnc80 := NB197_208.out
         have hnb81 := NB208_202.out
         have hnc81 := NB202_208.out
         have hcz82_0 := cz BK208 0 (.int .i64 t203)
         have hcz82_1 := cz BK208 1 (.slice Ao41 t204.length co41)
         have hfz82_0 := fz BK208 0
         have hfz82_1 := fz BK208 1
         have hnb83 := NB197_186.out
         have hnc83 := NB186_197.out
         have hnb84 := NB197_202.out
         have hnc84 := NB202_197.out
         have hcz85_0 := cz BK197 0 (.int .i64 t192)
         have hcz85_1 := cz BK197 1 (.slice Ao24 t193.length co24)
         have hfz85_0 := fz BK197 0
         have hfz85_1 := fz BK197 1
         go_wp2_with (first | (go_at_call 8; (with_reducible refine (laws_eqBits.calls kj12 t203 _ _ t204 t192 _ _ t193 true _ ?side1 ?side2 ?side3 ?side4 A77.out).mono ?_); (case side1 => exact cU (Kd.R_reads' HO_209001.out).2.2); (case side2 => exact (Kd.R_reads' HO_209001.out).2.1); (case side3 => exact cU (Kd.R_reads' HO_198001.out).2.2); (case side4 => exact (Kd.R_reads' HO_198001.out).2.1); rintro e w86 ⟨rfl, hb⟩; replace HO_198001 := Aside0.mk (Kd.R_below (rU HO_198001.out) hb); replace HO_203001 := Aside0.mk (Kd.R_below (rU HO_203001.out) hb); replace HO_209001 := Aside0.mk (Kd.R_below (rU HO_209001.out) hb); replace HO213 := Aside0.mk (Kd.R_below (rU HO213.out) hb); replace BK186 := bB (bV BK186) hb; replace BK197 := bB (bV BK197) hb; replace BK202 := bB (bV BK202) hb; replace BK208 := bB (bV BK208) hb; replace HB := bH (lV4 GE186 GE197 GE202 GE208) hb; (try clear hb)))
         go_meet
         case rel => exact ⟨_, ((t207 != t196)), tE, H', ⟨by have := HJ12.out; first | omega | exact Nat.le_refl _⟩, ⟨by (with_reducible repeat (first | apply Kd.R_alloc | apply Kd.R_drewN | apply Kd.R_drew)); exact Kd.R_mono HO_198001.out (fun _ hk => ⟨hk.1, hk.2.1⟩)⟩, ⟨by (with_reducible repeat (first | apply Kd.R_alloc | apply Kd.R_drewN | apply Kd.R_drew)); exact Kd.R_mono HO_203001.out (fun _ hk => ⟨hk.1.1, hk.1.2⟩)⟩, ⟨by (with_reducible repeat (first | apply Kd.R_alloc | apply Kd.R_drewN | apply Kd.R_drew)); exact Kd.R_mono HO_209001.out (fun _ hk => ⟨hk.1, hk.2.1⟩)⟩, ⟨by refine bU ?_; exact BK186.out⟩, ⟨by refine bU ?_; exact BK197.out⟩, ⟨by refine bU ?_; exact BK202.out⟩, ⟨by refine bU ?_; exact BK208.out⟩, ⟨by repeat (first | (with_reducible first | exact HB.out | apply below_alloc | apply pw_below_drewN | apply below_drew1 | refine below_set ?_ GE186.out | refine below_set ?_ GE197.out | refine below_set ?_ GE202.out | refine below_set ?_ GE208.out) | exact HB.out)⟩⟩
        ·replace c78 := Bool.eq_false_iff.mpr c78
         subst c78
         have H1 : (laws_FnExactPutBits.j1 kj12 a1 a2 t196 true a0_0 l0_1 t192 t193 t203 t204) = some r := by rw [if_neg (show ¬ (false = true) by decide)] at H; exact H
         clear H
         have H := H1
         clear H1
         have H' := Aside0.mk H
         clear H
         have hnb87 := NB208_186.out
         have hnc87 := NB186_208.out
         have hnb88 := NB208_197.out
         have hnc88 := NB197_208.out
         have hnb89 := NB208_202.out
         have hnc89 := NB202_208.out
         have hcz90_0 := cz BK208 0 (.int .i64 t203)
         have hcz90_1 := cz BK208 1 (.slice Ao41 t204.length co41)
         have hfz90_0 := fz BK208 0
         have hfz90_1 := fz BK208 1
         have hnb91 := NB197_186.out
         have hnc91 := NB186_197.out
         have hnb92 := NB197_202.out
         have hnc92 := NB202_197.out
         have hcz93_0 := cz BK197 0 (.int .i64 t192)
         have hcz93_1 := cz BK197 1 (.slice Ao24 t193.length co24)
         have hfz93_0 := fz BK197 0
         have hfz93_1 := fz BK197 1
         go_wp2_with (first | (go_at_call 8; (with_reducible refine (laws_eqBits.calls kj12 t203 _ _ t204 t192 _ _ t193 false _ ?side1 ?side2 ?side3 ?side4 A77.out).mono ?_); (case side1 => exact cU (Kd.R_reads' HO_209001.out).2.2); (case side2 => exact (Kd.R_reads' HO_209001.out).2.1); (case side3 => exact cU (Kd.R_reads' HO_198001.out).2.2); (case side4 => exact (Kd.R_reads' HO_198001.out).2.1); rintro e w94 ⟨rfl, hb⟩; replace HO_198001 := Aside0.mk (Kd.R_below (rU HO_198001.out) hb); replace HO_203001 := Aside0.mk (Kd.R_below (rU HO_203001.out) hb); replace HO_209001 := Aside0.mk (Kd.R_below (rU HO_209001.out) hb); replace HO213 := Aside0.mk (Kd.R_below (rU HO213.out) hb); replace BK186 := bB (bV BK186) hb; replace BK197 := bB (bV BK197) hb; replace BK202 := bB (bV BK202) hb; replace BK208 := bB (bV BK208) hb; replace HB := bH (lV4 GE186 GE197 GE202 GE208) hb; (try clear hb)))
         go_meet
         case rel => exact ⟨_, (true), tE, H', ⟨by have := HJ12.out; first | omega | exact Nat.le_refl _⟩, ⟨by (with_reducible repeat (first | apply Kd.R_alloc | apply Kd.R_drewN | apply Kd.R_drew)); exact Kd.R_mono HO_198001.out (fun _ hk => ⟨hk.1, hk.2.1⟩)⟩, ⟨by (with_reducible repeat (first | apply Kd.R_alloc | apply Kd.R_drewN | apply Kd.R_drew)); exact Kd.R_mono HO_203001.out (fun _ hk => ⟨hk.1.1, hk.1.2⟩)⟩, ⟨by (with_reducible repeat (first | apply Kd.R_alloc | apply Kd.R_drewN | apply Kd.R_drew)); exact Kd.R_mono HO_209001.out (fun _ hk => ⟨hk.1, hk.2.1⟩)⟩, ⟨by refine bU ?_; exact BK186.out⟩, ⟨by refine bU ?_; exact BK197.out⟩, ⟨by refine bU ?_; exact BK202.out⟩, ⟨by refine bU ?_; exact BK208.out⟩, ⟨by repeat (first | (with_reducible first | exact HB.out | apply below_alloc | apply pw_below_drewN | apply below_drew1 | refine below_set ?_ GE186.out | refine below_set ?_ GE197.out | refine below_set ?_ GE202.out | refine below_set ?_ GE208.out) | exact HB.out)⟩⟩
      case rest =>
       clear HC66
       try clear q1
       try clear c2
       try clear p2
       try clear c3
       try clear c4
       try clear c5
       try clear c5b0
       try clear c6
       try clear c7
       try clear c8
       try clear c9
       try clear c22
       try clear c29
       try clear c30
       try clear c37
       try clear c38
       try clear c39
       try clear c44
       try clear c45
       try clear c46
       try clear c47
       try clear c49
       try clear c50
       try clear c53
       try clear c54
       try clear c55
       try clear c57
       try clear c58
       try clear c61
       try clear c64
       try clear c71
       try clear c72
       try clear c73
       try clear c76
       try clear c76b0
       try clear c76b2
       try clear c78
       try clear c79
       try clear c80
       try clear c81
       try clear c83
       try clear c84
       try clear c87
       try clear c88
       try clear c89
       try clear c91
       try clear c92
       try clear hcz15_0
       try clear hcz15_1
       try clear hcz17_0
       try clear hcz17_1
       try clear hcz23_0
       try clear hcz23_1
       try clear hcz26_0
       try clear hcz26_1
       try clear hcz31_0
       try clear hcz31_1
       try clear hcz34_0
       try clear hcz34_1
       try clear hcz40_0
       try clear hcz40_1
       try clear hcz48_0
       try clear hcz48_1
       try clear hcz51_0
       try clear hcz51_1
       try clear hcz56_0
       try clear hcz56_1
       try clear hcz59_0
       try clear hcz59_1
       try clear hcz74_0
       try clear hcz74_1
       try clear hcz7_0
       try clear hcz7_1
       try clear hcz82_0
       try clear hcz82_1
       try clear hcz85_0
       try clear hcz85_1
       try clear hcz90_0
       try clear hcz90_1
       try clear hcz93_0
       try clear hcz93_1
       try clear hfz15_0
       try clear hfz15_1
       try clear hfz17_0
       try clear hfz17_1
       try clear hfz23_0
       try clear hfz23_1
       try clear hfz26_0
       try clear hfz26_1
       try clear hfz31_0
       try clear hfz31_1
       try clear hfz34_0
       try clear hfz34_1
       try clear hfz40_0
       try clear hfz40_1
       try clear hfz48_0
       try clear hfz48_1
       try clear hfz51_0
       try clear hfz51_1
       try clear hfz56_0
       try clear hfz56_1
       try clear hfz59_0
       try clear hfz59_1
       try clear hfz74_0
       try clear hfz74_1
       try clear hfz7_0
       try clear hfz7_1
       try clear hfz82_0
       try clear hfz82_1
       try clear hfz85_0
       try clear hfz85_1
       try clear hfz90_0
       try clear hfz90_1
       try clear hfz93_0
       try clear hfz93_1
       try clear p2
       try clear q1
       obtain ⟨kq, x69_65, rfl, HA, HJ65, HO_198001, HO_203001, HO_209001, BK186, BK197, BK202, BK208, HB⟩ := hcut
       have hl203001_65 := (Kd.R_reads' HO_203001.out).1
       rw [hl203001_65] at HO_203001
       (try simp only [hl203001_65])
       (try simp only [hl203001_65] at BK186)
       (try simp only [hl203001_65] at BK197)
       (try simp only [hl203001_65] at BK202)
       (try simp only [hl203001_65] at BK208)
       (try simp only [hl203001_65] at HO_198001)
       (try simp only [hl203001_65] at HO_209001)
       cases kq with
       | zero => exact absurd HA.out (by simp [laws_FnExactPutBits.j1])
       | succ kj65 =>
        have H := HA.out
        clear HA
        simp only [laws_FnExactPutBits.j1] at H
        by_cases c95 : x69_65 = true
        ·subst c95
         have H1 : (some false) = some r := by rw [if_pos rfl] at H; exact H
         clear H
         have H := H1
         clear H1
         obtain rfl := Option.some.inj H
         go_wp2
         go_ret
         exact ⟨eE, lV4 GE186 GE197 GE202 GE208⟩
        ·replace c95 := Bool.eq_false_iff.mpr c95
         subst c95
         have H1 : ((laws_markBits.f kj65 t203 t204 1).bind fun bt218 => ((laws_heldBits.f kj65 t203 bt218.2 1).bind fun t220 => (if t220 < 0 then (some false) else (if t220 = bt218.1 then ((laws_toBits.f kj65 a0_0 l0_1).bind fun bt221 => ((impl_PutBits.f kj65 bt221.1 bt221.2 a1 a2).bind fun bt225 => ((laws_eqBits.f kj65 bt225.1 bt225.2.1 t192 t193).bind fun t231 => (if t231 = true then (laws_FnExactPutBits.j2 kj65 bt218.1 (bt225.2.2 != t196) t203 bt218.2) else (laws_FnExactPutBits.j2 kj65 bt218.1 true t203 bt218.2))))) else (some false))))) = some r := by rw [if_neg (show ¬ (false = true) by decide)] at H; exact H
         clear H
         have H := H1
         clear H1
         replace H := Option.bind_eq_some_iff.mp H
         obtain ⟨⟨t218, t219⟩, A960, H⟩ := H
         replace H : ((laws_heldBits.f kj65 t203 t219 1).bind fun t220 => (if t220 < 0 then (some false) else (if t220 = t218 then ((laws_toBits.f kj65 a0_0 l0_1).bind fun bt221 => ((impl_PutBits.f kj65 bt221.1 bt221.2 a1 a2).bind fun bt225 => ((laws_eqBits.f kj65 bt225.1 bt225.2.1 t192 t193).bind fun t231 => (if t231 = true then (laws_FnExactPutBits.j2 kj65 t218 (bt225.2.2 != t196) t203 t219) else (laws_FnExactPutBits.j2 kj65 t218 true t203 t219))))) else (some false)))) = some r := H
         have A96 := Aside0.mk A960
         clear A960
         replace H := Option.bind_eq_some_iff.mp H
         obtain ⟨t220, A970, H⟩ := H
         replace H : (if t220 < 0 then (some false) else (if t220 = t218 then ((laws_toBits.f kj65 a0_0 l0_1).bind fun bt221 => ((impl_PutBits.f kj65 bt221.1 bt221.2 a1 a2).bind fun bt225 => ((laws_eqBits.f kj65 bt225.1 bt225.2.1 t192 t193).bind fun t231 => (if t231 = true then (laws_FnExactPutBits.j2 kj65 t218 (bt225.2.2 != t196) t203 t219) else (laws_FnExactPutBits.j2 kj65 t218 true t203 t219))))) else (some false))) = some r := H
         have A97 := Aside0.mk A970
         clear A970
         by_cases c98 : t220 < 0
         ·rw [if_pos c98] at H
          have c98b0 : decide (t220 < 0) = true := decide_eq_true c98
          clear c98
          obtain rfl := Option.some.inj H
          have hnb99 := NB208_186.out
          have hnc99 := NB186_208.out
          have hnb100 := NB208_197.out
          have hnc100 := NB197_208.out
          have hnb101 := NB208_202.out
          have hnc101 := NB202_208.out
          have hcz102_0 := cz BK208 0 (.int .i64 t203)
          have hcz102_1 := cz BK208 1 (.slice Ao41 t204.length co41)
          have hfz102_0 := fz BK208 0
          have hfz102_1 := fz BK208 1
          go_wp2_with (first | ((with_reducible refine gate_callee (f := 9) rfl ?_); refine goesL_ (some 72) rfl rfl Try.func9 (by kernel_rfl) rfl #[.agg #[.int .i64 t203, .slice Ao41 t204.length co41], .int .i64 1] rfl aE ?_; (with_reducible refine (laws_markBits.calls kj65 t203 (fun k_ => some k_ = (.slice Ao41 t204.length co41 : Value).ownBlock) (.slice Ao41 t204.length co41) t204 1 t218 t219 w _ ?side1 ?side2 A96.out).mono ?_); (case side1 => repeat (first | (with_reducible first | exact HB.out | apply below_alloc | apply pw_below_drewN | apply below_drew1 | refine below_set ?_ GE186.out | refine below_set ?_ GE197.out | refine below_set ?_ GE202.out | refine below_set ?_ GE208.out) | exact HB.out)); (case side2 => exact Kd.R_tight rfl HO_209001.out); rintro e w103 ⟨rfl, hy0, hb, hkp⟩; refine ⟨_, rfl, ?_⟩; replace HO_198001 := Aside0.mk (Kd.R_mono (ok' := fun k_ => some k_ ≠ (.slice Ao32 t216.length co32 : Value).ownBlock ∧ some k_ ≠ (.slice Ao41 t204.length co41 : Value).ownBlock) (Kd.R_keptB (HO_198001.out) hkp (fun k_ hk_ hs_ => (hk_.2) hs_)) (fun k_ hk_ => ⟨hk_.1.1, hk_.1.2⟩)); replace HO_203001 := Aside0.mk (Kd.R_mono (ok' := fun k_ => some k_ ≠ (.slice Ao24 t193.length co24 : Value).ownBlock ∧ some k_ ≠ (.slice Ao41 t204.length co41 : Value).ownBlock) (Kd.R_keptB (HO_203001.out) hkp (fun k_ hk_ hs_ => (hk_.2) hs_)) (fun k_ hk_ => ⟨hk_.1.1, hk_.1.2⟩)); replace BK186 := Aside0.mk (blk_kept (bV BK186) hkp (fun hs_ => (fun e_ => (Kd.R_ne HO_209001.out BK186.out (by decide)) e_) hs_)); replace BK197 := Aside0.mk (blk_kept (bV BK197) hkp (fun hs_ => (fun e_ => (Kd.R_ne HO_209001.out BK197.out (by decide)) e_) hs_)); replace BK202 := Aside0.mk (blk_kept (bV BK202) hkp (fun hs_ => (fun e_ => (Kd.R_ne HO_209001.out BK202.out (by decide)) e_) hs_)); replace BK208 := Aside0.mk (blk_kept (bV BK208) hkp (fun hs_ => (fun e_ => (Kd.R_ne HO_209001.out BK208.out (by decide)) e_) hs_)); replace HO_209001 := Aside0.mk (Kd.R_reok rfl hy0 (fun k_ e_ => HO_209001.out.1 k_ e_)); replace HB := Aside0.mk hb; (try clear hb); (try clear hkp); (try clear hg_); (try clear hp_); (try clear hy0); have hcz104_0 := cz BK208 0 (.int .i64 t203); have hcz104_1 := cz BK208 1 (.slice Ao41 t204.length co41); have hfz104_0 := fz BK208 0; have hfz104_1 := fz BK208 1) | ((with_reducible refine gate_callee (f := 10) rfl ?_); refine goesL_ (some 75) rfl rfl Try.func10 (by kernel_rfl) rfl #[.agg #[.int .i64 t203, .slice Ao41 t219.length co41], .int .i64 1] rfl (by (try simp only [List.map_toArray, List.map_cons, List.map_nil]); first | done | (rw [show t219.length = t204.length from (Kd.R_reads' HO_209001.out).1.symm] <;> rfl) | rfl | (simp only [List.length_drop, List.length_take]; rfl)) ?_; (with_reducible refine (laws_heldBits.calls kj65 t203 _ _ t219 1 t220 _ ?side1 ?side2 A97.out).mono ?_); (case side1 => exact cU (Kd.R_reads' HO_209001.out).2.2); (case side2 => rw [show t219.length = t204.length from (Kd.R_reads' HO_209001.out).1.symm]; exact (Kd.R_reads' HO_209001.out).2.1); rintro e w105 ⟨rfl, hb⟩; refine ⟨_, rfl, ?_⟩; replace HO_198001 := Aside0.mk (Kd.R_below (rU HO_198001.out) hb); replace HO_203001 := Aside0.mk (Kd.R_below (rU HO_203001.out) hb); replace HO_209001 := Aside0.mk (Kd.R_below (rU HO_209001.out) hb); replace BK186 := bB (bV BK186) hb; replace BK197 := bB (bV BK197) hb; replace BK202 := bB (bV BK202) hb; replace BK208 := bB (bV BK208) hb; replace HB := bH (lV4 GE186 GE197 GE202 GE208) hb; (try clear hb)))
          go_ret
          exact ⟨eE, lV4 GE186 GE197 GE202 GE208⟩
         ·rw [if_neg c98] at H
          have c98b0 : decide (t220 < 0) = false := decide_eq_false c98
          clear c98
          by_cases c106 : t220 = t218
          ·rw [if_pos c106] at H
           have c106b0 : (t220 == t218) = true := beq_iff_eq.mpr c106
           have c106b1 : (t220 != t218) = false := bne_eq_false_iff_eq.mpr c106
           clear c106
           replace H := Option.bind_eq_some_iff.mp H
           obtain ⟨⟨t221, t222⟩, A1070, H⟩ := H
           replace H : ((impl_PutBits.f kj65 t221 t222 a1 a2).bind fun bt225 => ((laws_eqBits.f kj65 bt225.1 bt225.2.1 t192 t193).bind fun t231 => (if t231 = true then (laws_FnExactPutBits.j2 kj65 t218 (bt225.2.2 != t196) t203 t219) else (laws_FnExactPutBits.j2 kj65 t218 true t203 t219)))) = some r := H
           have A107 := Aside0.mk A1070
           clear A1070
           replace H := Option.bind_eq_some_iff.mp H
           obtain ⟨⟨t225, t226, t229⟩, A1080, H⟩ := H
           replace H : ((laws_eqBits.f kj65 t225 t226 t192 t193).bind fun t231 => (if t231 = true then (laws_FnExactPutBits.j2 kj65 t218 (t229 != t196) t203 t219) else (laws_FnExactPutBits.j2 kj65 t218 true t203 t219))) = some r := H
           have A108 := Aside0.mk A1080
           clear A1080
           have HC109 := Aside0.mk H
           clear H
           have hnb110 := NB208_186.out
           have hnc110 := NB186_208.out
           have hnb111 := NB208_197.out
           have hnc111 := NB197_208.out
           have hnb112 := NB208_202.out
           have hnc112 := NB202_208.out
           have hcz113_0 := cz BK208 0 (.int .i64 t203)
           have hcz113_1 := cz BK208 1 (.slice Ao41 t204.length co41)
           have hfz113_0 := fz BK208 0
           have hfz113_1 := fz BK208 1
           go_upto_region 25 with (first | ((with_reducible refine gate_callee (f := 9) rfl ?_); refine goesL_ (some 72) rfl rfl Try.func9 (by kernel_rfl) rfl #[.agg #[.int .i64 t203, .slice Ao41 t204.length co41], .int .i64 1] rfl aE ?_; (with_reducible refine (laws_markBits.calls kj65 t203 (fun k_ => some k_ = (.slice Ao41 t204.length co41 : Value).ownBlock) (.slice Ao41 t204.length co41) t204 1 t218 t219 w _ ?side1 ?side2 A96.out).mono ?_); (case side1 => repeat (first | (with_reducible first | exact HB.out | apply below_alloc | apply pw_below_drewN | apply below_drew1 | refine below_set ?_ GE186.out | refine below_set ?_ GE197.out | refine below_set ?_ GE202.out | refine below_set ?_ GE208.out) | exact HB.out)); (case side2 => exact Kd.R_tight rfl HO_209001.out); rintro e w114 ⟨rfl, hy0, hb, hkp⟩; refine ⟨_, rfl, ?_⟩; replace HO_198001 := Aside0.mk (Kd.R_mono (ok' := fun k_ => some k_ ≠ (.slice Ao32 t216.length co32 : Value).ownBlock ∧ some k_ ≠ (.slice Ao41 t204.length co41 : Value).ownBlock) (Kd.R_keptB (HO_198001.out) hkp (fun k_ hk_ hs_ => (hk_.2) hs_)) (fun k_ hk_ => ⟨hk_.1.1, hk_.1.2⟩)); replace HO_203001 := Aside0.mk (Kd.R_mono (ok' := fun k_ => some k_ ≠ (.slice Ao24 t193.length co24 : Value).ownBlock ∧ some k_ ≠ (.slice Ao41 t204.length co41 : Value).ownBlock) (Kd.R_keptB (HO_203001.out) hkp (fun k_ hk_ hs_ => (hk_.2) hs_)) (fun k_ hk_ => ⟨hk_.1.1, hk_.1.2⟩)); replace BK186 := Aside0.mk (blk_kept (bV BK186) hkp (fun hs_ => (fun e_ => (Kd.R_ne HO_209001.out BK186.out (by decide)) e_) hs_)); replace BK197 := Aside0.mk (blk_kept (bV BK197) hkp (fun hs_ => (fun e_ => (Kd.R_ne HO_209001.out BK197.out (by decide)) e_) hs_)); replace BK202 := Aside0.mk (blk_kept (bV BK202) hkp (fun hs_ => (fun e_ => (Kd.R_ne HO_209001.out BK202.out (by decide)) e_) hs_)); replace BK208 := Aside0.mk (blk_kept (bV BK208) hkp (fun hs_ => (fun e_ => (Kd.R_ne HO_209001.out BK208.out (by decide)) e_) hs_)); replace HO_209001 := Aside0.mk (Kd.R_reok rfl hy0 (fun k_ e_ => HO_209001.out.1 k_ e_)); replace HB := Aside0.mk hb; (try clear hb); (try clear hkp); (try clear hg_); (try clear hp_); (try clear hy0); have hcz115_0 := cz BK208 0 (.int .i64 t203); have hcz115_1 := cz BK208 1 (.slice Ao41 t204.length co41); have hfz115_0 := fz BK208 0; have hfz115_1 := fz BK208 1) | ((with_reducible refine gate_callee (f := 10) rfl ?_); refine goesL_ (some 75) rfl rfl Try.func10 (by kernel_rfl) rfl #[.agg #[.int .i64 t203, .slice Ao41 t219.length co41], .int .i64 1] rfl (by (try simp only [List.map_toArray, List.map_cons, List.map_nil]); first | done | (rw [show t219.length = t204.length from (Kd.R_reads' HO_209001.out).1.symm] <;> rfl) | rfl | (simp only [List.length_drop, List.length_take]; rfl)) ?_; (with_reducible refine (laws_heldBits.calls kj65 t203 _ _ t219 1 t220 _ ?side1 ?side2 A97.out).mono ?_); (case side1 => exact cU (Kd.R_reads' HO_209001.out).2.2); (case side2 => rw [show t219.length = t204.length from (Kd.R_reads' HO_209001.out).1.symm]; exact (Kd.R_reads' HO_209001.out).2.1); rintro e w116 ⟨rfl, hb⟩; refine ⟨_, rfl, ?_⟩; replace HO_198001 := Aside0.mk (Kd.R_below (rU HO_198001.out) hb); replace HO_203001 := Aside0.mk (Kd.R_below (rU HO_203001.out) hb); replace HO_209001 := Aside0.mk (Kd.R_below (rU HO_209001.out) hb); replace BK186 := bB (bV BK186) hb; replace BK197 := bB (bV BK197) hb; replace BK202 := bB (bV BK202) hb; replace BK208 := bB (bV BK208) hb; replace HB := bH (lV4 GE186 GE197 GE202 GE208) hb; (try clear hb); have hnb117 := NB186_197.out; have hnc117 := NB197_186.out; have hnb118 := NB186_202.out; have hnc118 := NB202_186.out; have hcz119_0 := cz BK186 0 (.int .i64 a0_0); have hcz119_1 := cz BK186 1 (.slice A0_1 l0_1.length c0_1); have hfz119_0 := fz BK186 0; have hfz119_1 := fz BK186 1) | ((with_reducible refine gate_callee (f := 6) rfl ?_); refine goesL_ (some 83) rfl rfl Try.func6 (by kernel_rfl) rfl #[.agg #[.int .i64 a0_0, .slice A0_1 l0_1.length c0_1]] rfl aE ?_; (with_reducible refine (laws_toBits.calls kj65 a0_0 _ _ l0_1 t221 t222 _ ?side1 ?side2 A107.out).mono ?_); (case side1 => exact cU (Kd.C_below HR0_1.out HB.out)); (case side2 => exact HC0_1.out); rintro e w120 ⟨v223, rfl, ho0, hb⟩; refine ⟨_, rfl, ?_⟩; have HO224 := Aside0.mk (Kd.R_lower (Kd.R_new' (Kd.R_new' (Kd.R_new' ho0 (Kd.R_lt (rU HO_198001.out))) (Kd.R_lt (rU HO_203001.out))) (Kd.R_lt (rU HO_209001.out))) (below_size (lV4 GE186 GE197 GE202 GE208))); replace HO_198001 := Aside0.mk (Kd.R_elder' (rU HO_198001.out) (Kd.R_base ho0) hb); replace HO_203001 := Aside0.mk (Kd.R_elder' (rU HO_203001.out) (Kd.R_base ho0) hb); replace HO_209001 := Aside0.mk (Kd.R_elder' (rU HO_209001.out) (Kd.R_base ho0) hb); replace BK186 := bB (bV BK186) hb; replace BK197 := bB (bV BK197) hb; replace BK202 := bB (bV BK202) hb; replace BK208 := bB (bV BK208) hb; replace HB := bH (lV4 GE186 GE197 GE202 GE208) hb; (try clear hb); (try clear ho0); obtain ⟨Ao121, co121, eo121⟩ := Kd.R_slice HO224.out; subst eo121) | ((with_reducible refine gate_callee (f := 7) rfl ?_); refine goesL_ (some 86) rfl rfl Try.func7 (by kernel_rfl) rfl #[.agg #[.int .i64 t221, .slice Ao121 t222.length co121], .int .i64 a1, .int .i64 a2] rfl aE ?_; (with_reducible refine (impl_PutBits.calls kj65 t221 _ _ t222 a1 a2 t225 t226 t229 _ ?side1 ?side2 A108.out).mono ?_); (case side1 => exact cU (Kd.R_reads' HO224.out).2.2); (case side2 => exact (Kd.R_reads' HO224.out).2.1); rintro e w122 ⟨v227, rfl, ho0, hb⟩; refine ⟨_, rfl, ?_⟩; have HO228 := Aside0.mk (Kd.R_lower (Kd.R_new' (Kd.R_new' (Kd.R_new' (Kd.R_new' ho0 (Kd.R_lt (rU HO_198001.out))) (Kd.R_lt (rU HO_203001.out))) (Kd.R_lt (rU HO_209001.out))) (Kd.R_lt (rU HO224.out))) (below_size (lV4 GE186 GE197 GE202 GE208))); replace HO_198001 := Aside0.mk (Kd.R_elder' (rU HO_198001.out) (Kd.R_base ho0) hb); replace HO_203001 := Aside0.mk (Kd.R_elder' (rU HO_203001.out) (Kd.R_base ho0) hb); replace HO_209001 := Aside0.mk (Kd.R_elder' (rU HO_209001.out) (Kd.R_base ho0) hb); replace HO224 := Aside0.mk (Kd.R_elder' (rU HO224.out) (Kd.R_base ho0) hb); replace BK186 := bB (bV BK186) hb; replace BK197 := bB (bV BK197) hb; replace BK202 := bB (bV BK202) hb; replace BK208 := bB (bV BK208) hb; replace HB := bH (lV4 GE186 GE197 GE202 GE208) hb; (try clear hb); (try clear ho0)) | ((with_reducible refine gate_dst (N := 16) rfl ?_); refine box_event rfl (N := 16) rfl (cs := #[.int .i64 0, .slice none 0 0]) (t := 26) sE ?_; intro gb230 hg w123 hbox hb; replace HO_198001 := Aside0.mk (Kd.R_below (rU HO_198001.out) hb); replace HO_203001 := Aside0.mk (Kd.R_below (rU HO_203001.out) hb); replace HO_209001 := Aside0.mk (Kd.R_below (rU HO_209001.out) hb); replace HO224 := Aside0.mk (Kd.R_below (rU HO224.out) hb); replace HO228 := Aside0.mk (Kd.R_below (rU HO228.out) hb); have BK230 := Aside0.mk hbox; have GW230 := gS w hg (lV4 GE186 GE197 GE202 GE208); have GE230 := gS w hg (lV4 GE186 GE197 GE202 GE208); replace HB := bH (lV4 GE186 GE197 GE202 GE208) hb; have NB186_230 := nL hg (bV BK186); have NB230_186 := nG hg (bV BK186); replace BK186 := bB (bV BK186) hb; have NB197_230 := nL hg (bV BK197); have NB230_197 := nG hg (bV BK197); replace BK197 := bB (bV BK197) hb; have NB202_230 := nL hg (bV BK202); have NB230_202 := nG hg (bV BK202); replace BK202 := bB (bV BK202) hb; have NB208_230 := nL hg (bV BK208); have NB230_208 := nG hg (bV BK208); replace BK208 := bB (bV BK208) hb; clear hb hbox hg; have hnb124 := NB230_186.out; have hnc124 := NB186_230.out; have hnb125 := NB230_197.out; have hnc125 := NB197_230.out; have hnb126 := NB230_202.out; have hnc126 := NB202_230.out; have hnb127 := NB230_208.out; have hnc127 := NB208_230.out; have hcz128_0 := cz BK230 0 (.int .i64 0); have hcz128_1 := cz BK230 1 (.slice none 0 0); have hfz128_0 := fz BK230 0; have hfz128_1 := fz BK230 1; obtain ⟨Ao129, co129, eo129⟩ := Kd.R_slice HO228.out; subst eo129) | ((with_reducible refine gate_store (t := 26) (p := 16) rfl ?_); refine store_event (t := 26) (p := 16) (v := ?vo_w130) (w1 := ((w123.setCell ⟨gb230, 0, none⟩ (.int .i64 t225)).setCell ⟨gb230, 1, none⟩ (.slice Ao129 t226.length co129))) ?hg ?ho ?hn ?hr ?_; (case ho => rfl); (case hg => rfl); (case hn => rfl); (case hr => first | (go_simp; done) | (go_simp; rfl) | (have hq0_ := (blk_cell BK230.out 0).trans (show _ = some _ from rfl); have hf0_ := blk_frozen BK230.out 0; have hq1_ := (blk_cell BK230.out 1).trans (show _ = some _ from rfl); have hf1_ := blk_frozen BK230.out 1; first | (go_simp; done) | (go_simp; rfl))); intro w130 hw; replace HO_198001 : Aside0 (Kd.R (Kd.int .u8) 5 w130 w.heap.size (fun k_ => some k_ ≠ (.slice Ao32 t216.length co32 : Value).ownBlock ∧ some k_ ≠ (.slice Ao41 t204.length co41 : Value).ownBlock ∧ some k_ ≠ (.slice Ao121 t222.length co121 : Value).ownBlock ∧ some k_ ≠ (.slice Ao129 t226.length co129 : Value).ownBlock) (.slice Ao24 t193.length co24) t193) := ⟨(by rw [hw]; exact (by (with_reducible repeat (first | apply Kd.R_alloc | apply Kd.R_drewN | apply Kd.R_drew)); exact Kd.R_mono (Kd.R_far (p := ⟨gb230, 1, none⟩) (Kd.R_far (p := ⟨gb230, 0, none⟩) (Kd.R_types HO_198001.out BK230.out (by decide)) (fun _ hk => hk.2) (.int .i64 t225)) (fun _ hk => hk.2) (.slice Ao129 t226.length co129)) (fun _ hk => ⟨hk.1.1.1.1, ⟨hk.1.1.1.2, ⟨hk.1.1.2, hk.1.2⟩⟩⟩)))⟩; replace HO_203001 : Aside0 (Kd.R (Kd.int .u8) 5 w130 w.heap.size (fun k_ => some k_ ≠ (.slice Ao24 t193.length co24 : Value).ownBlock ∧ some k_ ≠ (.slice Ao41 t204.length co41 : Value).ownBlock ∧ some k_ ≠ (.slice Ao121 t222.length co121 : Value).ownBlock ∧ some k_ ≠ (.slice Ao129 t226.length co129 : Value).ownBlock) (.slice Ao32 t216.length co32) t216) := ⟨(by rw [hw]; exact (by (with_reducible repeat (first | apply Kd.R_alloc | apply Kd.R_drewN | apply Kd.R_drew)); exact Kd.R_mono (Kd.R_far (p := ⟨gb230, 1, none⟩) (Kd.R_far (p := ⟨gb230, 0, none⟩) (Kd.R_types HO_203001.out BK230.out (by decide)) (fun _ hk => hk.2) (.int .i64 t225)) (fun _ hk => hk.2) (.slice Ao129 t226.length co129)) (fun _ hk => ⟨hk.1.1.1.1, ⟨hk.1.1.1.2, ⟨hk.1.1.2, hk.1.2⟩⟩⟩)))⟩; replace HO_209001 : Aside0 (Kd.R (Kd.int .u8) 5 w130 w.heap.size (fun k_ => some k_ ≠ (.slice Ao24 t193.length co24 : Value).ownBlock ∧ some k_ ≠ (.slice Ao32 t216.length co32 : Value).ownBlock ∧ some k_ ≠ (.slice Ao121 t222.length co121 : Value).ownBlock ∧ some k_ ≠ (.slice Ao129 t226.length co129 : Value).ownBlock) (.slice Ao41 t204.length co41) t219) := ⟨(by rw [hw]; exact (by (with_reducible repeat (first | apply Kd.R_alloc | apply Kd.R_drewN | apply Kd.R_drew)); exact Kd.R_mono (Kd.R_far (p := ⟨gb230, 1, none⟩) (Kd.R_far (p := ⟨gb230, 0, none⟩) (Kd.R_types HO_209001.out BK230.out (by decide)) (fun _ hk => hk.2) (.int .i64 t225)) (fun _ hk => hk.2) (.slice Ao129 t226.length co129)) (fun _ hk => ⟨hk.1.1.1.1, ⟨hk.1.1.1.2, ⟨hk.1.1.2, hk.1.2⟩⟩⟩)))⟩; replace HO224 : Aside0 (Kd.R (Kd.int .u8) 5 w130 w.heap.size (fun k_ => some k_ ≠ (.slice Ao24 t193.length co24 : Value).ownBlock ∧ some k_ ≠ (.slice Ao32 t216.length co32 : Value).ownBlock ∧ some k_ ≠ (.slice Ao41 t204.length co41 : Value).ownBlock ∧ some k_ ≠ (.slice Ao129 t226.length co129 : Value).ownBlock) (.slice Ao121 t222.length co121) t222) := ⟨(by rw [hw]; exact (by (with_reducible repeat (first | apply Kd.R_alloc | apply Kd.R_drewN | apply Kd.R_drew)); exact Kd.R_mono (Kd.R_far (p := ⟨gb230, 1, none⟩) (Kd.R_far (p := ⟨gb230, 0, none⟩) (Kd.R_types HO224.out BK230.out (by decide)) (fun _ hk => hk.2) (.int .i64 t225)) (fun _ hk => hk.2) (.slice Ao129 t226.length co129)) (fun _ hk => ⟨hk.1.1.1.1.2, ⟨hk.1.1.1.2, ⟨hk.1.1.2, hk.1.2⟩⟩⟩)))⟩; replace HO228 : Aside0 (Kd.R (Kd.int .u8) 5 w130 w.heap.size (fun k_ => some k_ ≠ (.slice Ao24 t193.length co24 : Value).ownBlock ∧ some k_ ≠ (.slice Ao32 t216.length co32 : Value).ownBlock ∧ some k_ ≠ (.slice Ao41 t204.length co41 : Value).ownBlock ∧ some k_ ≠ (.slice Ao121 t222.length co121 : Value).ownBlock) (.slice Ao129 t226.length co129) t226) := ⟨(by rw [hw]; exact (by (with_reducible repeat (first | apply Kd.R_alloc | apply Kd.R_drewN | apply Kd.R_drew)); exact Kd.R_mono (Kd.R_far (p := ⟨gb230, 1, none⟩) (Kd.R_far (p := ⟨gb230, 0, none⟩) (Kd.R_types HO228.out BK230.out (by decide)) (fun _ hk => hk.2) (.int .i64 t225)) (fun _ hk => hk.2) (.slice Ao129 t226.length co129)) (fun _ hk => ⟨hk.1.1.1.1.2, ⟨hk.1.1.1.2, ⟨hk.1.1.2, hk.1.2⟩⟩⟩)))⟩; replace BK186 : Aside0 (w130.heap[gb186]? = some (.cells #[.int .i64 a0_0, .slice A0_1 l0_1.length c0_1] 24 (0, 0))) := ⟨(by rw [hw]; exact (bG NB186_230 BK186))⟩; replace BK197 : Aside0 (w130.heap[gb197]? = some (.cells #[.int .i64 t192, .slice Ao24 t193.length co24] 26 (0, 0))) := ⟨(by rw [hw]; exact (bG NB197_230 BK197))⟩; replace BK202 : Aside0 (w130.heap[gb202]? = some (.cells #[.int .i64 t198, .slice Ao32 t216.length co32] 26 (0, 0))) := ⟨(by rw [hw]; exact (bG NB202_230 BK202))⟩; replace BK208 : Aside0 (w130.heap[gb208]? = some (.cells #[.int .i64 t203, .slice Ao41 t204.length co41] 26 (0, 0))) := ⟨(by rw [hw]; exact (bG NB208_230 BK208))⟩; replace BK230 : Aside0 (w130.heap[gb230]? = some (.cells #[.int .i64 t225, .slice Ao129 t226.length co129] 26 (0, 0))) := ⟨(by rw [hw]; exact (by refine bU ?_; refine blk_put (cs := #[.int .i64 t225, .slice none 0 0]) ?_ 1 _ rfl; refine bU ?_; refine blk_put (cs := #[.int .i64 0, .slice none 0 0]) ?_ 0 _ rfl; refine bU ?_; exact BK230.out))⟩; replace HB : Aside0 (Below w.heap.size w w130) := ⟨(by rw [hw]; exact (lV5 GE186 GE197 GE202 GE208 GE230))⟩; clear hw))
           (try simp only [Act.put, List.setIfInBounds_toArray, List.set_cons_zero, List.set_cons_succ])
           go_cut [97] (fun v97 wc => ∃ (kq : Nat) (x97_108 : Bool), v97 = .bool x97_108 ∧ Aside0 (laws_FnExactPutBits.j2 kq t218 x97_108 t203 t219 = some r) ∧ Aside0 (kq ≤ kj65) ∧ Aside0 (Kd.R (Kd.int .u8) 5 wc w.heap.size (fun k_ => some k_ ≠ ((.slice Ao32 t216.length co32) : Value).ownBlock ∧ some k_ ≠ ((.slice Ao41 t204.length co41) : Value).ownBlock ∧ some k_ ≠ ((.slice Ao129 t226.length co129) : Value).ownBlock) (.slice Ao24 t193.length co24) t193) ∧ Aside0 (Kd.R (Kd.int .u8) 5 wc w.heap.size (fun k_ => some k_ ≠ ((.slice Ao24 t193.length co24) : Value).ownBlock ∧ some k_ ≠ ((.slice Ao41 t204.length co41) : Value).ownBlock ∧ some k_ ≠ ((.slice Ao129 t226.length co129) : Value).ownBlock) (.slice Ao32 t216.length co32) t216) ∧ Aside0 (Kd.R (Kd.int .u8) 5 wc w.heap.size (fun k_ => some k_ ≠ ((.slice Ao24 t193.length co24) : Value).ownBlock ∧ some k_ ≠ ((.slice Ao32 t216.length co32) : Value).ownBlock ∧ some k_ ≠ ((.slice Ao129 t226.length co129) : Value).ownBlock) (.slice Ao41 t204.length co41) t219) ∧ Aside0 (Kd.R (Kd.int .u8) 5 wc w.heap.size (fun k_ => some k_ ≠ ((.slice Ao24 t193.length co24) : Value).ownBlock ∧ some k_ ≠ ((.slice Ao32 t216.length co32) : Value).ownBlock ∧ some k_ ≠ ((.slice Ao41 t204.length co41) : Value).ownBlock) (.slice Ao129 t226.length co129) t226) ∧ Aside0 (wc.heap[gb186]? = some (.cells #[.int .i64 a0_0, (.slice A0_1 l0_1.length c0_1)] 24 (0, 0))) ∧ Aside0 (wc.heap[gb197]? = some (.cells #[.int .i64 t192, (.slice Ao24 t193.length co24)] 26 (0, 0))) ∧ Aside0 (wc.heap[gb202]? = some (.cells #[.int .i64 t198, (.slice Ao32 t216.length co32)] 26 (0, 0))) ∧ Aside0 (wc.heap[gb208]? = some (.cells #[.int .i64 t203, (.slice Ao41 t204.length co41)] 26 (0, 0))) ∧ Aside0 (wc.heap[gb230]? = some (.cells #[.int .i64 t225, (.slice Ao129 t226.length co129)] 26 (0, 0))) ∧ Aside0 (Below w.heap.size w wc))
           case first =>
            have H := HC109.out
            clear HC109
            replace H := Option.bind_eq_some_iff.mp H
            obtain ⟨t231, A1310, H⟩ := H
            replace H : (if t231 = true then (laws_FnExactPutBits.j2 kj65 t218 (t229 != t196) t203 t219) else (laws_FnExactPutBits.j2 kj65 t218 true t203 t219)) = some r := H
            have A131 := Aside0.mk A1310
            clear A1310
            by_cases c132 : t231 = true
            ·subst c132
             have H1 : (laws_FnExactPutBits.j2 kj65 t218 (t229 != t196) t203 t219) = some r := by rw [if_pos rfl] at H; exact H
             clear H
             have H := H1
             clear H1
             have H' := Aside0.mk H
             clear H
             have hnb133 := NB230_186.out
             have hnc133 := NB186_230.out
             have hnb134 := NB230_197.out
             have hnc134 := NB197_230.out
             have hnb135 := NB230_202.out
             have hnc135 := NB202_230.out
             have hnb136 := NB230_208.out
             have hnc136 := NB208_230.out
             have hcz137_0 := cz BK230 0 (.int .i64 t225)
             have hcz137_1 := cz BK230 1 (.slice Ao129 t226.length co129)
             have hfz137_0 := fz BK230 0
             have hfz137_1 := fz BK230 1
             have hnb138 := NB197_186.out
             have hnc138 := NB186_197.out
             have hnb139 := NB197_202.out
             have hnc139 := NB202_197.out
             have hnb140 := NB197_208.out
             have hnc140 := NB208_197.out
             have hcz141_0 := cz BK197 0 (.int .i64 t192)
             have hcz141_1 := cz BK197 1 (.slice Ao24 t193.length co24)
             have hfz141_0 := fz BK197 0
             have hfz141_1 := fz BK197 1
             go_wp2_with (first | ((with_reducible refine gate_callee (f := 8) rfl ?_); refine goesL_ (some 91) rfl rfl Try.func8 (by kernel_rfl) rfl #[.agg #[.int .i64 t225, .slice Ao129 t226.length co129], .agg #[.int .i64 t192, .slice Ao24 t193.length co24]] rfl aE ?_; (with_reducible refine (laws_eqBits.calls kj65 t225 _ _ t226 t192 _ _ t193 true _ ?side1 ?side2 ?side3 ?side4 A131.out).mono ?_); (case side1 => exact cU (Kd.R_reads' HO228.out).2.2); (case side2 => exact (Kd.R_reads' HO228.out).2.1); (case side3 => exact cU (Kd.R_reads' HO_198001.out).2.2); (case side4 => exact (Kd.R_reads' HO_198001.out).2.1); rintro e w142 ⟨rfl, hb⟩; refine ⟨_, rfl, ?_⟩; replace HO_198001 := Aside0.mk (Kd.R_below (rU HO_198001.out) hb); replace HO_203001 := Aside0.mk (Kd.R_below (rU HO_203001.out) hb); replace HO_209001 := Aside0.mk (Kd.R_below (rU HO_209001.out) hb); replace HO224 := Aside0.mk (Kd.R_below (rU HO224.out) hb); replace HO228 := Aside0.mk (Kd.R_below (rU HO228.out) hb); replace BK186 := bB (bV BK186) hb; replace BK197 := bB (bV BK197) hb; replace BK202 := bB (bV BK202) hb; replace BK208 := bB (bV BK208) hb; replace BK230 := bB (bV BK230) hb; replace HB := bH (lV5 GE186 GE197 GE202 GE208 GE230) hb; (try clear hb)))
             go_meet
             case rel => exact ⟨_, ((t229 != t196)), tE, H', ⟨by have := HJ12.out; have := HJ65.out; first | omega | exact Nat.le_refl _⟩, ⟨by (try simp only [hl203001_65]); (with_reducible repeat (first | apply Kd.R_alloc | apply Kd.R_drewN | apply Kd.R_drew)); exact Kd.R_mono HO_198001.out (fun _ hk => ⟨hk.1, ⟨hk.2.1, hk.2.2.2⟩⟩)⟩, ⟨by (try simp only [hl203001_65]); (with_reducible repeat (first | apply Kd.R_alloc | apply Kd.R_drewN | apply Kd.R_drew)); exact Kd.R_mono HO_203001.out (fun _ hk => ⟨hk.1, ⟨hk.2.1, hk.2.2.2⟩⟩)⟩, ⟨by (try simp only [hl203001_65]); (with_reducible repeat (first | apply Kd.R_alloc | apply Kd.R_drewN | apply Kd.R_drew)); exact Kd.R_mono HO_209001.out (fun _ hk => ⟨hk.1, ⟨hk.2.1, hk.2.2.2⟩⟩)⟩, ⟨by (try simp only [hl203001_65]); (with_reducible repeat (first | apply Kd.R_alloc | apply Kd.R_drewN | apply Kd.R_drew)); exact Kd.R_mono HO228.out (fun _ hk => ⟨hk.1, ⟨hk.2.1, hk.2.2.1⟩⟩)⟩, ⟨by (try simp only [hl203001_65]); refine bU ?_; exact BK186.out⟩, ⟨by (try simp only [hl203001_65]); refine bU ?_; exact BK197.out⟩, ⟨by (try simp only [hl203001_65]); refine bU ?_; exact BK202.out⟩, ⟨by (try simp only [hl203001_65]); refine bU ?_; exact BK208.out⟩, ⟨by (try simp only [hl203001_65]); refine bU ?_; exact BK230.out⟩, ⟨by repeat (first | (with_reducible first | exact HB.out | apply below_alloc | apply pw_below_drewN | apply below_drew1 | refine below_set ?_ GE186.out | refine below_set ?_ GE197.out | refine below_set ?_ GE202.out | refine below_set ?_ GE208.out | refine below_set ?_ GE230.out) | exact HB.out)⟩⟩
            ·replace c132 := Bool.eq_false_iff.mpr c132
             subst c132
             have H1 : (laws_FnExactPutBits.j2 kj65 t218 true t203 t219) = some r := by rw [if_neg (show ¬ (false = true) by decide)] at H; exact H
             clear H
             have H := H1
             clear H1
             have H' := Aside0.mk H
             clear H
             have hnb143 := NB230_186.out
             have hnc143 := NB186_230.out
             have hnb144 := NB230_197.out
             have hnc144 := NB197_230.out
             have hnb145 := NB230_202.out
             have hnc145 := NB202_230.out
             have hnb146 := NB230_208.out
             have hnc146 := NB208_230.out
             have hcz147_0 := cz BK230 0 (.int .i64 t225)
             have hcz147_1 := cz BK230 1 (.slice Ao129 t226.length co129)
             have hfz147_0 := fz BK230 0
             have hfz147_1 := fz BK230 1
             have hnb148 := NB197_186.out
             have hnc148 := NB186_197.out
             have hnb149 := NB197_202.out
             have hnc149 := NB202_197.out
             have hnb150 := NB197_208.out
             have hnc150 := NB208_197.out
             have hcz151_0 := cz BK197 0 (.int .i64 t192)
             have hcz151_1 := cz BK197 1 (.slice Ao24 t193.length co24)
             have hfz151_0 := fz BK197 0
             have hfz151_1 := fz BK197 1
             go_wp2_with (first | ((with_reducible refine gate_callee (f := 8) rfl ?_); refine goesL_ (some 91) rfl rfl Try.func8 (by kernel_rfl) rfl #[.agg #[.int .i64 t225, .slice Ao129 t226.length co129], .agg #[.int .i64 t192, .slice Ao24 t193.length co24]] rfl aE ?_; (with_reducible refine (laws_eqBits.calls kj65 t225 _ _ t226 t192 _ _ t193 false _ ?side1 ?side2 ?side3 ?side4 A131.out).mono ?_); (case side1 => exact cU (Kd.R_reads' HO228.out).2.2); (case side2 => exact (Kd.R_reads' HO228.out).2.1); (case side3 => exact cU (Kd.R_reads' HO_198001.out).2.2); (case side4 => exact (Kd.R_reads' HO_198001.out).2.1); rintro e w152 ⟨rfl, hb⟩; refine ⟨_, rfl, ?_⟩; replace HO_198001 := Aside0.mk (Kd.R_below (rU HO_198001.out) hb); replace HO_203001 := Aside0.mk (Kd.R_below (rU HO_203001.out) hb); replace HO_209001 := Aside0.mk (Kd.R_below (rU HO_209001.out) hb); replace HO224 := Aside0.mk (Kd.R_below (rU HO224.out) hb); replace HO228 := Aside0.mk (Kd.R_below (rU HO228.out) hb); replace BK186 := bB (bV BK186) hb; replace BK197 := bB (bV BK197) hb; replace BK202 := bB (bV BK202) hb; replace BK208 := bB (bV BK208) hb; replace BK230 := bB (bV BK230) hb; replace HB := bH (lV5 GE186 GE197 GE202 GE208 GE230) hb; (try clear hb)))
             go_meet
             case rel => exact ⟨_, (true), tE, H', ⟨by have := HJ12.out; have := HJ65.out; first | omega | exact Nat.le_refl _⟩, ⟨by (try simp only [hl203001_65]); (with_reducible repeat (first | apply Kd.R_alloc | apply Kd.R_drewN | apply Kd.R_drew)); exact Kd.R_mono HO_198001.out (fun _ hk => ⟨hk.1, ⟨hk.2.1, hk.2.2.2⟩⟩)⟩, ⟨by (try simp only [hl203001_65]); (with_reducible repeat (first | apply Kd.R_alloc | apply Kd.R_drewN | apply Kd.R_drew)); exact Kd.R_mono HO_203001.out (fun _ hk => ⟨hk.1, ⟨hk.2.1, hk.2.2.2⟩⟩)⟩, ⟨by (try simp only [hl203001_65]); (with_reducible repeat (first | apply Kd.R_alloc | apply Kd.R_drewN | apply Kd.R_drew)); exact Kd.R_mono HO_209001.out (fun _ hk => ⟨hk.1, ⟨hk.2.1, hk.2.2.2⟩⟩)⟩, ⟨by (try simp only [hl203001_65]); (with_reducible repeat (first | apply Kd.R_alloc | apply Kd.R_drewN | apply Kd.R_drew)); exact Kd.R_mono HO228.out (fun _ hk => ⟨hk.1, ⟨hk.2.1, hk.2.2.1⟩⟩)⟩, ⟨by (try simp only [hl203001_65]); refine bU ?_; exact BK186.out⟩, ⟨by (try simp only [hl203001_65]); refine bU ?_; exact BK197.out⟩, ⟨by (try simp only [hl203001_65]); refine bU ?_; exact BK202.out⟩, ⟨by (try simp only [hl203001_65]); refine bU ?_; exact BK208.out⟩, ⟨by (try simp only [hl203001_65]); refine bU ?_; exact BK230.out⟩, ⟨by repeat (first | (with_reducible first | exact HB.out | apply below_alloc | apply pw_below_drewN | apply below_drew1 | refine below_set ?_ GE186.out | refine below_set ?_ GE197.out | refine below_set ?_ GE202.out | refine below_set ?_ GE208.out | refine below_set ?_ GE230.out) | exact HB.out)⟩⟩
           case rest =>
            clear HC109
            try clear c1
            try clear q1
            try clear c2
            try clear p2
            try clear c3
            try clear c4
            try clear c5
            try clear c5b0
            try clear c6
            try clear c7
            try clear c8
            try clear c9
            try clear c10
            try clear c11
            try clear c12
            try clear c13
            try clear c14
            try clear c15
            try clear c22
            try clear c29
            try clear c30
            try clear c37
            try clear c38
            try clear c39
            try clear c44
            try clear c45
            try clear c46
            try clear c47
            try clear c49
            try clear c50
            try clear c53
            try clear c54
            try clear c55
            try clear c57
            try clear c58
            try clear c61
            try clear c64
            try clear c71
            try clear c72
            try clear c73
            try clear c76
            try clear c76b0
            try clear c76b2
            try clear c78
            try clear c79
            try clear c80
            try clear c81
            try clear c83
            try clear c84
            try clear c87
            try clear c88
            try clear c89
            try clear c91
            try clear c92
            try clear c95
            try clear c98
            try clear c98b0
            try clear c99
            try clear c100
            try clear c101
            try clear c106
            try clear c106b0
            try clear c106b1
            try clear c110
            try clear c111
            try clear c112
            try clear c117
            try clear c118
            try clear c124
            try clear c125
            try clear c126
            try clear c127
            try clear c132
            try clear c133
            try clear c134
            try clear c135
            try clear c136
            try clear c138
            try clear c139
            try clear c140
            try clear c143
            try clear c144
            try clear c145
            try clear c146
            try clear c148
            try clear c149
            try clear c150
            try clear hcz102_0
            try clear hcz102_1
            try clear hcz104_0
            try clear hcz104_1
            try clear hcz113_0
            try clear hcz113_1
            try clear hcz115_0
            try clear hcz115_1
            try clear hcz119_0
            try clear hcz119_1
            try clear hcz128_0
            try clear hcz128_1
            try clear hcz137_0
            try clear hcz137_1
            try clear hcz141_0
            try clear hcz141_1
            try clear hcz147_0
            try clear hcz147_1
            try clear hcz151_0
            try clear hcz151_1
            try clear hcz15_0
            try clear hcz15_1
            try clear hcz17_0
            try clear hcz17_1
            try clear hcz23_0
            try clear hcz23_1
            try clear hcz26_0
            try clear hcz26_1
            try clear hcz31_0
            try clear hcz31_1
            try clear hcz34_0
            try clear hcz34_1
            try clear hcz40_0
            try clear hcz40_1
            try clear hcz48_0
            try clear hcz48_1
            try clear hcz51_0
            try clear hcz51_1
            try clear hcz56_0
            try clear hcz56_1
            try clear hcz59_0
            try clear hcz59_1
            try clear hcz74_0
            try clear hcz74_1
            try clear hcz7_0
            try clear hcz7_1
            try clear hcz82_0
            try clear hcz82_1
            try clear hcz85_0
            try clear hcz85_1
            try clear hcz90_0
            try clear hcz90_1
            try clear hcz93_0
            try clear hcz93_1
            try clear hfz102_0
            try clear hfz102_1
            try clear hfz104_0
            try clear hfz104_1
            try clear hfz113_0
            try clear hfz113_1
            try clear hfz115_0
            try clear hfz115_1
            try clear hfz119_0
            try clear hfz119_1
            try clear hfz128_0
            try clear hfz128_1
            try clear hfz137_0
            try clear hfz137_1
            try clear hfz141_0
            try clear hfz141_1
            try clear hfz147_0
            try clear hfz147_1
            try clear hfz151_0
            try clear hfz151_1
            try clear hfz15_0
            try clear hfz15_1
            try clear hfz17_0
            try clear hfz17_1
            try clear hfz23_0
            try clear hfz23_1
            try clear hfz26_0
            try clear hfz26_1
            try clear hfz31_0
            try clear hfz31_1
            try clear hfz34_0
            try clear hfz34_1
            try clear hfz40_0
            try clear hfz40_1
            try clear hfz48_0
            try clear hfz48_1
            try clear hfz51_0
            try clear hfz51_1
            try clear hfz56_0
            try clear hfz56_1
            try clear hfz59_0
            try clear hfz59_1
            try clear hfz74_0
            try clear hfz74_1
            try clear hfz7_0
            try clear hfz7_1
            try clear hfz82_0
            try clear hfz82_1
            try clear hfz85_0
            try clear hfz85_1
            try clear hfz90_0
            try clear hfz90_1
            try clear hfz93_0
            try clear hfz93_1
            try clear p2
            try clear q1
            obtain ⟨kq, x97_108, rfl, HA, HJ108, HO_198001, HO_203001, HO_209001, HO_231001, BK186, BK197, BK202, BK208, BK230, HB⟩ := hcut
            have hl209001_108 := (Kd.R_reads' HO_209001.out).1
            rw [hl209001_108] at HO_209001
            (try simp only [hl209001_108])
            (try simp only [hl209001_108] at BK186)
            (try simp only [hl209001_108] at BK197)
            (try simp only [hl209001_108] at BK202)
            (try simp only [hl209001_108] at BK208)
            (try simp only [hl209001_108] at BK230)
            (try simp only [hl209001_108] at HO_198001)
            (try simp only [hl209001_108] at HO_203001)
            (try simp only [hl209001_108] at HO_231001)
            cases kq with
            | zero => exact absurd HA.out (by simp [laws_FnExactPutBits.j2])
            | succ kj108 =>
             have H := HA.out
             clear HA
             simp only [laws_FnExactPutBits.j2] at H
             by_cases c153 : x97_108 = true
             ·subst c153
              have H1 : (some false) = some r := by rw [if_pos rfl] at H; exact H
              clear H
              have H := H1
              clear H1
              obtain rfl := Option.some.inj H
              go_wp2
              go_ret
              exact ⟨eE, lV5 GE186 GE197 GE202 GE208 GE230⟩
             ·replace c153 := Bool.eq_false_iff.mpr c153
              subst c153
              have H1 : ((laws_heldBits.f kj108 t203 t219 1).bind fun t232 => (if t232 < 0 then (some false) else (if t232 = t218 then (some true) else (some false)))) = some r := by rw [if_neg (show ¬ (false = true) by decide)] at H; exact H
              clear H
              have H := H1
              clear H1
              replace H := Option.bind_eq_some_iff.mp H
              obtain ⟨t232, A1540, H⟩ := H
              replace H : (if t232 < 0 then (some false) else (if t232 = t218 then (some true) else (some false))) = some r := H
              have A154 := Aside0.mk A1540
              clear A1540
              by_cases c155 : t232 < 0
              ·rw [if_pos c155] at H
               have c155b0 : decide (t232 < 0) = true := decide_eq_true c155
               clear c155
               obtain rfl := Option.some.inj H
               have hnb156 := NB208_186.out
               have hnc156 := NB186_208.out
               have hnb157 := NB208_197.out
               have hnc157 := NB197_208.out
               have hnb158 := NB208_202.out
               have hnc158 := NB202_208.out
               have hnb159 := NB208_230.out
               have hnc159 := NB230_208.out
               have hcz160_0 := cz BK208 0 (.int .i64 t203)
               have hcz160_1 := cz BK208 1 (.slice Ao41 t219.length co41)
               have hfz160_0 := fz BK208 0
               have hfz160_1 := fz BK208 1
               go_wp2_with (first | ((with_reducible refine gate_callee (f := 10) rfl ?_); refine goesL_ (some 100) rfl rfl Try.func10 (by kernel_rfl) rfl #[.agg #[.int .i64 t203, .slice Ao41 t219.length co41], .int .i64 1] rfl aE ?_; (with_reducible refine (laws_heldBits.calls kj108 t203 _ _ t219 1 t232 _ ?side1 ?side2 A154.out).mono ?_); (case side1 => exact cU (Kd.R_reads' HO_209001.out).2.2); (case side2 => exact (Kd.R_reads' HO_209001.out).2.1); rintro e w161 ⟨rfl, hb⟩; refine ⟨_, rfl, ?_⟩; replace HO_198001 := Aside0.mk (Kd.R_below (rU HO_198001.out) hb); replace HO_203001 := Aside0.mk (Kd.R_below (rU HO_203001.out) hb); replace HO_209001 := Aside0.mk (Kd.R_below (rU HO_209001.out) hb); replace HO_231001 := Aside0.mk (Kd.R_below (rU HO_231001.out) hb); replace BK186 := bB (bV BK186) hb; replace BK197 := bB (bV BK197) hb; replace BK202 := bB (bV BK202) hb; replace BK208 := bB (bV BK208) hb; replace BK230 := bB (bV BK230) hb; replace HB := bH (lV5 GE186 GE197 GE202 GE208 GE230) hb; (try clear hb)))
               go_ret
               exact ⟨eE, lV5 GE186 GE197 GE202 GE208 GE230⟩
              ·rw [if_neg c155] at H
               have c155b0 : decide (t232 < 0) = false := decide_eq_false c155
               clear c155
               by_cases c162 : t232 = t218
               ·rw [if_pos c162] at H
                have c162b0 : (t232 == t218) = true := beq_iff_eq.mpr c162
                have c162b1 : (t232 != t218) = false := bne_eq_false_iff_eq.mpr c162
                clear c162
                obtain rfl := Option.some.inj H
                have hnb163 := NB208_186.out
                have hnc163 := NB186_208.out
                have hnb164 := NB208_197.out
                have hnc164 := NB197_208.out
                have hnb165 := NB208_202.out
                have hnc165 := NB202_208.out
                have hnb166 := NB208_230.out
                have hnc166 := NB230_208.out
                have hcz167_0 := cz BK208 0 (.int .i64 t203)
                have hcz167_1 := cz BK208 1 (.slice Ao41 t219.length co41)
                have hfz167_0 := fz BK208 0
                have hfz167_1 := fz BK208 1
                go_wp2_with (first | ((with_reducible refine gate_callee (f := 10) rfl ?_); refine goesL_ (some 100) rfl rfl Try.func10 (by kernel_rfl) rfl #[.agg #[.int .i64 t203, .slice Ao41 t219.length co41], .int .i64 1] rfl aE ?_; (with_reducible refine (laws_heldBits.calls kj108 t203 _ _ t219 1 t232 _ ?side1 ?side2 A154.out).mono ?_); (case side1 => exact cU (Kd.R_reads' HO_209001.out).2.2); (case side2 => exact (Kd.R_reads' HO_209001.out).2.1); rintro e w168 ⟨rfl, hb⟩; refine ⟨_, rfl, ?_⟩; replace HO_198001 := Aside0.mk (Kd.R_below (rU HO_198001.out) hb); replace HO_203001 := Aside0.mk (Kd.R_below (rU HO_203001.out) hb); replace HO_209001 := Aside0.mk (Kd.R_below (rU HO_209001.out) hb); replace HO_231001 := Aside0.mk (Kd.R_below (rU HO_231001.out) hb); replace BK186 := bB (bV BK186) hb; replace BK197 := bB (bV BK197) hb; replace BK202 := bB (bV BK202) hb; replace BK208 := bB (bV BK208) hb; replace BK230 := bB (bV BK230) hb; replace HB := bH (lV5 GE186 GE197 GE202 GE208 GE230) hb; (try clear hb)))
                go_ret
                exact ⟨eE, lV5 GE186 GE197 GE202 GE208 GE230⟩
               ·rw [if_neg c162] at H
                have c162b0 : (t232 == t218) = false := beq_eq_false_iff_ne.mpr c162
                have c162b1 : (t232 != t218) = true := bne_iff_ne.mpr c162
                obtain rfl := Option.some.inj H
                have hnb169 := NB208_186.out
                have hnc169 := NB186_208.out
                have hnb170 := NB208_197.out
                have hnc170 := NB197_208.out
                have hnb171 := NB208_202.out
                have hnc171 := NB202_208.out
                have hnb172 := NB208_230.out
                have hnc172 := NB230_208.out
                have hcz173_0 := cz BK208 0 (.int .i64 t203)
                have hcz173_1 := cz BK208 1 (.slice Ao41 t219.length co41)
                have hfz173_0 := fz BK208 0
                have hfz173_1 := fz BK208 1
                go_wp2_with (first | ((with_reducible refine gate_callee (f := 10) rfl ?_); refine goesL_ (some 100) rfl rfl Try.func10 (by kernel_rfl) rfl #[.agg #[.int .i64 t203, .slice Ao41 t219.length co41], .int .i64 1] rfl aE ?_; (with_reducible refine (laws_heldBits.calls kj108 t203 _ _ t219 1 t232 _ ?side1 ?side2 A154.out).mono ?_); (case side1 => exact cU (Kd.R_reads' HO_209001.out).2.2); (case side2 => exact (Kd.R_reads' HO_209001.out).2.1); rintro e w174 ⟨rfl, hb⟩; refine ⟨_, rfl, ?_⟩; replace HO_198001 := Aside0.mk (Kd.R_below (rU HO_198001.out) hb); replace HO_203001 := Aside0.mk (Kd.R_below (rU HO_203001.out) hb); replace HO_209001 := Aside0.mk (Kd.R_below (rU HO_209001.out) hb); replace HO_231001 := Aside0.mk (Kd.R_below (rU HO_231001.out) hb); replace BK186 := bB (bV BK186) hb; replace BK197 := bB (bV BK197) hb; replace BK202 := bB (bV BK202) hb; replace BK208 := bB (bV BK208) hb; replace BK230 := bB (bV BK230) hb; replace HB := bH (lV5 GE186 GE197 GE202 GE208 GE230) hb; (try clear hb)))
                go_ret
                exact ⟨eE, lV5 GE186 GE197 GE202 GE208 GE230⟩
          ·rw [if_neg c106] at H
           have c106b0 : (t220 == t218) = false := beq_eq_false_iff_ne.mpr c106
           have c106b1 : (t220 != t218) = true := bne_iff_ne.mpr c106
           obtain rfl := Option.some.inj H
           have hnb175 := NB208_186.out
           have hnc175 := NB186_208.out
           have hnb176 := NB208_197.out
           have hnc176 := NB197_208.out
           have hnb177 := NB208_202.out
           have hnc177 := NB202_208.out
           have hcz178_0 := cz BK208 0 (.int .i64 t203)
           have hcz178_1 := cz BK208 1 (.slice Ao41 t204.length co41)
           have hfz178_0 := fz BK208 0
           have hfz178_1 := fz BK208 1
           go_wp2_with (first | ((with_reducible refine gate_callee (f := 9) rfl ?_); refine goesL_ (some 72) rfl rfl Try.func9 (by kernel_rfl) rfl #[.agg #[.int .i64 t203, .slice Ao41 t204.length co41], .int .i64 1] rfl aE ?_; (with_reducible refine (laws_markBits.calls kj65 t203 (fun k_ => some k_ = (.slice Ao41 t204.length co41 : Value).ownBlock) (.slice Ao41 t204.length co41) t204 1 t218 t219 w _ ?side1 ?side2 A96.out).mono ?_); (case side1 => repeat (first | (with_reducible first | exact HB.out | apply below_alloc | apply pw_below_drewN | apply below_drew1 | refine below_set ?_ GE186.out | refine below_set ?_ GE197.out | refine below_set ?_ GE202.out | refine below_set ?_ GE208.out) | exact HB.out)); (case side2 => exact Kd.R_tight rfl HO_209001.out); rintro e w179 ⟨rfl, hy0, hb, hkp⟩; refine ⟨_, rfl, ?_⟩; replace HO_198001 := Aside0.mk (Kd.R_mono (ok' := fun k_ => some k_ ≠ (.slice Ao32 t216.length co32 : Value).ownBlock ∧ some k_ ≠ (.slice Ao41 t204.length co41 : Value).ownBlock) (Kd.R_keptB (HO_198001.out) hkp (fun k_ hk_ hs_ => (hk_.2) hs_)) (fun k_ hk_ => ⟨hk_.1.1, hk_.1.2⟩)); replace HO_203001 := Aside0.mk (Kd.R_mono (ok' := fun k_ => some k_ ≠ (.slice Ao24 t193.length co24 : Value).ownBlock ∧ some k_ ≠ (.slice Ao41 t204.length co41 : Value).ownBlock) (Kd.R_keptB (HO_203001.out) hkp (fun k_ hk_ hs_ => (hk_.2) hs_)) (fun k_ hk_ => ⟨hk_.1.1, hk_.1.2⟩)); replace BK186 := Aside0.mk (blk_kept (bV BK186) hkp (fun hs_ => (fun e_ => (Kd.R_ne HO_209001.out BK186.out (by decide)) e_) hs_)); replace BK197 := Aside0.mk (blk_kept (bV BK197) hkp (fun hs_ => (fun e_ => (Kd.R_ne HO_209001.out BK197.out (by decide)) e_) hs_)); replace BK202 := Aside0.mk (blk_kept (bV BK202) hkp (fun hs_ => (fun e_ => (Kd.R_ne HO_209001.out BK202.out (by decide)) e_) hs_)); replace BK208 := Aside0.mk (blk_kept (bV BK208) hkp (fun hs_ => (fun e_ => (Kd.R_ne HO_209001.out BK208.out (by decide)) e_) hs_)); replace HO_209001 := Aside0.mk (Kd.R_reok rfl hy0 (fun k_ e_ => HO_209001.out.1 k_ e_)); replace HB := Aside0.mk hb; (try clear hb); (try clear hkp); (try clear hg_); (try clear hp_); (try clear hy0); have hcz180_0 := cz BK208 0 (.int .i64 t203); have hcz180_1 := cz BK208 1 (.slice Ao41 t204.length co41); have hfz180_0 := fz BK208 0; have hfz180_1 := fz BK208 1) | ((with_reducible refine gate_callee (f := 10) rfl ?_); refine goesL_ (some 75) rfl rfl Try.func10 (by kernel_rfl) rfl #[.agg #[.int .i64 t203, .slice Ao41 t219.length co41], .int .i64 1] rfl (by (try simp only [List.map_toArray, List.map_cons, List.map_nil]); first | done | (rw [show t219.length = t204.length from (Kd.R_reads' HO_209001.out).1.symm] <;> rfl) | rfl | (simp only [List.length_drop, List.length_take]; rfl)) ?_; (with_reducible refine (laws_heldBits.calls kj65 t203 _ _ t219 1 t220 _ ?side1 ?side2 A97.out).mono ?_); (case side1 => exact cU (Kd.R_reads' HO_209001.out).2.2); (case side2 => rw [show t219.length = t204.length from (Kd.R_reads' HO_209001.out).1.symm]; exact (Kd.R_reads' HO_209001.out).2.1); rintro e w181 ⟨rfl, hb⟩; refine ⟨_, rfl, ?_⟩; replace HO_198001 := Aside0.mk (Kd.R_below (rU HO_198001.out) hb); replace HO_203001 := Aside0.mk (Kd.R_below (rU HO_203001.out) hb); replace HO_209001 := Aside0.mk (Kd.R_below (rU HO_209001.out) hb); replace BK186 := bB (bV BK186) hb; replace BK197 := bB (bV BK197) hb; replace BK202 := bB (bV BK202) hb; replace BK208 := bB (bV BK208) hb; replace HB := bH (lV4 GE186 GE197 GE202 GE208) hb; (try clear hb)))
           go_ret
           exact ⟨eE, lV4 GE186 GE197 GE202 GE208⟩
     ·replace c64 := Bool.eq_false_iff.mpr c64
      subst c64
      have H1 : (some false) = some r := by rw [if_neg (show ¬ (false = true) by decide)] at H; exact H
      clear H
      have H := H1
      clear H1
      obtain rfl := Option.some.inj H
      try go_wp2
      replace HO_198001 := Aside0.mk (Kd.R_drew HO_198001.out)
      replace HO_203001 := Aside0.mk (Kd.R_drew HO_203001.out)
      replace HO_209001 := Aside0.mk (Kd.R_drew HO_209001.out)
      replace BK186 := Aside0.mk (blk_drew BK186.out)
      replace BK197 := Aside0.mk (blk_drew BK197.out)
      replace BK202 := Aside0.mk (blk_drew BK202.out)
      replace BK208 := Aside0.mk (blk_drew BK208.out)
      replace HB := Aside0.mk (below_drew1 HB.out)
      refine start_ (n := 5) (S := fun w' => w'.cell? ⟨gb202, 0, none⟩ = some (.int .i64 t198) ∧ w'.cell? ⟨gb202, 1, none⟩ = some (.slice Ao32 t199.length co32) ∧ w'.cell? ⟨gb186, 0, none⟩ = some (.int .i64 a0_0) ∧ w'.cell? ⟨gb186, 1, none⟩ = some (.slice A0_1 l0_1.length c0_1)) (ds := []) #[false, false, false, false, false] (by kernel_rfl) rfl rfl ⟨cz BK202 0 _, cz BK202 1 _, cz BK186 0 _, cz BK186 1 _⟩ (fun hHeld => ?_)
      generalize wc.drew = w182 at HO_198001 HO_203001 HO_209001 BK186 BK197 BK202 BK208 HB hHeld ⊢
      refine take_ (i := 0) (N := some 49) (v := ?_) (a' := ?_) (bz 5 1) rfl rfl (by kernel_rfl) (fun _ _ _ h => h) (Or.inl ⟨by rfl, ?_⟩) hHeld ?_ ?_
      rotate_left
      ·rintro w' ⟨s0, s1, s2, s3⟩
       go_simp
       with_reducible rfl
      rotate_left
      ·simp only [Act.put, List.setIfInBounds_toArray, List.set_cons_zero, List.set_cons_succ, i64_w, i32_w]
       rfl
      refine take_ (i := 1) (N := some 50) (v := ?_) (a' := ?_) (bz 5 3) rfl rfl (by kernel_rfl) (fun _ _ _ h => h) (Or.inl ⟨by rfl, ?_⟩) hHeld ?_ ?_
      rotate_left
      ·rintro w' ⟨s0, s1, s2, s3⟩
       go_simp
       with_reducible rfl
      rotate_left
      ·simp only [Act.put, List.setIfInBounds_toArray, List.set_cons_zero, List.set_cons_succ, i64_w, i32_w]
       rfl
      refine one_ (i := 2) (N := some 51) (bz 5 7) rfl rfl (by kernel_rfl) (by decide) (fun K hK => ?_)
      refine goes_ Try.func6 (by kernel_rfl) rfl #[.agg #[.int .i64 a0_0, .slice A0_1 l0_1.length c0_1]] (by rfl) rfl rfl aE ?_
      with_reducible refine (laws_toBits.calls kj12 a0_0 _ _ l0_1 t210 t211 _ ?side1 ?side2 A62.out).mono ?_
      (case side1 => exact cU (Kd.C_below HR0_1.out HB.out))
      (case side2 => exact HC0_1.out)
      rintro e w183 ⟨v212, rfl, ho0, hb⟩
      refine ⟨_, rfl, ?_⟩
      have HO213 := Aside0.mk (Kd.R_lower (Kd.R_new' (Kd.R_new' (Kd.R_new' ho0 (Kd.R_lt (rU HO_198001.out))) (Kd.R_lt (rU HO_203001.out))) (Kd.R_lt (rU HO_209001.out))) (below_size (lV4 GE186 GE197 GE202 GE208)))
      replace HO_198001 := Aside0.mk (Kd.R_elder' (rU HO_198001.out) (Kd.R_base ho0) hb)
      replace HO_203001 := Aside0.mk (Kd.R_elder' (rU HO_203001.out) (Kd.R_base ho0) hb)
      replace HO_209001 := Aside0.mk (Kd.R_elder' (rU HO_209001.out) (Kd.R_base ho0) hb)
      replace BK186 := bB (bV BK186) hb
      replace BK197 := bB (bV BK197) hb
      replace BK202 := bB (bV BK202) hb
      replace BK208 := bB (bV BK208) hb
      replace HB := bH (lV4 GE186 GE197 GE202 GE208) hb
      (try clear hb)
      (try clear hb2)
      (try clear hk)
      (try clear hi)
      (try clear ho0)
      obtain ⟨Ao184, co184, eo184⟩ := Kd.R_slice HO213.out
      (first | subst eo184 | (injection eo184 with f1_ f2_ f3_; have f4_ := f1_.symm; have f5_ := f3_.symm; clear f1_ f2_ f3_; subst f4_; subst f5_))
      refine hK.out _ _ ⟨cz BK202 0 _, cz BK202 1 _, cz BK186 0 _, cz BK186 1 _⟩ (fun hHeld => ?_)
      clear hK K
      refine norm_ (a' := ?_) ?_ ?_
      rotate_left
      ·show Act.put _ (some 51) _ = _
       simp only [Act.put, List.setIfInBounds_toArray, List.set_cons_zero, List.set_cons_succ, i64_w, i32_w]
       rfl
      refine one_ (i := 3) (N := some 52) (bz 5 15) rfl rfl (by kernel_rfl) (by decide) (fun K hK => ?_)
      refine goes_ Try.func8 (by kernel_rfl) rfl #[.agg #[.int .i64 t198, .slice Ao32 t199.length co32], .agg #[.int .i64 t210, .slice Ao184 t211.length co184]] (by rfl) rfl rfl aE ?_
      with_reducible refine (laws_eqBits.calls kj12 t198 _ _ t199 t210 _ _ t211 false _ ?side1 ?side2 ?side3 ?side4 A63.out).mono ?_
      (case side1 => exact cU (Kd.R_reads' HO_203001.out).2.2)
      (case side2 => exact (Kd.R_reads' HO_203001.out).2.1)
      (case side3 => exact cU (Kd.R_reads' HO213.out).2.2)
      (case side4 => exact (Kd.R_reads' HO213.out).2.1)
      rintro e w185 ⟨rfl, hb⟩
      refine ⟨_, rfl, ?_⟩
      replace HO_198001 := Aside0.mk (Kd.R_below (rU HO_198001.out) hb)
      replace HO_203001 := Aside0.mk (Kd.R_below (rU HO_203001.out) hb)
      replace HO_209001 := Aside0.mk (Kd.R_below (rU HO_209001.out) hb)
      replace HO213 := Aside0.mk (Kd.R_below (rU HO213.out) hb)
      replace BK186 := bB (bV BK186) hb
      replace BK197 := bB (bV BK197) hb
      replace BK202 := bB (bV BK202) hb
      replace BK208 := bB (bV BK208) hb
      replace HB := bH (lV4 GE186 GE197 GE202 GE208) hb
      (try clear hb)
      (try clear hb2)
      (try clear hk)
      (try clear hi)
      refine hK.out _ _ ⟨cz BK202 0 _, cz BK202 1 _, cz BK186 0 _, cz BK186 1 _⟩ (fun hHeld => ?_)
      clear hK K
      refine norm_ (a' := ?_) ?_ ?_
      rotate_left
      ·show Act.put _ (some 52) _ = _
       simp only [Act.put, List.setIfInBounds_toArray, List.set_cons_zero, List.set_cons_succ, i64_w, i32_w]
       rfl
      refine pure_ (i := 4) (N := some 53) (v := ?_) (a' := ?_) (bz 5 31) rfl rfl (by kernel_rfl) (fun _ _ _ h => h) (Or.inl ⟨by rfl, ?_⟩) ?_ ?_
      rotate_left
      ·intro w'
       go_simp
       with_reducible rfl
      rotate_left
      ·simp only [Act.put, List.setIfInBounds_toArray, List.set_cons_zero, List.set_cons_succ, i64_w, i32_w]
       rfl
      refine done_ (by kernel_rfl) ?_
      try go_wp2
      go_ret
      exact ⟨eE, lV4 GE186 GE197 GE202 GE208⟩
end Go.Proofs.Ytggfmjfgfjphgaa.PFnExactPutBits
namespace Go.Proofs.YtggfmjfgfjphgaaO
open Go.ChangeShapes Go.WideShapes Go.Proofs.YtggfmjfgfjphgaaW.PrintWords Go.RowKit
def In64 (n : Int) : Prop := -9223372036854775808 ≤ n ∧ n ≤ 9223372036854775807
def InU8 (n : Int) : Prop := 0 ≤ n ∧ n ≤ 255
def Opens {α : Type} (P : Program) (t : TypeId) (d : Kd α) (g : α → Prop) : Prop :=
  ∀ {H : Type} (enc : TypeId × Value → H) (w : World) (fuel : Nat) (cs : List Value) (y : DataW H) (ps : List MemPlace),
    DataW.trod enc P w 0 (fun _ => true) true fuel t cs = some (y, ps) → (∀ n ∈ y.weights P t, n ≤ reachBytes) → ∃ x, d.K w x cs ∧ g x
theorem Opens.imp {α : Type} {P : Program} {t : TypeId} {d : Kd α} {g g' : α → Prop} (h : Opens P t d g) (k : ∀ x, g x → g' x) : Opens P t d g' := by
  intro H enc w fuel cs y ps ht hw
  obtain ⟨x, hx, hg⟩ := h enc w fuel cs y ps ht hw
  exact ⟨x, hx, k x hg⟩
theorem opens_int {P : Program} {t : TypeId} {k : IntKind} (ht : P.underlying t = some (.int k)) : Opens P t (Kd.int k) (fun n => (Lit.int k n).wf = true) := by
  intro H enc w fuel cs y ps h _
  obtain ⟨n, rfl, _, hw⟩ := DataW.trod_int ht h
  exact ⟨n, rfl, hw⟩
theorem wf_i64 {n : Int} (h : (Lit.int .i64 n).wf = true) : In64 n := bounds_i64 h
theorem wf_u8 {n : Int} (h : (Lit.int .u8 n).wf = true) : InU8 n := bounds_u8 h
theorem opens_i64 {P : Program} {t : TypeId} (ht : P.underlying t = some (.int .i64)) : Opens P t (Kd.int .i64) In64 := Opens.imp (opens_int ht) fun _ h => wf_i64 h
theorem opens_u8 {P : Program} {t : TypeId} (ht : P.underlying t = some (.int .u8)) : Opens P t (Kd.int .u8) InU8 := Opens.imp (opens_int ht) fun _ h => wf_u8 h
theorem exists_list {α : Type} (p : Nat → α → Prop) : ∀ n : Nat, (∀ i, i < n → ∃ x, p i x) → ∃ xs : List α, xs.length = n ∧ ∀ i x, xs[i]? = some x → p i x
  | 0, _ => ⟨[], rfl, fun i x h => by simp at h⟩
  | n + 1, h => by
    obtain ⟨xs, hl, hx⟩ := exists_list p n (fun i hi => h i (by omega))
    obtain ⟨x, hp⟩ := h n (by omega)
    refine ⟨xs ++ [x], by simp [hl], fun i y hy => ?_⟩
    rcases Nat.lt_or_ge i xs.length with hi | hi
    · rw [List.getElem?_append_left hi] at hy
      exact hx i y hy
    · have : i = n := by
        have := (List.getElem?_eq_some_iff.1 hy).1
        rw [List.length_append, List.length_singleton] at this
        omega
      subst this
      rw [List.getElem?_append_right hi] at hy
      rw [hl] at hy
      simp at hy
      subst hy
      exact hp
theorem add_add (ad : Addr) (i j : Nat) : (ad.add i).add j = ad.add (i + j) := by
  unfold Addr.add
  by_cases h1 : i = 0 <;> by_cases h2 : j = 0 <;> simp [h1, h2, Nat.add_assoc]
theorem weightsAll_mem {H : Type} {P : Program} {e : TypeId} : ∀ {l : List (DataW H)} {d : DataW H}, d ∈ l → ∀ n ∈ d.weights P e, n ∈ DataW.weightsAll P e l
  | [], d, h, _, _ => by simp at h
  | x :: r, d, h, n, hn => by
    simp only [DataW.weightsAll, List.mem_append]
    rcases List.mem_cons.1 h with rfl | h
    · exact .inl hn
    · exact .inr (weightsAll_mem h n hn)
theorem opens_slice {α : Type} {P : Program} {t e : TypeId} {d : Kd α} {g : α → Prop} {B : Nat} (ht : P.underlying t = some (.slice e)) (hs : P.cellsOf e = d.sz) (hB : P.bytesOf e = B) (h : Opens P e d g) :
    Opens P t (Kd.slice e d) (fun xs => xs.length * B ≤ 140737488351232 ∧ ∀ x ∈ xs, g x) := by
  intro H enc w fuel cs y ps hy hw
  rcases DataW.trod_slice ht hy with ⟨rfl, _⟩ | ⟨a, len, cap, elems, rest, n, rfl, rfl, hx, _, hlc, hcm, hel, hget, _, _⟩
  · exact ⟨[], ⟨none, 0, rfl, Nat.le_refl _, Kd.C_nil d w⟩, by simp⟩
  · obtain ⟨rfl, _⟩ := Prod.mk.inj hx
    simp only [DataW.weights, ht] at hw
    have hlen : len * B ≤ 140737488351232 := by
      have := hw _ List.mem_cons_self
      simp only [List.length_map, hB] at this
      have h2 : len * B ≤ (elems.length + rest.length) * B := Nat.mul_le_mul_right _ (by omega)
      exact Nat.le_trans h2 this
    have key : ∀ i, i < len → ∃ x, (∃ c, c.length = d.sz ∧ d.K w x c ∧ ∀ j u, c[j]? = some u → w.cell? (a.add (i * d.sz + j)) = some u) ∧ g x := by
      intro i hi
      have hg := hget i hi
      rw [List.getElem?_eq_getElem (by omega), Option.bind_eq_some_iff] at hg
      obtain ⟨c, hc, hd⟩ := hg
      obtain ⟨_, hcl, hcell⟩ := World.cells?_some hc
      obtain ⟨x, hK, hgx⟩ := h enc w n c _ _ hd (fun m hm => hw m (List.mem_cons_of_mem _ (List.mem_append_left _ (weightsAll_mem (List.mem_map_of_mem (List.getElem_mem _)) m hm))))
      refine ⟨x, ⟨c, hcl.trans hs, hK, fun j u hj => ?_⟩, hgx⟩
      have hjl : j < P.cellsOf e := by
        have := (List.getElem?_eq_some_iff.1 hj).1
        omega
      have := hcell j hjl
      rw [add_add, hj, hs] at this
      exact this
    obtain ⟨xs, hxl, hxs⟩ := exists_list _ len key
    refine ⟨xs, ⟨some a, cap, by rw [hxl], by omega, hxl ▸ ⟨hxl, by simp only [maxLen] at hcm; omega, fun _ => ⟨a, rfl, fun j p hp => (hxs j p hp).1⟩⟩⟩, by rw [hxl]; exact hlen, fun x hx => ?_⟩
    obtain ⟨i, hi, rfl⟩ := List.getElem_of_mem hx
    exact (hxs i _ (List.getElem?_eq_getElem hi)).2
def OpensL {α : Type} (P : Program) (fs : List Field) (off : Nat) (d : Kd α) (g : α → Prop) : Prop :=
  ∀ {H : Type} (enc : TypeId × Value → H) (w : World) (n : Nat) (cs : List Value) (ys : List (DataW H × List MemPlace)), ys.length = fs.length →
    (∀ (i : Nat) (f : Field), fs[i]? = some f → DataW.trod enc P w 0 (fun _ => true) true n f.type ((cs.drop f.offset).take (P.cellsOf f.type)) = ys[i]?) →
    (∀ m ∈ DataW.weightsEach P (fs.map (·.type)) (ys.map (·.1)), m ≤ reachBytes) → ∃ x, d.K w x ((cs.drop off).take d.sz) ∧ g x
theorem opensL_one {α : Type} {P : Program} {f : Field} {off : Nat} {d : Kd α} {g : α → Prop} (ho : f.offset = off) (hs : P.cellsOf f.type = d.sz) (h : Opens P f.type d g) : OpensL P [f] off d g := by
  intro H enc w n cs ys hl hf hw
  match ys, hl with
  | [y], _ =>
    have h0 := hf 0 f rfl
    rw [ho, hs] at h0
    exact h enc w n _ y.1 y.2 h0 (fun m hm => hw m (by simp only [List.map_cons, DataW.weightsEach, List.mem_append]; exact .inl hm))
theorem opensL_cons {α β : Type} {P : Program} {f : Field} {fs : List Field} {off : Nat} {a : Kd α} {b : Kd β} {ga : α → Prop} {gb : β → Prop} (ho : f.offset = off) (hs : P.cellsOf f.type = a.sz) (h : Opens P f.type a ga) (hr : OpensL P fs (off + a.sz) b gb) :
    OpensL P (f :: fs) off (Kd.pair a b) (fun x => ga x.1 ∧ gb x.2) := by
  intro H enc w n cs ys hl hf hw
  match ys, hl with
  | y :: ys, hl =>
    have h0 := hf 0 f rfl
    rw [ho, hs] at h0
    obtain ⟨x, hx, hgx⟩ := h enc w n _ y.1 y.2 h0 (fun m hm => hw m (by simp only [List.map_cons, DataW.weightsEach, List.mem_append]; exact .inl hm))
    obtain ⟨x', hx', hgx'⟩ := hr enc w n cs ys (by simpa using hl) (fun i f' hf' => by have := hf (i + 1) f' (by simpa using hf'); simpa using this) (fun m hm => hw m (by simp only [List.map_cons, DataW.weightsEach, List.mem_append]; exact .inr hm))
    refine ⟨(x, x'), ⟨_, _, ?_, hx, hx'⟩, hgx, hgx'⟩
    show (cs.drop off).take (a.sz + b.sz) = _
    rw [List.take_add, List.drop_drop]
theorem opens_struct {α : Type} {P : Program} {t : TypeId} {fs : Array Field} {d : Kd α} {g : α → Prop} (ht : P.underlying t = some (.struct fs)) (hs : P.cellsOf t = d.sz) (h : OpensL P fs.toList 0 d g) : Opens P t d g := by
  intro H enc w fuel cs y ps hy hw
  obtain ⟨xs, n, rfl, hx, hl, hxl, hget⟩ := DataW.trod_struct ht hy
  obtain ⟨rfl, _⟩ := Prod.mk.inj hx
  simp only [DataW.weights, ht] at hw
  obtain ⟨x, hK, hg⟩ := h enc w n cs xs (by simpa using hxl) (fun i f hf => hget i f (by simpa using hf)) (by simpa using hw)
  rw [List.drop_zero, List.take_of_length_le (by omega)] at hK
  exact ⟨x, hK, hg⟩
theorem weights_of {H : Type} {P : Program} {ts : List TypeId} {ds : List (DataW H)} {j : Nat} {t : TypeId} {d : DataW H} (hsz : (DataW.weightsEach P ts ds).all (· ≤ reachBytes) = true) (ht : ts[j]? = some t) (hd : ds[j]? = some d) : ∀ n ∈ d.weights P t, n ≤ reachBytes := by
  intro n hn
  have := List.all_eq_true.1 hsz n (DataW.weights_mem_each ht hd n hn)
  simpa using this
theorem open_agg {α H : Type} {enc : TypeId × Value → H} {P : Program} {W : World} {t : TypeId} {d : Kd α} {g : α → Prop} {cs : Array Value} {y : DataW H} {ps : List MemPlace} (h : Opens P t d g)
    (hy : DataW.Trod enc P W 0 (fun _ => true) true t (.agg cs) y ps) (hw : ∀ n ∈ y.weights P t, n ≤ reachBytes) : ∃ x : α, d.K W x cs.toList ∧ g x := by
  obtain ⟨fuel, hf⟩ := hy
  exact h enc W fuel _ y ps (by simpa [Value.cells] using hf) hw
end Go.Proofs.YtggfmjfgfjphgaaO
namespace Go.Proofs.Ytggfmjfgfjphgaa.OFnExactPutBits
open Go.RowKit Go.Proofs.Ytggfmjfgfjphgaa.PFnExactPutBits Go.Proofs.YtggfmjfgfjphgaaW.PrintWords Go.Proofs.YtggfmjfgfjphgaaO
end Go.Proofs.Ytggfmjfgfjphgaa.OFnExactPutBits
namespace Go.Proofs.YtggfmjfgfjphgaaO
open Go.RowKit Go.Proofs.YtggfmjfgfjphgaaW.PrintWords Go.Proofs.YtggfmjfgfjphgaaW.PrintLast Go.Proofs.YtggfmjfgfjphgaaW.PrintMore
theorem w64 {n : Int} (h : -9223372036854775808 ≤ n) (k : n ≤ 9223372036854775807) : wrap64 n = n := by unfold wrap64; omega
theorem w64s (i : Nat) (h : i < 4611686018427387904) : wrap64 ((i : Int) + 1) = ((i + 1 : Nat) : Int) := by unfold wrap64; omega
theorem ev_some {α : Type} {x r : α} (h : x = r) : Ev (fun _ => some x) r := ⟨0, fun _ _ => by rw [h]⟩
theorem ev_pos {α : Type} {c : Prop} [Decidable c] {f g : Nat → Option α} {r : α} (h : c) (k : Ev f r) : Ev (fun n => if c then f n else g n) r := by
  obtain ⟨K, hK⟩ := k
  exact ⟨K, fun n hn => (if_pos h).trans (hK n hn)⟩
theorem ev_neg {α : Type} {c : Prop} [Decidable c] {f g : Nat → Option α} {r : α} (h : ¬ c) (k : Ev g r) : Ev (fun n => if c then f n else g n) r := by
  obtain ⟨K, hK⟩ := k
  exact ⟨K, fun n hn => (if_neg h).trans (hK n hn)⟩
theorem ev_ite {α : Type} {c : Prop} [Decidable c] {f g : Nat → Option α} {r : α} (h : c → Ev f r) (k : ¬ c → Ev g r) : Ev (fun n => if c then f n else g n) r := by
  by_cases hc : c
  · exact ev_pos hc (h hc)
  · exact ev_neg hc (k hc)
theorem ev_bindc {α β : Type} {x : Option α} {f : Nat → α → Option β} {a : α} {r : β} (h : x = some a) (k : Ev (fun n => f n a) r) : Ev (fun n => x.bind (f n)) r := by
  subst h; exact k
theorem ev_for {σ ρ : Type} (n : Nat) (L : Nat → Nat → σ → Option ρ) (I : Nat → σ → Prop) (Q : ρ → Prop)
    (hend : ∀ s, I n s → ∃ r, Ev (fun k => L k n s) r ∧ Q r)
    (hstep : ∀ i s, i < n → I i s → (∃ r, Ev (fun k => L k i s) r ∧ Q r) ∨ ∃ s', I (i + 1) s' ∧ ∀ r, Ev (fun k => L k (i + 1) s') r → Ev (fun k => L k i s) r) :
    ∀ i s, i ≤ n → I i s → ∃ r, Ev (fun k => L k i s) r ∧ Q r := by
  have key : ∀ d i s, i + d = n → I i s → ∃ r, Ev (fun k => L k i s) r ∧ Q r := by
    intro d
    induction d with
    | zero => intro i s hi h; obtain rfl : i = n := by omega
              exact hend s h
    | succ d ih =>
      intro i s hi h
      rcases hstep i s (by omega) h with h' | ⟨s', hI, hr⟩
      · exact h'
      · obtain ⟨r, hr', hQ⟩ := ih (i + 1) s' (by omega) hI
        exact ⟨r, hr r hr', hQ⟩
  intro i s hi h
  exact key (n - i) i s (by omega) h
theorem ev_for1 {σ ρ : Type} (n : Nat) (L : Nat → Nat → σ → Option ρ) (I : Nat → σ → Prop) (a : ρ)
    (hend : ∀ s, I n s → Ev (fun k => L k n s) a)
    (hstep : ∀ i s, i < n → I i s → Ev (fun k => L k i s) a ∨ ∃ s', I (i + 1) s' ∧ ∀ r, Ev (fun k => L k (i + 1) s') r → Ev (fun k => L k i s) r) :
    ∀ i s, i ≤ n → I i s → Ev (fun k => L k i s) a := by
  intro i s hi h
  obtain ⟨r, hr, rfl⟩ := ev_for n L I (fun r => r = a) (fun s hs => ⟨a, hend s hs, rfl⟩) (fun i s hi hs => (hstep i s hi hs).imp (fun h => ⟨a, h, rfl⟩) id) i s hi h
  exact hr
theorem rd_get {xs : List Int} {i : Nat} (h : i < xs.length) : rd xs (i : Int) = xs[i] := by simp [rd, List.getD_eq_getElem?_getD, h]
theorem cast_lt {i n : Nat} (h : i < n) : (i : Int) < (n : Int) := by omega
theorem ev_copy {α β : Type} (L : Nat → List α → List β → Int → Option (List β)) (e : Nat → List α → Int → Option β) (g : α → β)
    (hL : ∀ k xs ys i, L (k + 1) xs ys i = if i < (xs.length : Int) then (if 0 ≤ i then (if i < (ys.length : Int) then ((e k xs i).bind fun v => L k xs (ys.set (i : Int).toNat v) (wrap64 (i + 1))) else none) else none) else some ys)
    (xs : List α) (hx : xs.length < 4611686018427387904) (he : ∀ i : Nat, ∀ h : i < xs.length, Ev (fun k => e k xs (i : Int)) (g xs[i])) (ys : List β) (hy : ys.length = xs.length) :
    Ev (fun k => L k xs ys 0) (xs.map g) := by
  refine ev_for1 xs.length (fun k i ys => L k xs ys (i : Int)) (fun i ys => ys.length = xs.length ∧ ∀ j, j < i → ys[j]? = (xs.map g)[j]?) (xs.map g) ?_ ?_ 0 ys (Nat.zero_le _) ⟨hy, fun j hj => by omega⟩
  · intro ys ⟨hl, h⟩
    refine Ev.step (fun k => hL k xs ys _) (ev_neg (by omega) (ev_some ?_))
    apply List.ext_getElem?
    intro j
    rcases Nat.lt_or_ge j xs.length with hj | hj
    · exact h j hj
    · rw [List.getElem?_eq_none (by omega), List.getElem?_eq_none (by simpa using hj)]
  · intro i ys hi ⟨hl, h⟩
    refine .inr ⟨ys.set i (g xs[i]), ⟨by simpa using hl, fun j hj => ?_⟩, fun r hr => ?_⟩
    · rcases Nat.lt_or_ge j i with hji | hji
      · rw [List.getElem?_set_ne (by omega)]
        exact h j hji
      · obtain rfl : j = i := by omega
        rw [List.getElem?_set_self (by omega), List.getElem?_map, List.getElem?_eq_getElem hi]
        rfl
    · refine Ev.step (fun k => hL k xs ys _) (ev_pos (by omega) (ev_pos (by omega) (ev_pos (by omega) (Ev.bind (he i hi) ?_))))
      rw [w64s i (by omega)]
      exact hr
theorem bool_of (P : Prop) : ∃ b : Bool, b = true ↔ P := ⟨@decide P (Classical.propDecidable P), by simp⟩
theorem bool_false {P : Prop} {b : Bool} (h : b = true ↔ P) (k : ¬ P) : b = false := by
  cases b with
  | false => rfl
  | true => exact absurd (h.1 rfl) k
theorem wrap_u64 {n : Int} (h0 : 0 ≤ n) (h1 : n ≤ 18446744073709551615) : IntKind.u64.wrap n = n := by
  have e : IntKind.u64.wrap n = n % 18446744073709551616 := by simp only [IntKind.wrap, IntKind.bits, IntKind.signed]; rfl
  rw [e]; omega
theorem wraps_i64 (n : Int) (h0 : 0 ≤ n) (h1 : n < 2 ^ 62) : IntKind.i64.wrap n = n := by
  have h1 : n < 4611686018427387904 := h1
  rw [IntKind.wrap_i64]; omega
theorem and64 (i : Nat) (M x : Int) (hM : M = 2 ^ i - 1) (hi : i ≤ 62) (hx0 : 0 ≤ x) (hx1 : x < 4611686018427387904) : Go.bits .and .i64 x M = x % 2 ^ i := by
  subst hM
  exact bits_mask .i64 62 (by decide) wraps_i64 i hi x hx0 (show x < 4611686018427387904 from hx1)
theorem and8 (i : Nat) (M x : Int) (hM : M = 2 ^ i - 1) (hi : i ≤ 8) (hx0 : 0 ≤ x) (hx1 : x < 256) : Go.bits .and .u8 x M = x % 2 ^ i := by
  subst hM
  exact bits_mask .u8 8 (by decide) wraps_u8 i hi x hx0 (show x < 256 from hx1)
def Chain {α : Type} (E : α → Int → Int → Prop) : List α → Int → Int → Prop
  | [], c, d => c = d
  | x :: r, c, d => ∃ m, E x c m ∧ Chain E r m d
theorem Chain.snoc {α : Type} {E : α → Int → Int → Prop} : ∀ {l : List α} {c m d : Int} {x : α}, Chain E l c m → E x m d → Chain E (l ++ [x]) c d
  | [], _, _, _, _, h, k => by cases h; exact ⟨_, k, rfl⟩
  | _ :: _, _, _, _, _, ⟨q, h1, h2⟩, k => ⟨q, h1, Chain.snoc h2 k⟩
theorem Chain.le {α : Type} {E : α → Int → Int → Prop} (hm : ∀ x c d, E x c d → c ≤ d) : ∀ {l : List α} {c d : Int}, Chain E l c d → c ≤ d
  | [], _, _, h => Int.le_of_eq h
  | _ :: _, _, _, ⟨_, h1, h2⟩ => Int.le_trans (hm _ _ _ h1) (Chain.le hm h2)
theorem ev_mark {α : Type} (L : Nat → List α → Int → Nat → Option (Int × List α)) (E : α → Int → Int → Prop) (G : α → Prop) (W : Int) (hW : 0 ≤ W) (hW' : W ≤ 1099511627776)
    (hend : ∀ zs c, Ev (fun k => L k zs c zs.length) (c, zs))
    (hstep : ∀ zs c i, ∀ hi : i < zs.length, i < 1048576 → G zs[i] → 0 ≤ c → c ≤ 2305843009213693952 → ∃ x' c', E x' c c' ∧ c ≤ c' ∧ c' ≤ c + W ∧ ∀ r, Ev (fun k => L k (zs.set i x') c' (i + 1)) r → Ev (fun k => L k zs c i) r)
    (xs : List α) (hG : ∀ x ∈ xs, G x) (hl : xs.length ≤ 1048576) (c : Int) (hc0 : 0 ≤ c) (hc1 : c ≤ 1152921504606846976) :
    ∃ ys d, Chain E ys c d ∧ c ≤ d ∧ d ≤ c + W * xs.length ∧ ys.length = xs.length ∧ Ev (fun k => L k xs c 0) (d, ys) := by
  have key : ∀ n i : Nat, ∀ zs : List α, ∀ m : Int, i + n = xs.length → zs.length = xs.length → zs.drop i = xs.drop i → Chain E (zs.take i) c m → c ≤ m → m ≤ c + W * i →
      ∃ ys d, Chain E ys c d ∧ c ≤ d ∧ d ≤ c + W * xs.length ∧ ys.length = xs.length ∧ Ev (fun k => L k zs m i) (d, ys) := by
    intro n
    induction n with
    | zero =>
      intro i zs m hi hz hd hch h1 h2
      obtain rfl : i = zs.length := by omega
      rw [List.take_length] at hch
      rw [← hz]
      exact ⟨zs, m, hch, h1, h2, rfl, hend zs m⟩
    | succ n ih =>
      intro i zs m hi hz hd hch h1 h2
      have hlt : i < zs.length := by omega
      have hx : i < xs.length := by omega
      have hget : zs[i] = xs[i] := by
        have e1 := List.drop_eq_getElem_cons hlt
        have e2 := List.drop_eq_getElem_cons hx
        rw [hd, e2] at e1
        exact (List.cons.inj e1).1.symm
      have hWi : W * (i : Int) ≤ 1099511627776 * 1048576 := Int.mul_le_mul hW' (by omega) (by omega) (by omega)
      obtain ⟨x', c', hE, hc, hcW, hr⟩ := hstep zs m i hlt (by omega) (by rw [hget]; exact hG _ (List.getElem_mem hx)) (by omega) (by omega)
      obtain ⟨ys, d, g1, g2, g3, g4, g5⟩ := ih (i + 1) (zs.set i x') c' (by omega) (by simpa using hz) (by
          rw [List.drop_set_of_lt (by omega)]
          have e1 := List.drop_eq_getElem_cons hlt
          have e2 := List.drop_eq_getElem_cons hx
          rw [hd, e2] at e1
          exact (List.cons.inj e1).2.symm) (by
          rw [List.take_succ_eq_append_getElem (by simpa using hlt), List.take_set_of_le (Nat.le_refl i), List.getElem_set_self]
          exact Chain.snoc hch hE) (by omega) (by
          have : W * ((i + 1 : Nat) : Int) = W * i + W := by rw [Int.natCast_add, Int.mul_add]; simp
          omega)
      exact ⟨ys, d, g1, g2, g3, g4, hr _ g5⟩
  have := key xs.length 0 xs c (by omega) rfl rfl (by simp [Chain]) (Int.le_refl _) (by simp)
  exact this
theorem ev_held {α : Type} (H : Nat → List α → Int → Nat → Option Int) (E : α → Int → Int → Prop) (hm : ∀ x c d, E x c d → c ≤ d)
    (hend : ∀ ys c, Ev (fun k => H k ys c ys.length) c)
    (hstep : ∀ ys c c' i, ∀ hi : i < ys.length, i < 1048576 → E ys[i] c c' → 0 ≤ c → c' ≤ 2305843009213693952 → ∀ r, Ev (fun k => H k ys c' (i + 1)) r → Ev (fun k => H k ys c i) r)
    (ys : List α) (hl : ys.length ≤ 1048576) (c d : Int) (hc0 : 0 ≤ c) (hd : d ≤ 2305843009213693952) (h : Chain E ys c d) : Ev (fun k => H k ys c 0) d := by
  have key : ∀ n i : Nat, ∀ m : Int, i + n = ys.length → 0 ≤ m → Chain E (ys.drop i) m d → Ev (fun k => H k ys m i) d := by
    intro n
    induction n with
    | zero =>
      intro i m hi h0 hch
      obtain rfl : i = ys.length := by omega
      rw [List.drop_length] at hch
      obtain rfl : m = d := hch
      exact hend ys m
    | succ n ih =>
      intro i m hi h0 hch
      have hlt : i < ys.length := by omega
      rw [List.drop_eq_getElem_cons hlt] at hch
      obtain ⟨m', hE, hch⟩ := hch
      have h1 := hm _ _ _ hE
      exact hstep ys m m' i hlt (by omega) hE h0 (by have := Chain.le hm hch; omega) d (ih (i + 1) m' (by omega) (by omega) hch)
  exact key ys.length 0 c (by omega) hc0 h
theorem exev_bind {α β : Type} {g : Nat → Option α} {f : Nat → α → Option β} {a : α} {Q : β → Prop} (h : Ev g a) (k : ∃ r, Ev (fun n => f n a) r ∧ Q r) : ∃ r, Ev (fun n => (g n).bind (f n)) r ∧ Q r := by
  obtain ⟨r, hr, hq⟩ := k
  exact ⟨r, Ev.bind h hr, hq⟩
theorem exev_pos {α : Type} {c : Prop} [Decidable c] {f g : Nat → Option α} {Q : α → Prop} (h : c) (k : ∃ r, Ev f r ∧ Q r) : ∃ r, Ev (fun n => if c then f n else g n) r ∧ Q r := by
  obtain ⟨r, hr, hq⟩ := k
  exact ⟨r, ev_pos h hr, hq⟩
theorem exev_neg {α : Type} {c : Prop} [Decidable c] {f g : Nat → Option α} {Q : α → Prop} (h : ¬ c) (k : ∃ r, Ev g r ∧ Q r) : ∃ r, Ev (fun n => if c then f n else g n) r ∧ Q r := by
  obtain ⟨r, hr, hq⟩ := k
  exact ⟨r, ev_neg h hr, hq⟩
theorem exev_ite {α : Type} {c : Prop} [Decidable c] {f g : Nat → Option α} {Q : α → Prop} (h : c → ∃ r, Ev f r ∧ Q r) (k : ¬ c → ∃ r, Ev g r ∧ Q r) : ∃ r, Ev (fun n => if c then f n else g n) r ∧ Q r := by
  by_cases hc : c
  · exact exev_pos hc (h hc)
  · exact exev_neg hc (k hc)
theorem exev_some {α : Type} {x : α} {Q : α → Prop} (h : Q x) : ∃ r, Ev (fun _ => some x) r ∧ Q r := ⟨x, ev_some rfl, h⟩
end Go.Proofs.YtggfmjfgfjphgaaO
namespace Go.Proofs.Ytggfmjfgfjphgaa.Pure
open Go.RowKit Go.Proofs.Ytggfmjfgfjphgaa.PFnExactPutBits Go.Proofs.Ytggfmjfgfjphgaa.OFnExactPutBits Go.Proofs.YtggfmjfgfjphgaaW.PrintWords Go.Proofs.YtggfmjfgfjphgaaW.PrintLast Go.Proofs.YtggfmjfgfjphgaaW.PrintMore Go.Proofs.YtggfmjfgfjphgaaO
set_option linter.unusedVariables false
set_option linter.unusedSimpArgs false
theorem st_spec_l23Put_l0 {r : (Int × List Int)} {x1 : Int} {x7 : Int} {x107000 : Int} {x107001 : List Int} (h : Ev (fun k => if x7 ≥ 0 then (if (Int.tmod x107000 8) = 0 then (if x107001.length < 140737488355328 then ((some (x107001 ++ [0] : List Int)).bind fun y108 => (if 0 ≤ (IntKind.u64.wrap (x7)) then (if (Go.bits .and .i64 (shr .i64 x1 (IntKind.u64.wrap (x7))) 1) = 1 then (if 0 ≤ (wrap64 (Int.tdiv x107000 8)) then (if (wrap64 (Int.tdiv x107000 8)) < (y108.length : Int) then (if 0 ≤ (IntKind.u64.wrap (Int.tmod x107000 8)) then (spec_l23Put.l0 k x1 (wrap64 (x7 - 1)) (wrap64 (x107000 + 1)) (y108.set ((wrap64 (Int.tdiv x107000 8)) : Int).toNat (Go.bits .or .u8 (rd y108 (wrap64 (Int.tdiv x107000 8))) (shr .u8 128 (IntKind.u64.wrap (Int.tmod x107000 8)))))) else (none)) else (none)) else (none)) else (spec_l23Put.l0 k x1 (wrap64 (x7 - 1)) (wrap64 (x107000 + 1)) y108)) else (none))) else (none)) else (if 0 ≤ (IntKind.u64.wrap (x7)) then (if (Go.bits .and .i64 (shr .i64 x1 (IntKind.u64.wrap (x7))) 1) = 1 then (if 0 ≤ (wrap64 (Int.tdiv x107000 8)) then (if (wrap64 (Int.tdiv x107000 8)) < (x107001.length : Int) then (if 0 ≤ (IntKind.u64.wrap (Int.tmod x107000 8)) then (spec_l23Put.l0 k x1 (wrap64 (x7 - 1)) (wrap64 (x107000 + 1)) (x107001.set ((wrap64 (Int.tdiv x107000 8)) : Int).toNat (Go.bits .or .u8 (rd x107001 (wrap64 (Int.tdiv x107000 8))) (shr .u8 128 (IntKind.u64.wrap (Int.tmod x107000 8)))))) else (none)) else (none)) else (none)) else (spec_l23Put.l0 k x1 (wrap64 (x7 - 1)) (wrap64 (x107000 + 1)) x107001)) else (none))) else (some (x107000, x107001))) r) : Ev (fun k => spec_l23Put.l0 k x1 x7 x107000 x107001) r := Ev.step (fun k => by rw [spec_l23Put.l0]) h
theorem st_spec_PutBits_j0 {r : (Int × List Int × Bool)} {x1 : Int} {x2 : Int} {x31 : Bool} {x124000 : Int} {x124001 : List Int} (h : Ev (fun k => if x31 = true then (some (0, ([] : List Int), false)) else ((spec_l23Own.f x124000 x124001).bind fun bt128 => ((spec_l23Put.f k bt128.1 bt128.2 x1 x2).bind fun bt132 => (some (bt132.1, bt132.2, true))))) r) : Ev (fun k => spec_PutBits.j0 k x1 x2 x31 x124000 x124001) r := Ev.step (fun k => by rw [spec_PutBits.j0]) h
theorem st_impl_GoodBits_j0 {r : (Bool)} {x17 : Bool} {x150000 : Int} {x150001 : List Int} (h : Ev (fun k => if x17 = true then (some false) else (impl_GoodBits.l0 k x150000 x150000 x150001)) r) : Ev (fun k => impl_GoodBits.j0 k x17 x150000 x150001) r := Ev.step (fun k => by rw [impl_GoodBits.j0]) h
theorem st_impl_GoodBits_l0 {r : (Bool)} {x3 : Int} {x150000 : Int} {x150001 : List Int} (h : Ev (fun k => if x3 < (wrap64 (8 * (x150001.length : Int))) then ((impl_Bits_bit.f x150000 x150001 x3).bind fun t151 => (if t151 = 1 then (some false) else (impl_GoodBits.l0 k (wrap64 (x3 + 1)) x150000 x150001))) else (some true)) r) : Ev (fun k => impl_GoodBits.l0 k x3 x150000 x150001) r := Ev.step (fun k => by rw [impl_GoodBits.l0]) h
theorem st_impl_Bits_put_l0 {r : (Int × List Int)} {x1 : Int} {x6 : Int} {x154000 : Int} {x154001 : List Int} (h : Ev (fun k => if x6 ≥ 0 then (if (Int.tmod x154000 8) = 0 then (if x154001.length < 140737488355328 then ((some (x154001 ++ [0] : List Int)).bind fun y154 => (if 0 ≤ (wrap64 (Int.tdiv x154000 8)) then (if (wrap64 (Int.tdiv x154000 8)) < (y154.length : Int) then (if 0 ≤ x6 then (if 0 ≤ (wrap64 (7 - (Int.tmod x154000 8))) then (impl_Bits_put.l0 k x1 (wrap64 (x6 - 1)) (wrap64 (x154000 + 1)) (y154.set ((wrap64 (Int.tdiv x154000 8)) : Int).toNat (Go.bits .or .u8 (rd y154 (wrap64 (Int.tdiv x154000 8))) ((shl .i64 (Go.bits .and .i64 (shr .i64 x1 x6) 1) (wrap64 (7 - (Int.tmod x154000 8)))) % 256)))) else (none)) else (none)) else (none)) else (none))) else (none)) else (if 0 ≤ (wrap64 (Int.tdiv x154000 8)) then (if (wrap64 (Int.tdiv x154000 8)) < (x154001.length : Int) then (if 0 ≤ x6 then (if 0 ≤ (wrap64 (7 - (Int.tmod x154000 8))) then (impl_Bits_put.l0 k x1 (wrap64 (x6 - 1)) (wrap64 (x154000 + 1)) (x154001.set ((wrap64 (Int.tdiv x154000 8)) : Int).toNat (Go.bits .or .u8 (rd x154001 (wrap64 (Int.tdiv x154000 8))) ((shl .i64 (Go.bits .and .i64 (shr .i64 x1 x6) 1) (wrap64 (7 - (Int.tmod x154000 8)))) % 256)))) else (none)) else (none)) else (none)) else (none))) else (some (x154000, x154001))) r) : Ev (fun k => impl_Bits_put.l0 k x1 x6 x154000 x154001) r := Ev.step (fun k => by rw [impl_Bits_put.l0]) h
theorem st_impl_PutBits_j0 {r : (Int × List Int × Bool)} {x1 : Int} {x2 : Int} {x31 : Bool} {x162000 : Int} {x162001 : List Int} (h : Ev (fun k => if x31 = true then (some (0, ([] : List Int), false)) else ((slices_Clone_byte_byte.f x162001).bind fun t166 => ((impl_Bits_put.f k x162000 t166 x1 x2).bind fun bt170 => (some (bt170.1, bt170.2, true))))) r) : Ev (fun k => impl_PutBits.j0 k x1 x2 x31 x162000 x162001) r := Ev.step (fun k => by rw [impl_PutBits.j0]) h
theorem st_laws_FnExactPutBits_j0 {r : (Bool)} {x1 : Int} {x2 : Int} {x9 : Bool} {x12 : Bool} {x48 : Bool} {x187000 : Int} {x187001 : List Int} {x198000 : Int} {x198001 : List Int} {x203000 : Int} {x203001 : List Int} {x209000 : Int} {x209001 : List Int} (h : Ev (fun k => if x48 = true then (some false) else ((laws_toBits.f k x187000 x187001).bind fun bt210 => ((laws_eqBits.f k x203000 x203001 bt210.1 bt210.2).bind fun t214 => (if t214 = true then ((laws_markBits.f k x203000 x203001 1).bind fun bt215 => (if bt215.1 < 0 then (laws_FnExactPutBits.j1 k x1 x2 x9 true x187000 x187001 x198000 x198001 x209000 x209001) else ((laws_eqBits.f k x209000 x209001 x198000 x198001).bind fun t217 => (if t217 = true then (laws_FnExactPutBits.j1 k x1 x2 x9 (x12 != x9) x187000 x187001 x198000 x198001 x209000 x209001) else (laws_FnExactPutBits.j1 k x1 x2 x9 true x187000 x187001 x198000 x198001 x209000 x209001))))) else (some false))))) r) : Ev (fun k => laws_FnExactPutBits.j0 k x1 x2 x9 x12 x48 x187000 x187001 x198000 x198001 x203000 x203001 x209000 x209001) r := Ev.step (fun k => by rw [laws_FnExactPutBits.j0]) h
theorem st_laws_FnExactPutBits_j1 {r : (Bool)} {x1 : Int} {x2 : Int} {x9 : Bool} {x69 : Bool} {x187000 : Int} {x187001 : List Int} {x198000 : Int} {x198001 : List Int} {x209000 : Int} {x209001 : List Int} (h : Ev (fun k => if x69 = true then (some false) else ((laws_markBits.f k x209000 x209001 1).bind fun bt218 => ((laws_heldBits.f k x209000 bt218.2 1).bind fun t220 => (if t220 < 0 then (some false) else (if t220 = bt218.1 then ((laws_toBits.f k x187000 x187001).bind fun bt221 => ((impl_PutBits.f k bt221.1 bt221.2 x1 x2).bind fun bt225 => ((laws_eqBits.f k bt225.1 bt225.2.1 x198000 x198001).bind fun t231 => (if t231 = true then (laws_FnExactPutBits.j2 k bt218.1 (bt225.2.2 != x9) x209000 bt218.2) else (laws_FnExactPutBits.j2 k bt218.1 true x209000 bt218.2))))) else (some false)))))) r) : Ev (fun k => laws_FnExactPutBits.j1 k x1 x2 x9 x69 x187000 x187001 x198000 x198001 x209000 x209001) r := Ev.step (fun k => by rw [laws_FnExactPutBits.j1]) h
theorem st_laws_FnExactPutBits_j2 {r : (Bool)} {x14 : Int} {x97 : Bool} {x209000 : Int} {x209001 : List Int} (h : Ev (fun k => if x97 = true then (some false) else ((laws_heldBits.f k x209000 x209001 1).bind fun t232 => (if t232 < 0 then (some false) else (if t232 = x14 then (some true) else (some false))))) r) : Ev (fun k => laws_FnExactPutBits.j2 k x14 x97 x209000 x209001) r := Ev.step (fun k => by rw [laws_FnExactPutBits.j2]) h
theorem in_some (a b c : Int) : spec_l1In.f a b c = some (decide (b ≤ a ∧ a ≤ c)) := by
  unfold spec_l1In.f
  split <;> simp_all <;> omega
theorem in_same (a b c : Int) : impl_inRange.f a b c = spec_l1In.f a b c := rfl
def AreBytes (l : List Int) : Prop := ∀ y ∈ l, InU8 y
theorem rd_byte {l : List Int} (h : AreBytes l) {i : Nat} (hi : i < l.length) : 0 ≤ rd l (i : Int) ∧ rd l (i : Int) ≤ 255 := by
  rw [rd_get hi]; exact h _ (List.getElem_mem hi)
def bitAt (l : List Int) (n : Nat) : Int := rd l ((n / 8 : Nat) : Int) / 2 ^ (7 - n % 8) % 2
theorem bit_value (l : List Int) (h : AreBytes l) (n : Nat) (hn : n < 8 * l.length) : wrap64 (Go.bits .and .u8 (shr .u8 (rd l ((n / 8 : Nat) : Int)) ((7 - n % 8 : Nat) : Int)) 1) = bitAt l n := by
  obtain ⟨r0, r1⟩ := rd_byte h (i := n / 8) (by omega)
  have e3 : shr .u8 (rd l ((n / 8 : Nat) : Int)) ((7 - n % 8 : Nat) : Int) = rd l ((n / 8 : Nat) : Int) / 2 ^ (7 - n % 8) := by
    unfold shr
    rw [Int.toNat_natCast, Nat.min_eq_left (show 7 - n % 8 ≤ IntKind.u8.bits from (by omega : 7 - n % 8 ≤ 8))]
  rw [e3]
  have hp : (0 : Int) < 2 ^ (7 - n % 8) := Int.pow_pos (by omega)
  have q0 : 0 ≤ rd l ((n / 8 : Nat) : Int) / 2 ^ (7 - n % 8) := Int.ediv_nonneg r0 (Int.le_of_lt hp)
  have q1 : rd l ((n / 8 : Nat) : Int) / 2 ^ (7 - n % 8) ≤ rd l ((n / 8 : Nat) : Int) := Int.ediv_le_self _ r0
  rw [and8 1 1 _ rfl (by omega) q0 (by omega), w64 (by omega) (by omega)]
  rfl
theorem bit_impl (s : Int) (l : List Int) (h : AreBytes l) (n : Nat) (hn : n < 8 * l.length) (hl : l.length ≤ 1048576) : impl_Bits_bit.f s l (n : Int) = some (bitAt l n) := by
  have e1 : wrap64 (Int.tdiv (n : Int) 8) = ((n / 8 : Nat) : Int) := by rw [Int.tdiv_eq_ediv_of_nonneg (by omega)]; rw [w64 (by omega) (by omega)]; omega
  have e2 : wrap64 (7 - Int.tmod (n : Int) 8) = ((7 - n % 8 : Nat) : Int) := by rw [Int.tmod_eq_emod_of_nonneg (by omega)]; rw [w64 (by omega) (by omega)]; omega
  unfold impl_Bits_bit.f
  rw [e1, e2, if_pos (by omega), if_pos (by omega), if_pos (by omega), bit_value l h n hn]
theorem tail_impl (s : Int) (l : List Int) (h : AreBytes l) (hl : l.length ≤ 1048576) (q : Nat) (hq : q + 1 = l.length) : ∀ d : Nat, d ≤ 8 → ∀ b : Bool, (b = true ↔ rd l (q : Int) % 2 ^ d = 0) → Ev (fun k => impl_GoodBits.l0 k ((8 * q + (8 - d) : Nat) : Int) s l) b := by
  have e8 : wrap64 (8 * (l.length : Int)) = 8 * l.length := w64 (by omega) (by omega)
  intro d
  induction d with
  | zero =>
    intro _ b hb
    refine st_impl_GoodBits_l0 (ev_neg (by rw [e8]; omega) (ev_some ?_))
    exact (hb.2 (by simp [Int.emod_one])).symm
  | succ d ih =>
    intro hd b hb
    obtain ⟨r0, r1⟩ := rd_byte h (i := q) (by omega)
    refine st_impl_GoodBits_l0 (ev_pos (by rw [e8]; omega) (ev_bindc (bit_impl s l h _ (by omega) hl) ?_))
    have hbit : bitAt l (8 * q + (8 - (d + 1))) = rd l (q : Int) / 2 ^ d % 2 := by
      unfold bitAt
      rw [show (8 * q + (8 - (d + 1))) / 8 = q by omega, show 7 - (8 * q + (8 - (d + 1))) % 8 = d by omega]
    have hm : rd l (q : Int) % 2 ^ (d + 1) = rd l (q : Int) % 2 ^ d + 2 ^ d * (rd l (q : Int) / 2 ^ d % 2) := by
      obtain ⟨v, hv⟩ := Int.eq_ofNat_of_zero_le r0
      rw [hv]
      have := Nat.mod_pow_succ (b := 2) (k := d) (x := v)
      exact_mod_cast this
    have hp : (0 : Int) < 2 ^ d := Int.pow_pos (by omega)
    have hr := Int.emod_nonneg (rd l (q : Int)) (Int.ne_of_gt hp)
    rw [hbit]
    refine ev_ite (fun h1 => ev_some (bool_false hb ?_).symm) fun h1 => ?_
    · rw [hm, h1]; omega
    · have h0 : rd l (q : Int) / 2 ^ d % 2 = 0 := by omega
      have e : wrap64 (((8 * q + (8 - (d + 1)) : Nat) : Int) + 1) = ((8 * q + (8 - d) : Nat) : Int) := by rw [w64 (by omega) (by omega)]; omega
      rw [e]
      refine ih (by omega) b ?_
      rw [hb, hm, h0]; simp
def BitsOk (s : Int) (l : List Int) : Prop := 0 ≤ s ∧ s ≤ 4000 ∧ (l.length : Int) = (s + 7) / 8 ∧ (s % 8 = 0 ∨ rd l ((l.length : Int) - 1) % 2 ^ (8 - (s % 8).toNat) = 0)
theorem bits_impl (s : Int) (l : List Int) (h : AreBytes l) (hl : l.length ≤ 1048576) (b : Bool) (hb : b = true ↔ BitsOk s l) : Ev (fun k => impl_GoodBits.f k s l) b := by
  have j0t : Ev (fun k => impl_GoodBits.j0 k true s l) false := st_impl_GoodBits_j0 (ev_pos rfl (ev_some rfl))
  refine ev_bindc ((in_same _ _ _).trans (in_some _ _ _)) (ev_ite (fun hs => ?_) fun hs => ?_)
  · have hs := of_decide_eq_true hs
    have e : wrap64 (Int.tdiv (wrap64 (s + 7)) 8) = (s + 7) / 8 := by
      rw [w64 (n := s + 7) (by omega) (by omega), Int.tdiv_eq_ediv_of_nonneg (by omega), w64 (by omega) (by omega)]
    rw [e]
    by_cases hn : (l.length : Int) = (s + 7) / 8
    · rw [show ((l.length : Int) != (s + 7) / 8) = false by simpa using hn]
      refine st_impl_GoodBits_j0 (ev_neg (by decide) ?_)
      have e8 : wrap64 (8 * (l.length : Int)) = 8 * l.length := w64 (by omega) (by omega)
      by_cases h8 : s % 8 = 0
      · refine st_impl_GoodBits_l0 (ev_neg (by rw [e8]; omega) (ev_some ?_))
        exact (hb.2 ⟨hs.1, hs.2, hn, .inl h8⟩).symm
      · have hlen : ((l.length - 1 : Nat) : Int) = (l.length : Int) - 1 := by omega
        have := tail_impl s l h hl (l.length - 1) (by omega) (8 - (s % 8).toNat) (by omega) b (by
          rw [hb, hlen]; unfold BitsOk
          constructor
          · rintro ⟨_, _, _, h' | h'⟩
            · exact absurd h' h8
            · exact h'
          · exact fun h' => ⟨hs.1, hs.2, hn, .inr h'⟩)
        rw [show ((8 * (l.length - 1) + (8 - (8 - (s % 8).toNat)) : Nat) : Int) = s by omega] at this
        exact this
    · rw [show ((l.length : Int) != (s + 7) / 8) = true by simpa using hn, bool_false hb (fun h => hn h.2.2.1)]
      exact j0t
  · rw [bool_false hb (fun h => hs (decide_eq_true ⟨h.1, h.2.1⟩))]
    exact j0t
theorem bits_spec (s : Int) (l : List Int) (h : AreBytes l) (b : Bool) (hb : b = true ↔ BitsOk s l) : spec_GoodBits.f s l = some b := by
  unfold spec_GoodBits.f
  rw [in_some, Option.bind_some]
  by_cases hs : 0 ≤ s ∧ s ≤ 4000
  · rw [if_pos (decide_eq_true hs)]
    have e : wrap64 (Int.tdiv (wrap64 (s + 7)) 8) = (s + 7) / 8 := by
      rw [w64 (n := s + 7) (by omega) (by omega), Int.tdiv_eq_ediv_of_nonneg (by omega), w64 (by omega) (by omega)]
    rw [e]
    by_cases hn : (l.length : Int) = (s + 7) / 8
    · rw [if_pos hn, Int.tmod_eq_emod_of_nonneg hs.1]
      by_cases h8 : s % 8 = 0
      · rw [if_pos h8]
        exact congrArg some (hb.2 ⟨hs.1, hs.2, hn, .inl h8⟩).symm
      · have e1 : wrap64 ((l.length : Int) - 1) = (l.length : Int) - 1 := w64 (by omega) (by omega)
        have e2 : IntKind.u64.wrap (s % 8) = s % 8 := wrap_u64 (by omega) (by omega)
        rw [if_neg h8, e1, e2, if_pos (by omega), if_pos (by omega), if_pos (by omega)]
        congr 1
        obtain ⟨q, hq⟩ : ∃ q : Nat, (l.length : Int) - 1 = (q : Int) := ⟨l.length - 1, by omega⟩
        obtain ⟨r0, r1⟩ := rd_byte h (i := q) (by omega)
        obtain ⟨v, hv⟩ := Int.eq_ofNat_of_zero_le r0
        obtain ⟨m, hm⟩ : ∃ m : Nat, s % 8 = (m : Int) := ⟨(s % 8).toNat, by omega⟩
        have key : (v * 2 ^ m) % 256 = (v % 2 ^ (8 - m)) * 2 ^ m := by
          have e256 : 256 = 2 ^ (8 - m) * 2 ^ m := by rw [← Nat.pow_add, show 8 - m + m = 8 by omega]
          rw [e256, Nat.mul_mod_mul_right]
        have hp : 0 < 2 ^ m := Nat.two_pow_pos m
        have hsh : shl .u8 (rd l (q : Int)) (m : Int) = (((v * 2 ^ m) % 256 : Nat) : Int) := by
          unfold shl
          rw [hv, Int.toNat_natCast, Nat.min_eq_left (show m ≤ IntKind.u8.bits from (by omega : m ≤ 8)), IntKind.wrap_u8, Int.natCast_emod, Int.natCast_mul, Int.natCast_pow]
          rfl
        rw [hq, hm, hsh, key, Bool.eq_iff_iff, hb]
        have hv' : rd l (q : Int) % 2 ^ (8 - (s % 8).toNat) = ((v % 2 ^ (8 - m) : Nat) : Int) := by
          rw [hv, hm, Int.toNat_natCast, Int.natCast_emod, Int.natCast_pow]; rfl
        unfold BitsOk
        rw [hq, hv']
        constructor
        · intro h'
          have h' : (((v % 2 ^ (8 - m)) * 2 ^ m : Nat) : Int) = 0 := by simpa using h'
          have h' : (v % 2 ^ (8 - m)) * 2 ^ m = 0 := by exact_mod_cast h'
          rcases Nat.mul_eq_zero.1 h' with h' | h'
          · exact ⟨hs.1, hs.2, hn, .inr (by exact_mod_cast h')⟩
          · omega
        · rintro ⟨_, _, _, h' | h'⟩
          · exact absurd h' h8
          · have h' : v % 2 ^ (8 - m) = 0 := by exact_mod_cast h'
            rw [h']; simp
    · rw [if_neg hn]
      exact congrArg some (bool_false hb (fun h => hn h.2.2.1)).symm
  · rw [if_neg (by simpa using hs)]
    exact congrArg some (bool_false hb (fun h => hs ⟨h.1, h.2.1⟩)).symm
theorem bits_same (s : Int) (l : List Int) (h : AreBytes l) (hl : l.length ≤ 1048576) : ∃ b, spec_GoodBits.f s l = some b ∧ Ev (fun k => impl_GoodBits.f k s l) b ∧ (b = true ↔ BitsOk s l) := by
  obtain ⟨b, hb⟩ := bool_of (BitsOk s l)
  exact ⟨b, bits_spec s l h b hb, bits_impl s l h hl b hb, hb⟩
theorem szByteS_some (xs : List Int) (g : xs.length * 1 ≤ 140737488351232 ∧ ∀ y ∈ xs, InU8 y) (left : Int) (h0 : 0 ≤ left) (h1 : left ≤ 1048576) : ∃ r, Ev (fun _ => laws_szByteS.f xs left) r ∧ (r < 0 ∨ 0 ≤ r ∧ r ≤ left ∧ xs.length ≤ 1048576) := by
  have g1 := g.1
  unfold laws_szByteS.f
  rw [w64 (n := left - (xs.length : Int)) (by omega) (by omega)]
  refine exev_ite (fun _ => exev_some (.inl (by omega))) fun hc => ?_
  exact exev_some (.inr ⟨by omega, by omega, by omega⟩)
theorem szBits_some (a0 : Int) (l1 : List Int) (ga0 : In64 a0) (gl1 : l1.length * 1 ≤ 140737488351232 ∧ ∀ y ∈ l1, InU8 y) (left : Int) (h0 : 0 ≤ left) (h1 : left ≤ 1048576) : ∃ r, Ev (fun _ => laws_szBits.f a0 l1 left) r ∧ (r < 0 ∨ 0 ≤ r ∧ r ≤ left ∧ (l1.length ≤ 1048576)) := by
  unfold laws_szBits.f
  obtain ⟨r0, hr0, hq0⟩ := szByteS_some l1 gl1 (left) (by omega) (by omega)
  refine exev_bind hr0 (exev_ite (fun _ => exev_some (.inl (by omega))) fun c0 => ?_)
  rcases hq0 with hq0 | ⟨u0, v0, w0⟩
  · omega
  exact exev_some (.inr ⟨by omega, by omega, w0⟩)
theorem toByteS_ev (xs : List Int) (h : xs.length ≤ 1048576) : Ev (fun k => laws_toByteS.f k xs) xs := by
  refine ev_pos (by omega) (ev_pos (by omega) ?_)
  have := ev_copy laws_toByteS.l0 (fun _ xs i => some (rd xs i)) id (fun _ _ _ _ => rfl) xs (by omega) (fun i hi => ev_some (rd_get hi)) (List.replicate (((xs.length : Int) : Int).toNat) 0) (by simp)
  rwa [List.map_id] at this
theorem toBits_ev (a0 : Int) (l1 : List Int) (hl1 : l1.length ≤ 1048576) : Ev (fun k => laws_toBits.f k a0 l1) (a0, l1) := by
  unfold laws_toBits.f
  repeat (first | exact ev_some rfl | refine Ev.bind (toByteS_ev _ hl1) ?_ | refine ev_bindc rfl ?_)
theorem eqByteS_ev (xs : List Int) (h : xs.length ≤ 1048576) : Ev (fun k => laws_eqByteS.f k xs xs) true := by
  refine ev_pos rfl ?_
  refine ev_for1 xs.length (fun k i (_ : Unit) => laws_eqByteS.l0 k xs xs (i : Int)) (fun _ _ => True) true ?_ ?_ 0 () (Nat.zero_le _) trivial
  · intro _ _
    exact Ev.step (fun _ => rfl) (ev_neg (by omega) (ev_some rfl))
  · intro i _ hi _
    refine .inr ⟨(), trivial, fun r hr => Ev.step (fun _ => rfl) (ev_pos (by omega) (ev_pos (by omega) (ev_pos (by omega) ?_)))⟩
    rw [w64s i (by have := h; omega)]
    exact ev_pos rfl hr
theorem eqBits_ev (a0 : Int) (l1 : List Int) (hl1 : l1.length ≤ 1048576) : Ev (fun k => laws_eqBits.f k a0 l1 a0 l1) true := by
  unfold laws_eqBits.f
  repeat (first | exact ev_some rfl | refine Ev.bind (eqByteS_ev l1 hl1) ?_ | refine ev_pos rfl ?_ | refine ev_neg (by simp) ?_)
def MarkByteS (x : Int) (c d : Int) : Prop := x = (c) % 256 ∧ d = c + 1
theorem markByteS_ev (xs : List Int) (hl : xs.length ≤ 1048576) (c : Int) (hc0 : 0 ≤ c) (hc1 : c ≤ 1152921504606846976) :
    ∃ ys d, Chain MarkByteS ys c d ∧ c ≤ d ∧ d ≤ c + 1 * xs.length ∧ ys.length = xs.length ∧ Ev (fun k => laws_markByteS.f k xs c) (d, ys) := by
  refine ev_mark (fun k zs c i => laws_markByteS.l0 k zs c (i : Int)) MarkByteS (fun _ => True) 1 (by omega) (by omega) ?_ ?_ xs (fun _ _ => trivial) hl c hc0 hc1
  · intro zs c
    exact Ev.step (fun _ => rfl) (ev_neg (by omega) (ev_some rfl))
  · intro zs c i hi h20 _ h0 h1
    refine ⟨_, _, ⟨rfl, rfl⟩, by omega, by omega, fun r hr => Ev.step (fun _ => rfl) (ev_pos (by omega) (ev_pos (by omega) ?_))⟩
    simp only [Int.toNat_natCast, w64s i (by omega), w64 (n := c + 1) (by omega) (by omega)]
    exact hr
theorem heldByteS_ev (ys : List Int) (hl : ys.length ≤ 1048576) (c d : Int) (hc : 0 ≤ c) (hd : d ≤ 2305843009213693952) (h : Chain MarkByteS ys c d) : Ev (fun k => laws_heldByteS.f k ys c) d := by
  refine ev_held (fun k zs c i => laws_heldByteS.l0 k zs c (i : Int)) MarkByteS (fun x c d h => by have := h.2; omega) ?_ ?_ ys hl c d hc hd h
  · intro zs c
    exact Ev.step (fun _ => rfl) (ev_neg (by omega) (ev_some rfl))
  · intro zs c c' i hi h20 hE h0 h1 r hr
    obtain ⟨hx, rfl⟩ := hE
    have hg : rd zs (i : Int) = (c) % 256 := (rd_get hi).trans hx
    refine Ev.step (fun _ => rfl) (ev_pos (by omega) (ev_pos (by omega) ?_))
    rw [hg]
    simp only [w64s i (by omega), w64 (n := c + 1) (by omega) (by omega)]
    exact ev_pos (by trivial) (hr)
theorem bytes_or (x y : Int) : 0 ≤ Go.bits .or .u8 x y ∧ Go.bits .or .u8 x y ≤ 255 := by
  unfold Go.bits
  simp only [IntKind.wrap_u8]
  omega
theorem or_none : ∀ x : Fin 256, Go.bits .or .u8 (x.val : Int) 0 = (x.val : Int) := by decide +kernel
theorem or_zero (x : Int) (h0 : 0 ≤ x) (h1 : x ≤ 255) : Go.bits .or .u8 x 0 = x := by
  have := or_none ⟨x.toNat, by omega⟩
  rw [show (((⟨x.toNat, by omega⟩ : Fin 256).val : Nat) : Int) = x by simp; omega] at this
  exact this
theorem one_at : ∀ r : Fin 8, (shl .i64 1 ((7 - r.val : Nat) : Int)) % 256 = shr .u8 128 (r.val : Int) := by decide +kernel
theorem none_at : ∀ r : Fin 8, (shl .i64 0 ((7 - r.val : Nat) : Int)) % 256 = 0 := by decide +kernel
theorem most_at : ∀ m : Fin 33, wrap64 ((shl .i64 1 (m.val : Int)) - 1) ≤ 4294967295 := by decide +kernel
theorem many_some (m : Int) : impl_isMany.f m = some (decide (0 ≤ m ∧ m ≤ 32)) := by
  unfold impl_isMany.f
  rw [in_same, in_some]; rfl
theorem bytes_set {l : List Int} (h : AreBytes l) (i : Nat) (x y : Int) : AreBytes (l.set i (Go.bits .or .u8 x y)) := by
  intro z hz
  rcases List.mem_or_eq_of_mem_set hz with h1 | rfl
  · exact h z h1
  · exact bytes_or x y
theorem bit_val (v : Int) (hv0 : 0 ≤ v) (hv1 : v ≤ 4294967295) (n : Nat) (hn : n ≤ 32) : Go.bits .and .i64 (shr .i64 v (n : Int)) 1 = 0 ∨ Go.bits .and .i64 (shr .i64 v (n : Int)) 1 = 1 := by
  have hsh : shr .i64 v (n : Int) = v / 2 ^ n := by
    unfold shr
    rw [Int.toNat_natCast, Nat.min_eq_left (show n ≤ IntKind.i64.bits from (by omega : n ≤ 64))]
  have hp : (0 : Int) < 2 ^ n := Int.pow_pos (by omega)
  have q0 : 0 ≤ v / 2 ^ n := Int.ediv_nonneg hv0 (Int.le_of_lt hp)
  have q1 : v / 2 ^ n ≤ v := Int.ediv_le_self _ hv0
  rw [hsh]
  generalize v / 2 ^ n = z at q0 q1
  have h2 : z < 4611686018427387904 := by omega
  rw [and64 1 1 z rfl (by decide) q0 h2]
  show z % 2 = 0 ∨ z % 2 = 1
  omega
def SpecRest (k : Nat) (v : Int) (n s : Nat) (y : List Int) : Option (Int × List Int) := (if 0 ≤ (n : Int) then (if (Go.bits .and .i64 (shr .i64 v (n : Int)) 1) = 1 then (if 0 ≤ ((s / 8 : Nat) : Int) then (if ((s / 8 : Nat) : Int) < (y.length : Int) then (if 0 ≤ ((s % 8 : Nat) : Int) then (spec_l23Put.l0 k v ((n : Int) - 1) ((s + 1 : Nat) : Int) (y.set (((s / 8 : Nat) : Int)).toNat (Go.bits .or .u8 (rd y ((s / 8 : Nat) : Int)) (shr .u8 128 ((s % 8 : Nat) : Int))))) else (none)) else (none)) else (none)) else (spec_l23Put.l0 k v ((n : Int) - 1) ((s + 1 : Nat) : Int) y)) else (none))
def ImplRest (k : Nat) (v : Int) (n s : Nat) (y : List Int) : Option (Int × List Int) := (if 0 ≤ ((s / 8 : Nat) : Int) then (if ((s / 8 : Nat) : Int) < (y.length : Int) then (if 0 ≤ (n : Int) then (if 0 ≤ ((7 - s % 8 : Nat) : Int) then (impl_Bits_put.l0 k v ((n : Int) - 1) ((s + 1 : Nat) : Int) (y.set (((s / 8 : Nat) : Int)).toNat (Go.bits .or .u8 (rd y ((s / 8 : Nat) : Int)) ((shl .i64 (Go.bits .and .i64 (shr .i64 v (n : Int)) 1) ((7 - s % 8 : Nat) : Int)) % 256)))) else (none)) else (none)) else (none)) else (none))
theorem put_room (v : Int) (hv0 : 0 ≤ v) (hv1 : v ≤ 4294967295) (n : Nat) (hn : n ≤ 32) (s : Nat) (y : List Int) (hy : AreBytes y) (hyl : y.length = s / 8 + 1) (r : Int)
    (ih : ∀ z : List Int, AreBytes z → z.length = s / 8 + 1 → ∃ l' : List Int, Ev (fun k => spec_l23Put.l0 k v ((n : Int) - 1) ((s + 1 : Nat) : Int) z) (r, l') ∧ Ev (fun k => impl_Bits_put.l0 k v ((n : Int) - 1) ((s + 1 : Nat) : Int) z) (r, l') ∧ l'.length ≤ 1048576) :
    ∃ l' : List Int, Ev (fun k => SpecRest k v n s y) (r, l') ∧ Ev (fun k => ImplRest k v n s y) (r, l') ∧ l'.length ≤ 1048576 := by
  have hq : s / 8 < y.length := by omega
  have hr : s % 8 < 8 := by omega
  have one : (shl .i64 1 ((7 - s % 8 : Nat) : Int)) % 256 = shr .u8 128 ((s % 8 : Nat) : Int) := one_at ⟨s % 8, hr⟩
  have zero : (shl .i64 0 ((7 - s % 8 : Nat) : Int)) % 256 = 0 := none_at ⟨s % 8, hr⟩
  rcases bit_val v hv0 hv1 n hn with h0 | h1
  · obtain ⟨r0, r1⟩ := rd_byte hy hq
    have hset : y.set (((s / 8 : Nat) : Int)).toNat (Go.bits .or .u8 (rd y ((s / 8 : Nat) : Int)) 0) = y := by
      rw [or_zero _ r0 r1, Int.toNat_natCast, rd_get hq]
      exact List.set_getElem_self hq
    obtain ⟨l', a, b, c⟩ := ih y hy hyl
    refine ⟨l', ?_, ?_, c⟩
    · exact ev_pos (Int.natCast_nonneg _) (ev_neg (by rw [h0]; decide) a)
    · unfold ImplRest
      rw [h0, zero, hset]
      exact ev_pos (Int.natCast_nonneg _) (ev_pos (cast_lt hq) (ev_pos (Int.natCast_nonneg _) (ev_pos (Int.natCast_nonneg _) b)))
  · obtain ⟨l', a, b, c⟩ := ih (y.set (((s / 8 : Nat) : Int)).toNat (Go.bits .or .u8 (rd y ((s / 8 : Nat) : Int)) (shr .u8 128 ((s % 8 : Nat) : Int)))) (bytes_set hy _ _ _) (by rw [List.length_set]; exact hyl)
    refine ⟨l', ?_, ?_, c⟩
    · exact ev_pos (Int.natCast_nonneg _) (ev_pos h1 (ev_pos (Int.natCast_nonneg _) (ev_pos (cast_lt hq) (ev_pos (Int.natCast_nonneg _) a))))
    · unfold ImplRest
      rw [h1, one]
      exact ev_pos (Int.natCast_nonneg _) (ev_pos (cast_lt hq) (ev_pos (Int.natCast_nonneg _) (ev_pos (Int.natCast_nonneg _) b)))
theorem spec_room (k : Nat) (v : Int) (n s : Nat) (hn : n ≤ 32) (hs : s ≤ 4000) (y : List Int) : (if 0 ≤ (IntKind.u64.wrap (n : Int)) then (if (Go.bits .and .i64 (shr .i64 v (IntKind.u64.wrap (n : Int))) 1) = 1 then (if 0 ≤ (wrap64 (Int.tdiv (s : Int) 8)) then (if (wrap64 (Int.tdiv (s : Int) 8)) < (y.length : Int) then (if 0 ≤ (IntKind.u64.wrap (Int.tmod (s : Int) 8)) then (spec_l23Put.l0 k v (wrap64 ((n : Int) - 1)) (wrap64 ((s : Int) + 1)) (y.set ((wrap64 (Int.tdiv (s : Int) 8)) : Int).toNat (Go.bits .or .u8 (rd y (wrap64 (Int.tdiv (s : Int) 8))) (shr .u8 128 (IntKind.u64.wrap (Int.tmod (s : Int) 8)))))) else (none)) else (none)) else (none)) else (spec_l23Put.l0 k v (wrap64 ((n : Int) - 1)) (wrap64 ((s : Int) + 1)) y)) else (none)) = SpecRest k v n s y := by
  have e1 : Int.tmod (s : Int) 8 = ((s % 8 : Nat) : Int) := by rw [Int.tmod_eq_emod_of_nonneg (by omega)]; omega
  have e2 : wrap64 (Int.tdiv (s : Int) 8) = ((s / 8 : Nat) : Int) := by rw [Int.tdiv_eq_ediv_of_nonneg (by omega)]; rw [w64 (by omega) (by omega)]; omega
  have e3 : IntKind.u64.wrap (n : Int) = (n : Int) := wrap_u64 (by omega) (by omega)
  have e4 : IntKind.u64.wrap ((s % 8 : Nat) : Int) = ((s % 8 : Nat) : Int) := wrap_u64 (by omega) (by omega)
  have e6 : wrap64 ((s : Int) + 1) = ((s + 1 : Nat) : Int) := by rw [w64 (by omega) (by omega)]; omega
  have e7 : wrap64 ((n : Int) - 1) = (n : Int) - 1 := w64 (by omega) (by omega)
  rw [e1, e2, e3, e4, e6, e7]; rfl
theorem impl_room (k : Nat) (v : Int) (n s : Nat) (hn : n ≤ 32) (hs : s ≤ 4000) (y : List Int) : (if 0 ≤ (wrap64 (Int.tdiv (s : Int) 8)) then (if (wrap64 (Int.tdiv (s : Int) 8)) < (y.length : Int) then (if 0 ≤ (n : Int) then (if 0 ≤ (wrap64 (7 - (Int.tmod (s : Int) 8))) then (impl_Bits_put.l0 k v (wrap64 ((n : Int) - 1)) (wrap64 ((s : Int) + 1)) (y.set ((wrap64 (Int.tdiv (s : Int) 8)) : Int).toNat (Go.bits .or .u8 (rd y (wrap64 (Int.tdiv (s : Int) 8))) ((shl .i64 (Go.bits .and .i64 (shr .i64 v (n : Int)) 1) (wrap64 (7 - (Int.tmod (s : Int) 8)))) % 256)))) else (none)) else (none)) else (none)) else (none)) = ImplRest k v n s y := by
  have e1 : Int.tmod (s : Int) 8 = ((s % 8 : Nat) : Int) := by rw [Int.tmod_eq_emod_of_nonneg (by omega)]; omega
  have e2 : wrap64 (Int.tdiv (s : Int) 8) = ((s / 8 : Nat) : Int) := by rw [Int.tdiv_eq_ediv_of_nonneg (by omega)]; rw [w64 (by omega) (by omega)]; omega
  have e5 : wrap64 (7 - ((s % 8 : Nat) : Int)) = ((7 - s % 8 : Nat) : Int) := by rw [w64 (by omega) (by omega)]; omega
  have e6 : wrap64 ((s : Int) + 1) = ((s + 1 : Nat) : Int) := by rw [w64 (by omega) (by omega)]; omega
  have e7 : wrap64 ((n : Int) - 1) = (n : Int) - 1 := w64 (by omega) (by omega)
  rw [e1, e2, e5, e6, e7]; rfl
theorem put_same (v : Int) (hv0 : 0 ≤ v) (hv1 : v ≤ 4294967295) : ∀ n : Nat, n ≤ 33 → ∀ (x : Int) (s : Nat) (l : List Int), x = (n : Int) - 1 → AreBytes l → l.length = (s + 7) / 8 → s + n ≤ 4000 →
    ∃ l' : List Int, Ev (fun k => spec_l23Put.l0 k v x (s : Int) l) (((s + n : Nat) : Int), l') ∧ Ev (fun k => impl_Bits_put.l0 k v x (s : Int) l) (((s + n : Nat) : Int), l') ∧ l'.length ≤ 1048576 := by
  intro n
  induction n with
  | zero =>
    intro _ x s l hx _ hl hs
    exact ⟨l, st_spec_l23Put_l0 (ev_neg (by omega) (ev_some rfl)), st_impl_Bits_put_l0 (ev_neg (by omega) (ev_some rfl)), by omega⟩
  | succ n ih =>
    intro hn x s l hx hb hl hs
    obtain rfl : x = (n : Int) := by omega
    have e1 : Int.tmod (s : Int) 8 = ((s % 8 : Nat) : Int) := by rw [Int.tmod_eq_emod_of_nonneg (by omega)]; omega
    have next : ∀ z : List Int, AreBytes z → z.length = s / 8 + 1 → ∃ l' : List Int, Ev (fun k => spec_l23Put.l0 k v ((n : Int) - 1) ((s + 1 : Nat) : Int) z) (((s + (n + 1) : Nat) : Int), l') ∧ Ev (fun k => impl_Bits_put.l0 k v ((n : Int) - 1) ((s + 1 : Nat) : Int) z) (((s + (n + 1) : Nat) : Int), l') ∧ l'.length ≤ 1048576 := by
      intro z hz hzl
      have := ih (by omega) _ (s + 1) z rfl hz (by omega) (by omega)
      rwa [show s + 1 + n = s + (n + 1) by omega] at this
    have hgo : (n : Int) ≥ 0 := Int.natCast_nonneg _
    by_cases h8 : s % 8 = 0
    · have hy : AreBytes (l ++ [0]) := by
        intro z hz
        rcases List.mem_append.1 hz with h | h
        · exact hb z h
        · obtain rfl := List.mem_singleton.1 h
          exact ⟨by decide, by decide⟩
      have hlim : l.length < 140737488355328 := by omega
      have h8' : ((s % 8 : Nat) : Int) = 0 := by omega
      obtain ⟨l', a, b, c⟩ := put_room v hv0 hv1 n (by omega) s (l ++ [0]) hy (by simp; omega) _ next
      refine ⟨l', st_spec_l23Put_l0 (ev_pos hgo ?_), st_impl_Bits_put_l0 (ev_pos hgo ?_), c⟩
      · refine ev_pos (by rw [e1]; exact h8') (ev_pos hlim (ev_bindc rfl ?_))
        simp only [spec_room _ v n s (by omega) (by omega)]
        exact a
      · refine ev_pos (by rw [e1]; exact h8') (ev_pos hlim (ev_bindc rfl ?_))
        simp only [impl_room _ v n s (by omega) (by omega)]
        exact b
    · have h8' : ¬ ((s % 8 : Nat) : Int) = 0 := by omega
      obtain ⟨l', a, b, c⟩ := put_room v hv0 hv1 n (by omega) s l hb (by omega) _ next
      refine ⟨l', st_spec_l23Put_l0 (ev_pos hgo ?_), st_impl_Bits_put_l0 (ev_pos hgo ?_), c⟩
      · refine ev_neg (by rw [e1]; exact h8') ?_
        simp only [spec_room _ v n s (by omega) (by omega)]
        exact a
      · refine ev_neg (by rw [e1]; exact h8') ?_
        simp only [impl_room _ v n s (by omega) (by omega)]
        exact b
theorem put_bits (s : Int) (l : List Int) (h : AreBytes l) (hl : l.length ≤ 1048576) (v m : Int) :
    ∃ (a : Int) (y : List Int) (b : Bool), Ev (fun k => spec_PutBits.f k s l v m) (a, y, b) ∧ Ev (fun k => impl_PutBits.f k s l v m) (a, y, b) ∧ y.length ≤ 1048576 := by
  have sno : ∀ v m, Ev (fun k => spec_PutBits.j0 k v m true s l) (0, [], false) := fun v m => st_spec_PutBits_j0 (ev_pos rfl (ev_some rfl))
  have ino : ∀ v m, Ev (fun k => impl_PutBits.j0 k v m true s l) (0, [], false) := fun v m => st_impl_PutBits_j0 (ev_pos rfl (ev_some rfl))
  obtain ⟨b, hs, hi, hb⟩ := bits_same s l h hl
  cases b with
  | false => exact ⟨0, [], false, ev_bindc hs (ev_neg (by decide) (sno _ _)), Ev.bind hi (ev_neg (by decide) (ino _ _)), by simp⟩
  | true =>
    have hok := hb.1 rfl
    by_cases hm : 0 ≤ m ∧ m ≤ 32
    · have hm' : decide (0 ≤ m ∧ m ≤ 32) = true := decide_eq_true hm
      obtain ⟨m, rfl⟩ := Int.eq_ofNat_of_zero_le hm.1
      have eu : IntKind.u64.wrap (m : Int) = m := wrap_u64 (by omega) (by omega)
      have most : wrap64 ((shl .i64 1 (m : Int)) - 1) ≤ 4294967295 := most_at ⟨m, by omega⟩
      by_cases hv : 0 ≤ v ∧ v ≤ wrap64 ((shl .i64 1 (m : Int)) - 1)
      · have hv' := decide_eq_true hv
        have e1 : wrap64 (4000 - (m : Int)) = 4000 - m := w64 (by omega) (by omega)
        have e2 : wrap64 (s + (m : Int)) = s + m := w64 (by have := hok.1; omega) (by have := hok.2.1; omega)
        have e3 : wrap64 ((m : Int) - 1) = (m : Int) - 1 := w64 (by omega) (by omega)
        have S : ∀ r, Ev (fun k => spec_PutBits.j0 k v (m : Int) (decide (s > 4000 - (m : Int))) s l) r → Ev (fun k => spec_PutBits.f k s l v (m : Int)) r := fun r hr =>
          ev_bindc hs (ev_pos rfl (ev_bindc (in_some _ _ _) (ev_pos hm' (ev_pos (by omega) (ev_bindc (in_some _ _ _) (ev_pos (by rw [eu]; exact hv') (by rw [e1]; exact hr)))))))
        have I : ∀ r, Ev (fun k => impl_PutBits.j0 k v (m : Int) (decide (s + (m : Int) > 4000)) s l) r → Ev (fun k => impl_PutBits.f k s l v (m : Int)) r := fun r hr =>
          Ev.bind hi (ev_pos rfl (ev_bindc (many_some _) (ev_pos hm' (ev_pos (by omega) (ev_bindc ((in_same _ _ _).trans (in_some _ _ _)) (ev_pos hv' (by rw [e2]; exact hr)))))))
        by_cases hf : s + m ≤ 4000
        · obtain ⟨s, rfl⟩ := Int.eq_ofNat_of_zero_le hok.1
          obtain ⟨l', a, b, c⟩ := put_same v hv.1 (Int.le_trans hv.2 most) m (by omega) _ s l rfl h (by have := hok.2.2.1; omega) (by omega)
          refine ⟨((s + m : Nat) : Int), l', true, S _ ?_, I _ ?_, c⟩
          · rw [decide_eq_false (by omega)]
            refine st_spec_PutBits_j0 (ev_neg (by decide) (ev_bindc (a := ((s : Int), l)) ?_ (Ev.bind (a := (((s + m : Nat) : Int), l')) ?_ (ev_some rfl))))
            · unfold spec_l23Own.f
              rw [Option.bind_some, if_pos (by simp; omega), List.nil_append]
            · show Ev (fun k => spec_l23Put.l0 k v (wrap64 ((m : Int) - 1)) (s : Int) l) _
              rw [e3]; exact a
          · rw [decide_eq_false (by omega)]
            refine st_impl_PutBits_j0 (ev_neg (by decide) (ev_bindc (a := l) (if_pos (by omega)) (Ev.bind (a := (((s + m : Nat) : Int), l')) ?_ (ev_some rfl))))
            show Ev (fun k => impl_Bits_put.l0 k v (wrap64 ((m : Int) - 1)) (s : Int) l) _
            rw [e3]; exact b
        · refine ⟨0, [], false, S _ ?_, I _ ?_, by simp⟩
          · rw [decide_eq_true (by omega)]; exact sno _ _
          · rw [decide_eq_true (by omega)]; exact ino _ _
      · have hv' : ¬ decide (0 ≤ v ∧ v ≤ wrap64 ((shl .i64 1 (m : Int)) - 1)) = true := by simpa using hv
        exact ⟨0, [], false, ev_bindc hs (ev_pos rfl (ev_bindc (in_some _ _ _) (ev_pos hm' (ev_pos (by omega) (ev_bindc (in_some _ _ _) (ev_neg (by rw [eu]; exact hv') (sno _ _))))))),
          Ev.bind hi (ev_pos rfl (ev_bindc (many_some _) (ev_pos hm' (ev_pos (by omega) (ev_bindc ((in_same _ _ _).trans (in_some _ _ _)) (ev_neg hv' (ino _ _))))))), by simp⟩
    · have hm' : ¬ decide (0 ≤ m ∧ m ≤ 32) = true := by simpa using hm
      exact ⟨0, [], false, ev_bindc hs (ev_pos rfl (ev_bindc (in_some _ _ _) (ev_neg hm' (sno _ _)))), Ev.bind hi (ev_pos rfl (ev_bindc (many_some _) (ev_neg hm' (ino _ _)))), by simp⟩
theorem FnExactPutBits : ∀ (a0_0 : Int) (l0_1 : List (Int)) (a1 : Int) (a2 : Int), (In64 a0_0) → (l0_1.length * 1 ≤ 140737488351232 ∧ ∀ y ∈ l0_1, InU8 y) → (In64 a1) → (In64 a2) → ∃ k, laws_FnExactPutBits.f k a0_0 l0_1 a1 a2 = some true := by
  intro s xs v m hs0 hx0 hv hm
  refine Ev.rounds (g := fun k => laws_FnExactPutBits.f k s xs v m) ?_
  obtain ⟨r, hr, h | ⟨h0, h1, hx⟩⟩ := szBits_some s xs hs0 hx0 1048576 (by omega) (by omega)
  · exact Ev.bind hr (ev_pos h (ev_some rfl))
  · have hx : xs.length ≤ 1048576 := hx
    have tx := toBits_ev s xs hx
    obtain ⟨a, y, b, hs, hi, hl⟩ := put_bits s xs hx0.2 hx v m
    have ee := eqBits_ev a y hl
    obtain ⟨y1, d1, _, p0, p1, p2, hm0⟩ := markByteS_ev xs hx 1 (by omega) (by omega)
    obtain ⟨y2, d2, hch, q0, q1, ml, hm2⟩ := markByteS_ev y hl 1 (by omega) (by omega)
    have hh := heldByteS_ev y2 (by omega) 1 d2 (by omega) (by omega) hch
    have mx : Ev (fun k => laws_markBits.f k s xs 1) (d1, y1) := Ev.bind hm0 (ev_some rfl)
    have my : Ev (fun k => laws_markBits.f k a y 1) (d2, y2) := Ev.bind hm2 (ev_some rfl)
    have hy : Ev (fun k => laws_heldBits.f k a y2 1) d2 := Ev.bind hh (ev_neg (by omega) (ev_some rfl))
    have eb : (b != b) = false := by simp
    refine Ev.bind hr (ev_neg (by omega) (Ev.bind tx (Ev.bind hs (Ev.bind tx (Ev.bind hi (Ev.bind ee (ev_pos rfl ?_)))))))
    simp only [eb]
    refine st_laws_FnExactPutBits_j0 (ev_neg (by decide) (Ev.bind tx (Ev.bind (eqBits_ev s xs hx) (ev_pos rfl (Ev.bind mx (ev_neg (by show ¬ d1 < 0; omega) (Ev.bind ee (ev_pos rfl ?_))))))))
    simp only [eb]
    refine st_laws_FnExactPutBits_j1 (ev_neg (by decide) (Ev.bind my (Ev.bind hy (ev_neg (by omega) (ev_pos rfl (Ev.bind tx (Ev.bind hi (Ev.bind ee (ev_pos rfl ?_)))))))))
    simp only [eb]
    exact st_laws_FnExactPutBits_j2 (ev_neg (by decide) (Ev.bind hy (ev_neg (by omega) (ev_pos rfl (ev_some rfl)))))
end Go.Proofs.Ytggfmjfgfjphgaa.Pure
