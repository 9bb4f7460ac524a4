/- The row of the law FnExactStepCloud: the statement as given. No condition. -/
import Derived.Test.YthgfobcckoedaaaRows
import Derived.Test.YthgfobcckoedaaaZFnExactStepCloud8
import Derived.Test.YthgfobcckoedaaaZFnExactStepCloud9
import Derived.WalkKit
import Derived.ProofKit
import Derived.OpenShut
import Derived.ShutString
import Derived.ChangeOld
import Derived.Below
import Derived.SizedLaws
namespace Go.Proofs.Ythgfobcckoedaaa.fnExactStepCloud
open Go.ChangeShapes Go.WideShapes Go.ChangeAt Go.RowKit
open Go.Proofs.Ythgfobcckoedaaa.PFnExactStepCloud Go.Proofs.Ythgfobcckoedaaa.OFnExactStepCloud Go.Proofs.YthgfobcckoedaaaW.PrintWords Go.Proofs.YthgfobcckoedaaaO
open Go.ChangeMaps (open_string shut_string)
theorem own : ownKnob Try.prog.godebug = none := by kernel_rfl
theorem laidOut : laidOutB Try.prog = true := by kernel_rfl
set_option maxRecDepth 100000 in
theorem lifted (os : Os) (started : os.Started) (H : Type) (enc : TypeId × Value → H) :
    ReturnsInHanded {} Try.checked os 4 .any (Rows.fnExactStepCloudSpec.pre6 enc Try.prog Try.f4 Rows.fnExactStepCloudRow.domain false) (Rows.fnExactStepCloudSpec.post enc Try.prog Try.f4 false true false false) := by
  refine returnsInHanded_of_change_sized (C := Try.checked) own started (by kernel_rfl) Try.func4
    (ChangeSpec.witness6 (enc := enc) (C := Try.checked) false ⟨#[], #[.agg #[.int .i64 0, .int .i64 0, .int .i64 0, .int .i64 0, .int .i64 0, .int .i64 0, .int .i64 0], .agg #[.int .i64 0, .int .i64 0, .slice none 0 0]], []⟩ 8 (by kernel_rfl) (by kernel_rfl) (by kernel_rfl) (by kernel_rfl)) ?_
  intro W base args ds gs before hval0 hW hcnd hsz0 _
  have hsz : (DataW.weightsEach Try.prog (Try.f4.params.toList ++ Rows.fnExactStepCloudSpec.plain.varTypes Try.prog) (ds ++ gs)).all (· ≤ reachBytes) = true := hsz0
  have hval : ∀ (j : Nat) t v, Try.f4.params[j]? = some t → args[j]? = some v → Value.okWide Try.prog W .any base t v := hval0
  have hW' := hW
  obtain ⟨p, q, hA0, hV, rfl, hfz, hnd⟩ := hW
  have hA : DataW.TrodAll enc Try.prog W 0 (fun _ => true) true Try.f4.params.toList args.toList ds p := hA0
  rw [Try.params4] at hA hval hsz
  obtain ⟨v0, vs0, d0, ds0, p0, q0, hargs, rfl, rfl, h0, r0⟩ := trodAll_cons hA
  obtain ⟨v1, vs1, d1, ds1, p1, q1, rfl, rfl, rfl, h1, r1⟩ := trodAll_cons r0
  obtain ⟨rfl, rfl, rfl⟩ := trodAll_nil r1
  obtain rfl : args = #[v0, v1] := by cases args; simp_all
  obtain ⟨rfl, rfl⟩ := trodVars_none hV
  have k0 := h0
  have lt0 : ∀ x ∈ p0, x.block < W.heap.size := by obtain ⟨m, hm⟩ := k0; exact DataW.trod_lt m _ _ _ hm
  have z0 := weights_of hsz (j := 0) (t := 23) rfl rfl
  obtain ⟨cs0, rfl, _⟩ := okWide_struct Try.underlying23 (hval 0 23 v0 rfl rfl)
  obtain ⟨x0, hk0, hg0⟩ := open_agg (opens_struct Try.underlying23 (by kernel_rfl) (opensL_cons rfl (by kernel_rfl) (opens_i64 Try.underlying3) (opensL_cons rfl (by kernel_rfl) (opens_i64 Try.underlying3) (opensL_cons rfl (by kernel_rfl) (opens_i64 Try.underlying3) (opensL_cons rfl (by kernel_rfl) (opens_i64 Try.underlying3) (opensL_cons rfl (by kernel_rfl) (opens_i64 Try.underlying3) (opensL_cons rfl (by kernel_rfl) (opens_i64 Try.underlying3) (opensL_one rfl (by kernel_rfl) (opens_i64 Try.underlying3))))))))) h0 z0
  obtain ⟨a0_0, a0_1, a0_2, a0_3, a0_4, a0_5, a0_6⟩ := x0
  obtain ⟨ga0_0, ga0_1, ga0_2, ga0_3, ga0_4, ga0_5, ga0_6⟩ := hg0
  obtain ⟨_, _, hl0, rfl, ⟨_, _, rfl, rfl, ⟨_, _, rfl, rfl, ⟨_, _, rfl, rfl, ⟨_, _, rfl, rfl, ⟨_, _, rfl, rfl, rfl⟩⟩⟩⟩⟩⟩ := hk0
  obtain rfl : cs0 = #[.int .i64 a0_0, .int .i64 a0_1, .int .i64 a0_2, .int .i64 a0_3, .int .i64 a0_4, .int .i64 a0_5, .int .i64 a0_6] := Array.toList_inj.1 (by rw [hl0]; rfl)
  have k1 := h1
  have lt1 : ∀ x ∈ p1, x.block < W.heap.size := by obtain ⟨m, hm⟩ := k1; exact DataW.trod_lt m _ _ _ hm
  have z1 := weights_of hsz (j := 1) (t := 31) rfl rfl
  obtain ⟨cs1, rfl, _⟩ := okWide_struct Try.underlying31 (hval 1 31 v1 rfl rfl)
  obtain ⟨x1, hk1, hg1⟩ := open_agg (opens_struct Try.underlying31 (by kernel_rfl) (opensL_cons rfl (by kernel_rfl) (opens_i64 Try.underlying3) (opensL_cons rfl (by kernel_rfl) (opens_i64 Try.underlying3) (opensL_one rfl (by kernel_rfl) (opens_slice Try.underlying29 (by kernel_rfl) (B := 40) (by kernel_rfl) opens68))))) h1 z1
  obtain ⟨a1_0, a1_1, l1_2⟩ := x1
  obtain ⟨ga1_0, ga1_1, gl1_2⟩ := hg1
  obtain ⟨_, _, hl1, rfl, ⟨_, _, rfl, rfl, ⟨A1_2, c1_2, rfl, hc1_2, hr1_2⟩⟩⟩ := hk1
  obtain rfl : cs1 = #[.int .i64 a1_0, .int .i64 a1_1, .slice A1_2 l1_2.length c1_2] := Array.toList_inj.1 (by rw [hl1]; rfl)
  clear hA0 hval0 hsz0 hsz
  obtain ⟨k, h⟩ := Pure.FnExactStepCloud a0_0 a0_1 a0_2 a0_3 a0_4 a0_5 a0_6 a1_0 a1_1 l1_2 ga0_0 ga0_1 ga0_2 ga0_3 ga0_4 ga0_5 ga0_6 ga1_0 ga1_1 gl1_2
  refine (laws_FnExactStepCloud.calls k a0_0 a0_1 a0_2 a0_3 a0_4 a0_5 a0_6 a1_0 a1_1 _ _ l1_2 true W hr1_2 hc1_2 h).mono fun e W' ⟨he, bel⟩ => ?_
  subst he
  exact ⟨_, rfl, _, _, _, [], _, [], hW', trodAll_mk1 (shut_bool Try.underlying4 _), (trodAll_cons_mk (Below.trod laidOut (by kernel_rfl) (of_decide_eq_true (by kernel_rfl)) k0 bel lt0) (trodAll_cons_mk (Below.trod laidOut (by kernel_rfl) (of_decide_eq_true (by kernel_rfl)) k1 bel lt1) trodAll_mk0)), rfl, bel.frame _, fun h => by cases h⟩
theorem over : Rows.fnExactStepCloudRow.holds Try.pinned (OpenSpec.ofChange Rows.fnExactStepCloudSpec) :=
  OpenClaim.holds_of_wide 4 Try.f4 rfl rfl rfl rfl rfl rfl rfl ⟨rfl, rfl, rfl, rfl, rfl⟩ rfl rfl rfl rfl rfl (by kernel_rfl) Try.func4 (by kernel_rfl)
    (of_decide_eq_true (by kernel_rfl)) (by unfold Func.isWrapper; first | (rw [if_pos (by decide +kernel)]; kernel_rfl) | (rw [if_neg (by decide +kernel)]; exact ⟨rfl, rfl⟩))
    (fun os started H enc _ => lifted os started H enc)
theorem proved : Rows.FnExactStepCloudSaid := over
#print axioms proved
end Go.Proofs.Ythgfobcckoedaaa.fnExactStepCloud
namespace Go.Proofs.Ythgfobcckoedaaa
theorem fnExactStepCloud_holds : Rows.FnExactStepCloudSaid := fnExactStepCloud.proved
end Go.Proofs.Ythgfobcckoedaaa
