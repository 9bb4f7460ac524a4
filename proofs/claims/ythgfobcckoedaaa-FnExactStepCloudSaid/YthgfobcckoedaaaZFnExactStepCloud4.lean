/- Texts of the row of the law FnExactStepCloud, laid together. -/
import Derived.Test.YthgfobcckoedaaaZFnExactStepCloud3
namespace Go.Proofs.Ythgfobcckoedaaa.PFnExactStepCloud
open Go.RowKit Go.Proofs.YthgfobcckoedaaaW.PrintWords Go.Proofs.YthgfobcckoedaaaW.PrintLast Go.Proofs.YthgfobcckoedaaaW.PrintMore
attribute [local go_sem] max2_int min2_int max_two min_two max_three min_three max_four min_four   -- for this text's walks alone
set_option linter.unusedVariables false
set_option linter.unusedSimpArgs false
mutual
def spec_StepCloud.j0 : Nat → Bool → Int → Int → Int → Int → Int → Int → Int → Int → Int → List (S48) → Option (Int × Int × (List (S48)) × Bool)
 | 0, _, _, _, _, _, _, _, _, _, _, _ => none
 | k + 1, x27, x171000, x171001, x171002, x171003, x171004, x171005, x171006, x172000, x172001, x172002 => if x27 = true then (some (0, 0, ([] : List (S48)), false)) else (spec_StepCloud.l0 k x172002 (x172002.length : Int) 0 x171000 x171001 x171002 x171003 x171004 x171005 x171006 x172000 x172001 x172002 x172000 (wrap64 (x172001 + 1)) ([] : List (S48)))
def spec_StepCloud.l0 : Nat → List (S48) → Int → Int → Int → Int → Int → Int → Int → Int → Int → Int → Int → List (S48) → Int → Int → List (S48) → Option (Int × Int × (List (S48)) × Bool)
 | 0, _, _, _, _, _, _, _, _, _, _, _, _, _, _, _, _ => none
 | k + 1, x36, x37, x38, x171000, x171001, x171002, x171003, x171004, x171005, x171006, x172000, x172001, x172002, x176000, x176001, x176002 => if x38 < x37 then (if 0 ≤ x38 then (if x38 < (x36.length : Int) then (if (wrap64 (((rd_T48 x36 x38).f4) - 1)) = 0 then (spec_StepCloud.l0 k x36 x37 (wrap64 (x38 + 1)) x171000 x171001 x171002 x171003 x171004 x171005 x171006 x172000 x172001 x172002 x176000 x176001 x176002) else (if x176002.length < 3518437208883 then (spec_StepCloud.l0 k x36 x37 (wrap64 (x38 + 1)) x171000 x171001 x171002 x171003 x171004 x171005 x171006 x172000 x172001 x172002 x176000 x176001 (x176002 ++ [(⟨wrap64 (((rd_T48 x36 x38).f0) + ((rd_T48 x36 x38).f2)), wrap64 (((rd_T48 x36 x38).f1) + ((rd_T48 x36 x38).f3)), (rd_T48 x36 x38).f2, wrap64 (((rd_T48 x36 x38).f3) - x171006), wrap64 (((rd_T48 x36 x38).f4) - 1)⟩ : S48)])) else (none))) else (none)) else (none)) else (if x171002 = 0 then (none) else (if (Int.tmod x172001 x171002) = 0 then (spec_StepCloud.l1 k 0 x171000 x171001 x171002 x171003 x171004 x171005 x171006 x176000 x176001 x176002) else ((spec_GoodCloud.f k x176000 x176001 x176002).bind fun t193 => (if t193 = true then (some (x176000, x176001, x176002, true)) else (some (0, 0, ([] : List (S48)), false))))))
def spec_StepCloud.l1 : Nat → Int → Int → Int → Int → Int → Int → Int → Int → Int → Int → List (S48) → Option (Int × Int × (List (S48)) × Bool)
 | 0, _, _, _, _, _, _, _, _, _, _, _ => none
 | k + 1, x9, x171000, x171001, x171002, x171003, x171004, x171005, x171006, x176000, x176001, x176002 => if x9 < x171003 then (spec_StepCloud.j3 k x9 (decide ((x176002.length : Int) < 60)) x171000 x171001 x171002 x171003 x171004 x171005 x171006 x176000 x176001 x176002) else (spec_StepCloud.j3 k x9 false x171000 x171001 x171002 x171003 x171004 x171005 x171006 x176000 x176001 x176002)
def spec_StepCloud.j3 : Nat → Int → Bool → Int → Int → Int → Int → Int → Int → Int → Int → Int → List (S48) → Option (Int × Int × (List (S48)) × Bool)
 | 0, _, _, _, _, _, _, _, _, _, _, _, _ => none
 | k + 1, x9, x89, x171000, x171001, x171002, x171003, x171004, x171005, x171006, x176000, x176001, x176002 => if x89 = true then ((spec_l1Coin.f x176000).bind fun bt182 => ((spec_l1Coin.f bt182.1).bind fun bt184 => ((spec_CosOf.f k (Int.tmod bt182.2 4096)).bind fun t186 => ((spec_FixMul.f k (wrap64 (Int.tdiv (wrap64 (x171005 * bt184.2)) 32768)) t186).bind fun t187 => ((spec_SinOf.f k (Int.tmod bt182.2 4096)).bind fun t188 => ((spec_FixMul.f k (wrap64 (Int.tdiv (wrap64 (x171005 * bt184.2)) 32768)) t188).bind fun t189 => (if x176002.length < 3518437208883 then (spec_StepCloud.l1 k (wrap64 (x9 + 1)) x171000 x171001 x171002 x171003 x171004 x171005 x171006 bt184.1 x176001 (x176002 ++ [(⟨x171000, x171001, t187, t189, x171004⟩ : S48)])) else (none)))))))) else ((spec_GoodCloud.f k x176000 x176001 x176002).bind fun t181 => (if t181 = true then (some (x176000, x176001, x176002, true)) else (some (0, 0, ([] : List (S48)), false))))
end
def spec_StepCloud.f (k : Nat) (a0_0 : Int) (a0_1 : Int) (a0_2 : Int) (a0_3 : Int) (a0_4 : Int) (a0_5 : Int) (a0_6 : Int) (a1_0 : Int) (a1_1 : Int) (l1_2 : List (S48)) : Option (Int × Int × (List (S48)) × Bool) := (spec_GoodEmitter.f a0_0 a0_1 a0_2 a0_3 a0_4 a0_5 a0_6).bind fun t173 => (if t173 = true then ((spec_GoodCloud.f k a1_0 a1_1 l1_2).bind fun t174 => (if t174 = true then (spec_StepCloud.j0 k (a1_1 == 200) a0_0 a0_1 a0_2 a0_3 a0_4 a0_5 a0_6 a1_0 a1_1 l1_2) else (spec_StepCloud.j0 k true a0_0 a0_1 a0_2 a0_3 a0_4 a0_5 a0_6 a1_0 a1_1 l1_2))) else (spec_StepCloud.j0 k true a0_0 a0_1 a0_2 a0_3 a0_4 a0_5 a0_6 a1_0 a1_1 l1_2))
theorem spec_StepCloud.mono_l : ∀ k, (∀ y0 y1 y2 y3 y4 y5 y6 y7 y8 y9 y10, LeO (spec_StepCloud.j0 k y0 y1 y2 y3 y4 y5 y6 y7 y8 y9 y10) (spec_StepCloud.j0 (k + 1) y0 y1 y2 y3 y4 y5 y6 y7 y8 y9 y10)) ∧ (∀ y0 y1 y2 y3 y4 y5 y6 y7 y8 y9 y10 y11 y12 y13 y14 y15, LeO (spec_StepCloud.l0 k y0 y1 y2 y3 y4 y5 y6 y7 y8 y9 y10 y11 y12 y13 y14 y15) (spec_StepCloud.l0 (k + 1) y0 y1 y2 y3 y4 y5 y6 y7 y8 y9 y10 y11 y12 y13 y14 y15)) ∧ (∀ y0 y1 y2 y3 y4 y5 y6 y7 y8 y9 y10, LeO (spec_StepCloud.l1 k y0 y1 y2 y3 y4 y5 y6 y7 y8 y9 y10) (spec_StepCloud.l1 (k + 1) y0 y1 y2 y3 y4 y5 y6 y7 y8 y9 y10)) ∧ (∀ y0 y1 y2 y3 y4 y5 y6 y7 y8 y9 y10 y11, LeO (spec_StepCloud.j3 k y0 y1 y2 y3 y4 y5 y6 y7 y8 y9 y10 y11) (spec_StepCloud.j3 (k + 1) y0 y1 y2 y3 y4 y5 y6 y7 y8 y9 y10 y11))
 | 0 => ⟨fun _ _ _ _ _ _ _ _ _ _ _ r h => by simp [spec_StepCloud.j0] at h, fun _ _ _ _ _ _ _ _ _ _ _ _ _ _ _ _ r h => by simp [spec_StepCloud.l0] at h, fun _ _ _ _ _ _ _ _ _ _ _ r h => by simp [spec_StepCloud.l1] at h, fun _ _ _ _ _ _ _ _ _ _ _ _ r h => by simp [spec_StepCloud.j3] at h⟩
 | k + 1 => by
  obtain ⟨ih0, ih1, ih2, ih3⟩ := spec_StepCloud.mono_l k
  refine ⟨?_, ?_, ?_, ?_⟩
  ·intro y0 y1 y2 y3 y4 y5 y6 y7 y8 y9 y10
   unfold spec_StepCloud.j0
   repeat' first
   | (with_reducible exact ih0 _ _ _ _ _ _ _ _ _ _ _)
   | (with_reducible exact ih1 _ _ _ _ _ _ _ _ _ _ _ _ _ _ _ _)
   | (with_reducible exact ih2 _ _ _ _ _ _ _ _ _ _ _)
   | (with_reducible exact ih3 _ _ _ _ _ _ _ _ _ _ _ _)
   | (with_reducible exact spec_CosOf.mono _ _)
   | (with_reducible exact spec_FixMul.mono _ _ _)
   | (with_reducible exact spec_GoodCloud.mono _ _ _ _)
   | (with_reducible exact spec_SinOf.mono _ _)
   | (with_reducible exact LeO.refl _)
   | (with_reducible exact LeO.none _)
   | (with_reducible refine LeO.ite ?_ ?_)
   | (with_reducible refine LeO.bind ?_ (fun _ => ?_))
   | exact ih0 _ _ _ _ _ _ _ _ _ _ _
   | exact ih1 _ _ _ _ _ _ _ _ _ _ _ _ _ _ _ _
   | exact ih2 _ _ _ _ _ _ _ _ _ _ _
   | exact ih3 _ _ _ _ _ _ _ _ _ _ _ _
   | exact spec_CosOf.mono _ _
   | exact spec_FixMul.mono _ _ _
   | exact spec_GoodCloud.mono _ _ _ _
   | exact spec_SinOf.mono _ _
   | exact LeO.none _
   | refine LeO.ite ?_ ?_
   | refine LeO.bind ?_ (fun _ => ?_)
  ·intro y0 y1 y2 y3 y4 y5 y6 y7 y8 y9 y10 y11 y12 y13 y14 y15
   unfold spec_StepCloud.l0
   repeat' first
   | (with_reducible exact ih0 _ _ _ _ _ _ _ _ _ _ _)
   | (with_reducible exact ih1 _ _ _ _ _ _ _ _ _ _ _ _ _ _ _ _)
   | (with_reducible exact ih2 _ _ _ _ _ _ _ _ _ _ _)
   | (with_reducible exact ih3 _ _ _ _ _ _ _ _ _ _ _ _)
   | (with_reducible exact spec_CosOf.mono _ _)
   | (with_reducible exact spec_FixMul.mono _ _ _)
   | (with_reducible exact spec_GoodCloud.mono _ _ _ _)
   | (with_reducible exact spec_SinOf.mono _ _)
   | (with_reducible exact LeO.refl _)
   | (with_reducible exact LeO.none _)
   | (with_reducible refine LeO.ite ?_ ?_)
   | (with_reducible refine LeO.bind ?_ (fun _ => ?_))
   | exact ih0 _ _ _ _ _ _ _ _ _ _ _
   | exact ih1 _ _ _ _ _ _ _ _ _ _ _ _ _ _ _ _
   | exact ih2 _ _ _ _ _ _ _ _ _ _ _
   | exact ih3 _ _ _ _ _ _ _ _ _ _ _ _
   | exact spec_CosOf.mono _ _
   | exact spec_FixMul.mono _ _ _
   | exact spec_GoodCloud.mono _ _ _ _
   | exact spec_SinOf.mono _ _
   | exact LeO.none _
   | refine LeO.ite ?_ ?_
   | refine LeO.bind ?_ (fun _ => ?_)
  ·intro y0 y1 y2 y3 y4 y5 y6 y7 y8 y9 y10
   unfold spec_StepCloud.l1
   repeat' first
   | (with_reducible exact ih0 _ _ _ _ _ _ _ _ _ _ _)
   | (with_reducible exact ih1 _ _ _ _ _ _ _ _ _ _ _ _ _ _ _ _)
   | (with_reducible exact ih2 _ _ _ _ _ _ _ _ _ _ _)
   | (with_reducible exact ih3 _ _ _ _ _ _ _ _ _ _ _ _)
   | (with_reducible exact spec_CosOf.mono _ _)
   | (with_reducible exact spec_FixMul.mono _ _ _)
   | (with_reducible exact spec_GoodCloud.mono _ _ _ _)
   | (with_reducible exact spec_SinOf.mono _ _)
   | (with_reducible exact LeO.refl _)
   | (with_reducible exact LeO.none _)
   | (with_reducible refine LeO.ite ?_ ?_)
   | (with_reducible refine LeO.bind ?_ (fun _ => ?_))
   | exact ih0 _ _ _ _ _ _ _ _ _ _ _
   | exact ih1 _ _ _ _ _ _ _ _ _ _ _ _ _ _ _ _
   | exact ih2 _ _ _ _ _ _ _ _ _ _ _
   | exact ih3 _ _ _ _ _ _ _ _ _ _ _ _
   | exact spec_CosOf.mono _ _
   | exact spec_FixMul.mono _ _ _
   | exact spec_GoodCloud.mono _ _ _ _
   | exact spec_SinOf.mono _ _
   | exact LeO.none _
   | refine LeO.ite ?_ ?_
   | refine LeO.bind ?_ (fun _ => ?_)
  ·intro y0 y1 y2 y3 y4 y5 y6 y7 y8 y9 y10 y11
   unfold spec_StepCloud.j3
   repeat' first
   | (with_reducible exact ih0 _ _ _ _ _ _ _ _ _ _ _)
   | (with_reducible exact ih1 _ _ _ _ _ _ _ _ _ _ _ _ _ _ _ _)
   | (with_reducible exact ih2 _ _ _ _ _ _ _ _ _ _ _)
   | (with_reducible exact ih3 _ _ _ _ _ _ _ _ _ _ _ _)
   | (with_reducible exact spec_CosOf.mono _ _)
   | (with_reducible exact spec_FixMul.mono _ _ _)
   | (with_reducible exact spec_GoodCloud.mono _ _ _ _)
   | (with_reducible exact spec_SinOf.mono _ _)
   | (with_reducible exact LeO.refl _)
   | (with_reducible exact LeO.none _)
   | (with_reducible refine LeO.ite ?_ ?_)
   | (with_reducible refine LeO.bind ?_ (fun _ => ?_))
   | exact ih0 _ _ _ _ _ _ _ _ _ _ _
   | exact ih1 _ _ _ _ _ _ _ _ _ _ _ _ _ _ _ _
   | exact ih2 _ _ _ _ _ _ _ _ _ _ _
   | exact ih3 _ _ _ _ _ _ _ _ _ _ _ _
   | exact spec_CosOf.mono _ _
   | exact spec_FixMul.mono _ _ _
   | exact spec_GoodCloud.mono _ _ _ _
   | exact spec_SinOf.mono _ _
   | exact LeO.none _
   | refine LeO.ite ?_ ?_
   | refine LeO.bind ?_ (fun _ => ?_)
theorem spec_StepCloud.mono : ∀ a0 a1 a2 a3 a4 a5 a6 a7 a8 a9 k, LeO (spec_StepCloud.f k a0 a1 a2 a3 a4 a5 a6 a7 a8 a9) (spec_StepCloud.f (k + 1) a0 a1 a2 a3 a4 a5 a6 a7 a8 a9) := by
 intro a0 a1 a2 a3 a4 a5 a6 a7 a8 a9 k
 obtain ⟨ih0, ih1, ih2, ih3⟩ := spec_StepCloud.mono_l k
 unfold spec_StepCloud.f
 repeat' first
   | (with_reducible exact ih0 _ _ _ _ _ _ _ _ _ _ _)
   | (with_reducible exact ih1 _ _ _ _ _ _ _ _ _ _ _ _ _ _ _ _)
   | (with_reducible exact ih2 _ _ _ _ _ _ _ _ _ _ _)
   | (with_reducible exact ih3 _ _ _ _ _ _ _ _ _ _ _ _)
   | (with_reducible exact spec_CosOf.mono _ _)
   | (with_reducible exact spec_FixMul.mono _ _ _)
   | (with_reducible exact spec_GoodCloud.mono _ _ _ _)
   | (with_reducible exact spec_SinOf.mono _ _)
   | (with_reducible exact LeO.refl _)
   | (with_reducible exact LeO.none _)
   | (with_reducible refine LeO.ite ?_ ?_)
   | (with_reducible refine LeO.bind ?_ (fun _ => ?_))
   | exact ih0 _ _ _ _ _ _ _ _ _ _ _
   | exact ih1 _ _ _ _ _ _ _ _ _ _ _ _ _ _ _ _
   | exact ih2 _ _ _ _ _ _ _ _ _ _ _
   | exact ih3 _ _ _ _ _ _ _ _ _ _ _ _
   | exact spec_CosOf.mono _ _
   | exact spec_FixMul.mono _ _ _
   | exact spec_GoodCloud.mono _ _ _ _
   | exact spec_SinOf.mono _ _
   | exact LeO.none _
   | refine LeO.ite ?_ ?_
   | refine LeO.bind ?_ (fun _ => ?_)
def spec_StepCloud.T22 : Bool × List (List Nat × List Nat) := (true, [([], []), ([0], [0]), ([], []), ([2], [2]), ([], []), ([4], [4]), ([], []), ([], []), ([7], [7]), ([8], [8]), ([6, 9, 9], [6, 9]), ([], []), ([], []), ([12], [12]), ([13, 10], [13]), ([11, 14, 14], [11, 14]), ([], []), ([16], [16]), ([3, 5, 10, 15, 17], [3, 5, 10, 15, 17]), ([18], [18]), ([1, 19, 15], [1, 19]), ([0, 1, 2, 3, 4, 5, 6, 7, 8, 9, 10, 11, 12, 13, 14, 15, 16, 17, 18, 19, 20], []), ([21, 20, 20, 0, 1, 2, 3, 4, 5, 6, 7, 8, 9, 10, 11, 12, 13, 14, 15, 16, 17, 18, 19, 20], [20, 21])])
def spec_StepCloud.B22 : List Nat := [0, 1, 0, 4, 0, 16, 0, 0, 128, 384, 960, 0, 0, 4096, 14272, 32704, 0, 65536, 262140, 524284, 1048575, 2097151, 4194303]
theorem spec_StepCloud.tab22 : rtab .any (opsOf Try.f10 22) = spec_StepCloud.T22 := by kernel_rfl
theorem spec_StepCloud.bits22 : waitsOk spec_StepCloud.T22.2 spec_StepCloud.B22 = true := by kernel_rfl
set_option maxHeartbeats 8000000 in
set_option maxRecDepth 100000 in
theorem spec_StepCloud.calls (k : Nat) (a0_0 : Int) (a0_1 : Int) (a0_2 : Int) (a0_3 : Int) (a0_4 : Int) (a0_5 : Int) (a0_6 : Int) (a1_0 : Int) (a1_1 : Int) (A1_2 : Option Addr) (c1_2 : Nat) (l1_2 : List (S48)) (r1 : Int) (r2 : Int) (r3 : List (S48)) (r4 : Bool) (w : World) (hr1_2 : Kd.C k48 w A1_2 l1_2.length l1_2) (hc1_2 : l1_2.length ≤ c1_2) (h : spec_StepCloud.f k a0_0 a0_1 a0_2 a0_3 a0_4 a0_5 a0_6 a1_0 a1_1 l1_2 = some (r1, r2, r3, r4)) :
  Calls Try.prog 10 #[.agg #[.int .i64 a0_0, .int .i64 a0_1, .int .i64 a0_2, .int .i64 a0_3, .int .i64 a0_4, .int .i64 a0_5, .int .i64 a0_6], .agg #[.int .i64 a1_0, .int .i64 a1_1, .slice A1_2 l1_2.length c1_2]] w fun e w' => ∃ v2_ : Value, e = .returned (.tuple #[.agg #[.int .i64 r1, .int .i64 r2, v2_], .bool r4]) ∧ Kd.R k48 48 w' w.heap.size (fun _ => True) v2_ r3 ∧ Below w.heap.size w w' := by
 have hu26 := Try.underlying26
 have hu35 := Try.underlying35
 have hu48 := Try.underlying48
 have HR1_2 := Aside0.mk hr1_2
 have HC1_2 := Aside0.mk hc1_2
 clear hr1_2 hc1_2
 have HB := Aside0.mk (Below.refl w.heap.size w)
 have H : ((spec_GoodEmitter.f a0_0 a0_1 a0_2 a0_3 a0_4 a0_5 a0_6).bind fun t173 => (if t173 = true then ((spec_GoodCloud.f k a1_0 a1_1 l1_2).bind fun t174 => (if t174 = true then (spec_StepCloud.j0 k (a1_1 == 200) a0_0 a0_1 a0_2 a0_3 a0_4 a0_5 a0_6 a1_0 a1_1 l1_2) else (spec_StepCloud.j0 k true a0_0 a0_1 a0_2 a0_3 a0_4 a0_5 a0_6 a1_0 a1_1 l1_2))) else (spec_StepCloud.j0 k true a0_0 a0_1 a0_2 a0_3 a0_4 a0_5 a0_6 a1_0 a1_1 l1_2))) = some (r1, r2, r3, r4) := h
 clear h
 have HC3 := Aside0.mk H
 clear H
 go_enter Try.func10, Try.ntmps10
 go_upto_region 1 with (first | ((with_reducible refine gate_dst (N := 2) rfl ?_); (try (refine gate_guard (by rfl) ?_; dsimp only)); refine box_event rfl (N := 2) rfl (cs := #[.int .i64 a0_0, .int .i64 a0_1, .int .i64 a0_2, .int .i64 a0_3, .int .i64 a0_4, .int .i64 a0_5, .int .i64 a0_6]) (t := 26) sE ?_; intro gb170 hg w4 hbox hb; have BK170 := Aside0.mk hbox; have GW170 := gS w hg (lU); have GE170 := GW170; replace HB := Aside0.mk (below_step (lU) hb); clear hb hbox hg) | ((with_reducible refine gate_dst (N := 3) rfl ?_); (try (refine gate_guard (by rfl) ?_; dsimp only)); refine box_event rfl (N := 3) rfl (cs := #[.int .i64 a1_0, .int .i64 a1_1, .slice A1_2 l1_2.length c1_2]) (t := 35) sE ?_; intro gb171 hg w5 hbox hb; have BK171 := Aside0.mk hbox; have GW171 := gS w hg (lU1 GE170.out); have GE171 := GW171; replace HB := Aside0.mk (below_step (lU1 GE170.out) hb); have NB170_171 := nL hg (bU BK170.out); have NB171_170 := nG hg (bU BK170.out); replace BK170 := Aside0.mk (blk_below (bU BK170.out) hb); clear hb hbox hg) | ((with_reducible refine gate_dst (N := 4) rfl ?_); (try (refine gate_guard (by rfl) ?_; dsimp only)); refine box_event rfl (N := 4) rfl (cs := #[.int .i64 0, .int .i64 0, .slice none 0 0]) (t := 35) sE ?_; intro gb172 hg w6 hbox hb; have BK172 := Aside0.mk hbox; have GW172 := gS w hg (lU2 GE170.out GE171.out); have GE172 := GW172; replace HB := Aside0.mk (below_step (lU2 GE170.out GE171.out) hb); have NB170_172 := nL hg (bU BK170.out); have NB172_170 := nG hg (bU BK170.out); replace BK170 := Aside0.mk (blk_below (bU BK170.out) hb); have NB171_172 := nL hg (bU BK171.out); have NB172_171 := nG hg (bU BK171.out); replace BK171 := Aside0.mk (blk_below (bU BK171.out) hb); clear hb hbox hg))
 (try simp only [Act.put, List.setIfInBounds_toArray, List.set_cons_zero, List.set_cons_succ])
 go_cut [27] (fun v27 wc => ∃ (kq : Nat) (x27_2 : Bool), v27 = .bool x27_2 ∧ Aside0 (spec_StepCloud.j0 kq x27_2 a0_0 a0_1 a0_2 a0_3 a0_4 a0_5 a0_6 a1_0 a1_1 l1_2 = some (r1, r2, r3, r4)) ∧ Aside0 (kq ≤ k) ∧ Aside0 (wc.heap[gb170]? = some (.cells #[.int .i64 a0_0, .int .i64 a0_1, .int .i64 a0_2, .int .i64 a0_3, .int .i64 a0_4, .int .i64 a0_5, .int .i64 a0_6] 26 (0, 0))) ∧ Aside0 (wc.heap[gb171]? = some (.cells #[.int .i64 a1_0, .int .i64 a1_1, (.slice A1_2 l1_2.length c1_2)] 35 (0, 0))) ∧ Aside0 (wc.heap[gb172]? = some (.cells #[.int .i64 0, .int .i64 0, (.slice none 0 0)] 35 (0, 0))) ∧ Aside0 (Below w.heap.size w wc))
 case first =>
  have H := HC3.out
  clear HC3
  replace H := Option.bind_eq_some_iff.mp H
  obtain ⟨t173, A70, H⟩ := H
  replace H : (if t173 = true then ((spec_GoodCloud.f k a1_0 a1_1 l1_2).bind fun t174 => (if t174 = true then (spec_StepCloud.j0 k (a1_1 == 200) a0_0 a0_1 a0_2 a0_3 a0_4 a0_5 a0_6 a1_0 a1_1 l1_2) else (spec_StepCloud.j0 k true a0_0 a0_1 a0_2 a0_3 a0_4 a0_5 a0_6 a1_0 a1_1 l1_2))) else (spec_StepCloud.j0 k true a0_0 a0_1 a0_2 a0_3 a0_4 a0_5 a0_6 a1_0 a1_1 l1_2)) = some (r1, r2, r3, r4) := H
  have A7 := Aside0.mk A70
  clear A70
  by_cases c8 : t173 = true
  ·subst c8
   have H1 : ((spec_GoodCloud.f k a1_0 a1_1 l1_2).bind fun t174 => (if t174 = true then (spec_StepCloud.j0 k (a1_1 == 200) a0_0 a0_1 a0_2 a0_3 a0_4 a0_5 a0_6 a1_0 a1_1 l1_2) else (spec_StepCloud.j0 k true a0_0 a0_1 a0_2 a0_3 a0_4 a0_5 a0_6 a1_0 a1_1 l1_2))) = some (r1, r2, r3, r4) := by rw [if_pos rfl] at H; exact H
   clear H
   have H := H1
   clear H1
   replace H := Option.bind_eq_some_iff.mp H
   obtain ⟨t174, A90, H⟩ := H
   replace H : (if t174 = true then (spec_StepCloud.j0 k (a1_1 == 200) a0_0 a0_1 a0_2 a0_3 a0_4 a0_5 a0_6 a1_0 a1_1 l1_2) else (spec_StepCloud.j0 k true a0_0 a0_1 a0_2 a0_3 a0_4 a0_5 a0_6 a1_0 a1_1 l1_2)) = some (r1, r2, r3, r4) := H
   have A9 := Aside0.mk A90
   clear A90
   by_cases c10 : t174 = true
   ·subst c10
    have H1 : (spec_StepCloud.j0 k (a1_1 == 200) a0_0 a0_1 a0_2 a0_3 a0_4 a0_5 a0_6 a1_0 a1_1 l1_2) = some (r1, r2, r3, r4) := by rw [if_pos rfl] at H; exact H
    clear H
    have H := H1
    clear H1
    have H' := Aside0.mk H
    clear H
    have hnb11 := NB170_171.out
    have hnc11 := NB171_170.out
    have hnb12 := NB170_172.out
    have hnc12 := NB172_170.out
    have hcz13_0 : w6.cell? ⟨gb170, 0, none⟩ = some (.int .i64 a0_0) := (blk_cell BK170.out 0).trans rfl
    have hcz13_1 : w6.cell? ⟨gb170, 1, none⟩ = some (.int .i64 a0_1) := (blk_cell BK170.out 1).trans rfl
    have hcz13_2 : w6.cell? ⟨gb170, 2, none⟩ = some (.int .i64 a0_2) := (blk_cell BK170.out 2).trans rfl
    have hcz13_3 : w6.cell? ⟨gb170, 3, none⟩ = some (.int .i64 a0_3) := (blk_cell BK170.out 3).trans rfl
    have hcz13_4 : w6.cell? ⟨gb170, 4, none⟩ = some (.int .i64 a0_4) := (blk_cell BK170.out 4).trans rfl
    have hcz13_5 : w6.cell? ⟨gb170, 5, none⟩ = some (.int .i64 a0_5) := (blk_cell BK170.out 5).trans rfl
    have hcz13_6 : w6.cell? ⟨gb170, 6, none⟩ = some (.int .i64 a0_6) := (blk_cell BK170.out 6).trans rfl
    have hfz13_0 := blk_frozen BK170.out 0
    have hfz13_1 := blk_frozen BK170.out 1
    have hfz13_2 := blk_frozen BK170.out 2
    have hfz13_3 := blk_frozen BK170.out 3
    have hfz13_4 := blk_frozen BK170.out 4
    have hfz13_5 := blk_frozen BK170.out 5
    have hfz13_6 := blk_frozen BK170.out 6
    go_wp2_with (first | ((with_reducible refine gate_callee (f := 19) rfl ?_); refine goesL_ (some 16) rfl rfl Try.func19 (by kernel_rfl) rfl #[.agg #[.int .i64 a0_0, .int .i64 a0_1, .int .i64 a0_2, .int .i64 a0_3, .int .i64 a0_4, .int .i64 a0_5, .int .i64 a0_6]] rfl aE ?_; (with_reducible refine (spec_GoodEmitter.calls a0_0 a0_1 a0_2 a0_3 a0_4 a0_5 a0_6 true _ A7.out).mono ?_); rintro e w14 ⟨rfl, hb⟩; refine ⟨_, rfl, ?_⟩; replace BK170 := Aside0.mk (blk_below (bU BK170.out) hb); replace BK171 := Aside0.mk (blk_below (bU BK171.out) hb); replace BK172 := Aside0.mk (blk_below (bU BK172.out) hb); replace HB := Aside0.mk (below_step (lU3 GE170.out GE171.out GE172.out) hb); (try clear hb); (try clear hb2); (try clear hk); (try clear hi); have hnb15 := NB171_172.out; have hnc15 := NB172_171.out; have hcz16_0 : w14.cell? ⟨gb171, 0, none⟩ = some (.int .i64 a1_0) := (blk_cell BK171.out 0).trans rfl; have hcz16_1 : w14.cell? ⟨gb171, 1, none⟩ = some (.int .i64 a1_1) := (blk_cell BK171.out 1).trans rfl; have hcz16_2 : w14.cell? ⟨gb171, 2, none⟩ = some (.slice A1_2 l1_2.length c1_2) := (blk_cell BK171.out 2).trans rfl; have hfz16_0 := blk_frozen BK171.out 0; have hfz16_1 := blk_frozen BK171.out 1; have hfz16_2 := blk_frozen BK171.out 2) | (go_at_call 20; (with_reducible refine (spec_GoodCloud.calls k a1_0 a1_1 _ _ l1_2 true _ ?side1 ?side2 A9.out).mono ?_); (case side1 => exact cU (Kd.C_below HR1_2.out HB.out)); (case side2 => exact HC1_2.out); rintro e w17 ⟨rfl, hb⟩; replace BK170 := Aside0.mk (blk_below (bU BK170.out) hb); replace BK171 := Aside0.mk (blk_below (bU BK171.out) hb); replace BK172 := Aside0.mk (blk_below (bU BK172.out) hb); replace HB := Aside0.mk (below_step (lU3 GE170.out GE171.out GE172.out) hb); (try clear hb); (try clear hb2); (try clear hk); (try clear hi); have hcz18_0 : w17.cell? ⟨gb171, 0, none⟩ = some (.int .i64 a1_0) := (blk_cell BK171.out 0).trans rfl; have hcz18_1 : w17.cell? ⟨gb171, 1, none⟩ = some (.int .i64 a1_1) := (blk_cell BK171.out 1).trans rfl; have hcz18_2 : w17.cell? ⟨gb171, 2, none⟩ = some (.slice A1_2 l1_2.length c1_2) := (blk_cell BK171.out 2).trans rfl; have hfz18_0 := blk_frozen BK171.out 0; have hfz18_1 := blk_frozen BK171.out 1; have hfz18_2 := blk_frozen BK171.out 2))
    go_meet
    case rel => exact ⟨_, ((a1_1 == 200)), tE, H', ⟨by first | omega | exact Nat.le_refl _⟩, ⟨by refine bU ?_; exact BK170.out⟩, ⟨by refine bU ?_; exact BK171.out⟩, ⟨by refine bU ?_; exact BK172.out⟩, ⟨by repeat (first | (with_reducible first | exact HB.out | apply below_alloc | apply pw_below_drewN | apply below_drew1 | refine below_set ?_ GE170.out | refine below_set ?_ GE171.out | refine below_set ?_ GE172.out) | exact HB.out)⟩⟩
   ·replace c10 := Bool.eq_false_iff.mpr c10
    subst c10
    have H1 : (spec_StepCloud.j0 k true a0_0 a0_1 a0_2 a0_3 a0_4 a0_5 a0_6 a1_0 a1_1 l1_2) = some (r1, r2, r3, r4) := by rw [if_neg (show ¬ (false = true) by decide)] at H; exact H
    clear H
    have H := H1
    clear H1
    have H' := Aside0.mk H
    clear H
    have hnb19 := NB170_171.out
    have hnc19 := NB171_170.out
    have hnb20 := NB170_172.out
    have hnc20 := NB172_170.out
    have hcz21_0 : w6.cell? ⟨gb170, 0, none⟩ = some (.int .i64 a0_0) := (blk_cell BK170.out 0).trans rfl
    have hcz21_1 : w6.cell? ⟨gb170, 1, none⟩ = some (.int .i64 a0_1) := (blk_cell BK170.out 1).trans rfl
    have hcz21_2 : w6.cell? ⟨gb170, 2, none⟩ = some (.int .i64 a0_2) := (blk_cell BK170.out 2).trans rfl
    have hcz21_3 : w6.cell? ⟨gb170, 3, none⟩ = some (.int .i64 a0_3) := (blk_cell BK170.out 3).trans rfl
    have hcz21_4 : w6.cell? ⟨gb170, 4, none⟩ = some (.int .i64 a0_4) := (blk_cell BK170.out 4).trans rfl
    have hcz21_5 : w6.cell? ⟨gb170, 5, none⟩ = some (.int .i64 a0_5) := (blk_cell BK170.out 5).trans rfl
    have hcz21_6 : w6.cell? ⟨gb170, 6, none⟩ = some (.int .i64 a0_6) := (blk_cell BK170.out 6).trans rfl
    have hfz21_0 := blk_frozen BK170.out 0
    have hfz21_1 := blk_frozen BK170.out 1
    have hfz21_2 := blk_frozen BK170.out 2
    have hfz21_3 := blk_frozen BK170.out 3
    have hfz21_4 := blk_frozen BK170.out 4
    have hfz21_5 := blk_frozen BK170.out 5
    have hfz21_6 := blk_frozen BK170.out 6
    go_wp2_with (first | ((with_reducible refine gate_callee (f := 19) rfl ?_); refine goesL_ (some 16) rfl rfl Try.func19 (by kernel_rfl) rfl #[.agg #[.int .i64 a0_0, .int .i64 a0_1, .int .i64 a0_2, .int .i64 a0_3, .int .i64 a0_4, .int .i64 a0_5, .int .i64 a0_6]] rfl aE ?_; (with_reducible refine (spec_GoodEmitter.calls a0_0 a0_1 a0_2 a0_3 a0_4 a0_5 a0_6 true _ A7.out).mono ?_); rintro e w22 ⟨rfl, hb⟩; refine ⟨_, rfl, ?_⟩; replace BK170 := Aside0.mk (blk_below (bU BK170.out) hb); replace BK171 := Aside0.mk (blk_below (bU BK171.out) hb); replace BK172 := Aside0.mk (blk_below (bU BK172.out) hb); replace HB := Aside0.mk (below_step (lU3 GE170.out GE171.out GE172.out) hb); (try clear hb); (try clear hb2); (try clear hk); (try clear hi); have hnb23 := NB171_172.out; have hnc23 := NB172_171.out; have hcz24_0 : w22.cell? ⟨gb171, 0, none⟩ = some (.int .i64 a1_0) := (blk_cell BK171.out 0).trans rfl; have hcz24_1 : w22.cell? ⟨gb171, 1, none⟩ = some (.int .i64 a1_1) := (blk_cell BK171.out 1).trans rfl; have hcz24_2 : w22.cell? ⟨gb171, 2, none⟩ = some (.slice A1_2 l1_2.length c1_2) := (blk_cell BK171.out 2).trans rfl; have hfz24_0 := blk_frozen BK171.out 0; have hfz24_1 := blk_frozen BK171.out 1; have hfz24_2 := blk_frozen BK171.out 2) | (go_at_call 20; (with_reducible refine (spec_GoodCloud.calls k a1_0 a1_1 _ _ l1_2 false _ ?side1 ?side2 A9.out).mono ?_); (case side1 => exact cU (Kd.C_below HR1_2.out HB.out)); (case side2 => exact HC1_2.out); rintro e w25 ⟨rfl, hb⟩; replace BK170 := Aside0.mk (blk_below (bU BK170.out) hb); replace BK171 := Aside0.mk (blk_below (bU BK171.out) hb); replace BK172 := Aside0.mk (blk_below (bU BK172.out) hb); replace HB := Aside0.mk (below_step (lU3 GE170.out GE171.out GE172.out) hb); (try clear hb); (try clear hb2); (try clear hk); (try clear hi)))
    go_meet
    case rel => exact ⟨_, (true), tE, H', ⟨by first | omega | exact Nat.le_refl _⟩, ⟨by refine bU ?_; exact BK170.out⟩, ⟨by refine bU ?_; exact BK171.out⟩, ⟨by refine bU ?_; exact BK172.out⟩, ⟨by repeat (first | (with_reducible first | exact HB.out | apply below_alloc | apply pw_below_drewN | apply below_drew1 | refine below_set ?_ GE170.out | refine below_set ?_ GE171.out | refine below_set ?_ GE172.out) | exact HB.out)⟩⟩
  ·replace c8 := Bool.eq_false_iff.mpr c8
   subst c8
   have H1 : (spec_StepCloud.j0 k true a0_0 a0_1 a0_2 a0_3 a0_4 a0_5 a0_6 a1_0 a1_1 l1_2) = some (r1, r2, r3, r4) := by rw [if_neg (show ¬ (false = true) by decide)] at H; exact H
   clear H
   have H := H1
   clear H1
   have H' := Aside0.mk H
   clear H
   have hnb26 := NB170_171.out
   have hnc26 := NB171_170.out
   have hnb27 := NB170_172.out
   have hnc27 := NB172_170.out
   have hcz28_0 : w6.cell? ⟨gb170, 0, none⟩ = some (.int .i64 a0_0) := (blk_cell BK170.out 0).trans rfl
   have hcz28_1 : w6.cell? ⟨gb170, 1, none⟩ = some (.int .i64 a0_1) := (blk_cell BK170.out 1).trans rfl
   have hcz28_2 : w6.cell? ⟨gb170, 2, none⟩ = some (.int .i64 a0_2) := (blk_cell BK170.out 2).trans rfl
   have hcz28_3 : w6.cell? ⟨gb170, 3, none⟩ = some (.int .i64 a0_3) := (blk_cell BK170.out 3).trans rfl
   have hcz28_4 : w6.cell? ⟨gb170, 4, none⟩ = some (.int .i64 a0_4) := (blk_cell BK170.out 4).trans rfl
   have hcz28_5 : w6.cell? ⟨gb170, 5, none⟩ = some (.int .i64 a0_5) := (blk_cell BK170.out 5).trans rfl
   have hcz28_6 : w6.cell? ⟨gb170, 6, none⟩ = some (.int .i64 a0_6) := (blk_cell BK170.out 6).trans rfl
   have hfz28_0 := blk_frozen BK170.out 0
   have hfz28_1 := blk_frozen BK170.out 1
   have hfz28_2 := blk_frozen BK170.out 2
   have hfz28_3 := blk_frozen BK170.out 3
   have hfz28_4 := blk_frozen BK170.out 4
   have hfz28_5 := blk_frozen BK170.out 5
   have hfz28_6 := blk_frozen BK170.out 6
   go_wp2_with (first | ((with_reducible refine gate_callee (f := 19) rfl ?_); refine goesL_ (some 16) rfl rfl Try.func19 (by kernel_rfl) rfl #[.agg #[.int .i64 a0_0, .int .i64 a0_1, .int .i64 a0_2, .int .i64 a0_3, .int .i64 a0_4, .int .i64 a0_5, .int .i64 a0_6]] rfl aE ?_; (with_reducible refine (spec_GoodEmitter.calls a0_0 a0_1 a0_2 a0_3 a0_4 a0_5 a0_6 false _ A7.out).mono ?_); rintro e w29 ⟨rfl, hb⟩; refine ⟨_, rfl, ?_⟩; replace BK170 := Aside0.mk (blk_below (bU BK170.out) hb); replace BK171 := Aside0.mk (blk_below (bU BK171.out) hb); replace BK172 := Aside0.mk (blk_below (bU BK172.out) hb); replace HB := Aside0.mk (below_step (lU3 GE170.out GE171.out GE172.out) hb); (try clear hb); (try clear hb2); (try clear hk); (try clear hi)))
   go_meet
   case rel => exact ⟨_, (true), tE, H', ⟨by first | omega | exact Nat.le_refl _⟩, ⟨by refine bU ?_; exact BK170.out⟩, ⟨by refine bU ?_; exact BK171.out⟩, ⟨by refine bU ?_; exact BK172.out⟩, ⟨by repeat (first | (with_reducible first | exact HB.out | apply below_alloc | apply pw_below_drewN | apply below_drew1 | refine below_set ?_ GE170.out | refine below_set ?_ GE171.out | refine below_set ?_ GE172.out) | exact HB.out)⟩⟩
 case rest =>
  clear HC3
  try clear c1
  try clear c2
  try clear p2
  try clear c8
  try clear c10
  try clear c11
  try clear c12
  try clear c15
  try clear c19
  try clear c20
  try clear c23
  try clear c26
  try clear c27
  try clear hcz13_0
  try clear hcz13_1
  try clear hcz13_2
  try clear hcz13_3
  try clear hcz13_4
  try clear hcz13_5
  try clear hcz13_6
  try clear hcz16_0
  try clear hcz16_1
  try clear hcz16_2
  try clear hcz18_0
  try clear hcz18_1
  try clear hcz18_2
  try clear hcz21_0
  try clear hcz21_1
  try clear hcz21_2
  try clear hcz21_3
  try clear hcz21_4
  try clear hcz21_5
  try clear hcz21_6
  try clear hcz24_0
  try clear hcz24_1
  try clear hcz24_2
  try clear hcz28_0
  try clear hcz28_1
  try clear hcz28_2
  try clear hcz28_3
  try clear hcz28_4
  try clear hcz28_5
  try clear hcz28_6
  try clear hfz13_0
  try clear hfz13_1
  try clear hfz13_2
  try clear hfz13_3
  try clear hfz13_4
  try clear hfz13_5
  try clear hfz13_6
  try clear hfz16_0
  try clear hfz16_1
  try clear hfz16_2
  try clear hfz18_0
  try clear hfz18_1
  try clear hfz18_2
  try clear hfz21_0
  try clear hfz21_1
  try clear hfz21_2
  try clear hfz21_3
  try clear hfz21_4
  try clear hfz21_5
  try clear hfz21_6
  try clear hfz24_0
  try clear hfz24_1
  try clear hfz24_2
  try clear hfz28_0
  try clear hfz28_1
  try clear hfz28_2
  try clear hfz28_3
  try clear hfz28_4
  try clear hfz28_5
  try clear hfz28_6
  obtain ⟨kq, x27_2, rfl, HA, HJ2, BK170, BK171, BK172, HB⟩ := hcut
  cases kq with
  | zero => exact absurd HA.out (by simp [spec_StepCloud.j0])
  | succ kj2 =>
   have H := HA.out
   clear HA
   simp only [spec_StepCloud.j0] at H
   by_cases c30 : x27_2 = true
   ·subst c30
    have H1 : (some (0, 0, ([] : List (S48)), false)) = some (r1, r2, r3, r4) := by rw [if_pos rfl] at H; exact H
    clear H
    have H := H1
    clear H1
    simp only [Option.some.injEq, Prod.mk.injEq] at H
    obtain ⟨rfl, rfl, rfl, rfl⟩ := H
    have hnb31 := NB172_170.out
    have hnc31 := NB170_172.out
    have hnb32 := NB172_171.out
    have hnc32 := NB171_172.out
    have hcz33_0 : wc.cell? ⟨gb172, 0, none⟩ = some (.int .i64 0) := (blk_cell BK172.out 0).trans rfl
    have hcz33_1 : wc.cell? ⟨gb172, 1, none⟩ = some (.int .i64 0) := (blk_cell BK172.out 1).trans rfl
    have hcz33_2 : wc.cell? ⟨gb172, 2, none⟩ = some (.slice none 0 0) := (blk_cell BK172.out 2).trans rfl
    have hfz33_0 := blk_frozen BK172.out 0
    have hfz33_1 := blk_frozen BK172.out 1
    have hfz33_2 := blk_frozen BK172.out 2
    go_wp2_with (first | ((with_reducible refine gate_store (t := 35) (p := 4) rfl ?_); refine store_event (t := 35) (p := 4) (v := ?vo_w34) (w1 := (((wc.setCell ⟨gb172, 0, none⟩ (.int .i64 0)).setCell ⟨gb172, 1, none⟩ (.int .i64 0)).setCell ⟨gb172, 2, none⟩ (.slice none 0 0))) ?hg ?ho ?hn ?hr ?_; (case ho => rfl); (case hg => rfl); (case hn => rfl); (case hr => first | (go_simp; done) | (go_simp; rfl) | (have hq0_ := (blk_cell BK172.out 0).trans (show _ = some _ from rfl); have hf0_ := blk_frozen BK172.out 0; have hq1_ := (blk_cell BK172.out 1).trans (show _ = some _ from rfl); have hf1_ := blk_frozen BK172.out 1; have hq2_ := (blk_cell BK172.out 2).trans (show _ = some _ from rfl); have hf2_ := blk_frozen BK172.out 2; first | (go_simp; done) | (go_simp; rfl))); intro w34 hw; replace BK170 : Aside0 (w34.heap[gb170]? = some (.cells #[.int .i64 a0_0, .int .i64 a0_1, .int .i64 a0_2, .int .i64 a0_3, .int .i64 a0_4, .int .i64 a0_5, .int .i64 a0_6] 26 (0, 0))) := ⟨(by rw [hw]; exact (bF NB170_172.out BK170.out))⟩; replace BK171 : Aside0 (w34.heap[gb171]? = some (.cells #[.int .i64 a1_0, .int .i64 a1_1, .slice A1_2 l1_2.length c1_2] 35 (0, 0))) := ⟨(by rw [hw]; exact (bF NB171_172.out BK171.out))⟩; replace BK172 : Aside0 (w34.heap[gb172]? = some (.cells #[.int .i64 0, .int .i64 0, .slice none 0 0] 35 (0, 0))) := ⟨(by rw [hw]; exact (by refine bU ?_; refine blk_put (cs := #[.int .i64 0, .int .i64 0, .slice none 0 0]) ?_ 2 _ rfl; refine bU ?_; refine blk_put (cs := #[.int .i64 0, .int .i64 0, .slice none 0 0]) ?_ 1 _ rfl; refine bU ?_; refine blk_put (cs := #[.int .i64 0, .int .i64 0, .slice none 0 0]) ?_ 0 _ rfl; refine bU ?_; exact BK172.out))⟩; replace HB : Aside0 (Below w.heap.size w w34) := ⟨(by rw [hw]; exact (lU3 GE170.out GE171.out GE172.out))⟩; clear hw))
    refine bodyPost_ret (results_ct rfl _ _ gb172 35 #[.int .i64 0, .int .i64 0, .slice none 0 0] (0, 0) _ rfl (bU BK172.out) Try.underlying35 rfl (by kernel_rfl)) rfl ?_
    exact ⟨_, eE, by first | exact Kd.R_nil _ _ _ _ _ | exact Kd.N_nil _ _ _ _ _ | exact Kd.V_nil _ _ _ _ _ | exact Kd.Q_nil _ _ _ _ _ | exact Kd.S_nil _ _ _ _ _, lU3 GE170.out GE171.out GE172.out⟩
   ·replace c30 := Bool.eq_false_iff.mpr c30
    subst c30
    have H1 : (spec_StepCloud.l0 kj2 l1_2 (l1_2.length : Int) 0 a0_0 a0_1 a0_2 a0_3 a0_4 a0_5 a0_6 a1_0 a1_1 l1_2 a1_0 (wrap64 (a1_1 + 1)) ([] : List (S48))) = some (r1, r2, r3, r4) := by rw [if_neg (show ¬ (false = true) by decide)] at H; exact H
    clear H
    have H := H1
    clear H1
    have H' := Aside0.mk H
    clear H
    have hnb35 := NB171_170.out
    have hnc35 := NB170_171.out
    have hnb36 := NB171_172.out
    have hnc36 := NB172_171.out
    have hcz37_0 : wc.cell? ⟨gb171, 0, none⟩ = some (.int .i64 a1_0) := (blk_cell BK171.out 0).trans rfl
    have hcz37_1 : wc.cell? ⟨gb171, 1, none⟩ = some (.int .i64 a1_1) := (blk_cell BK171.out 1).trans rfl
    have hcz37_2 : wc.cell? ⟨gb171, 2, none⟩ = some (.slice A1_2 l1_2.length c1_2) := (blk_cell BK171.out 2).trans rfl
    have hfz37_0 := blk_frozen BK171.out 0
    have hfz37_1 := blk_frozen BK171.out 1
    have hfz37_2 := blk_frozen BK171.out 2
    go_wp2_with (first | ((with_reducible refine gate_dst (N := 6) rfl ?_); (try (refine gate_guard (by rfl) ?_; dsimp only)); refine box_event rfl (N := 6) rfl (cs := #[.int .i64 0, .int .i64 0, .slice none 0 0]) (t := 35) sE ?_; intro gb175 hg w38 hbox hb; have BK175 := Aside0.mk hbox; have GW175 := gS w hg (lU3 GE170.out GE171.out GE172.out); have GE175 := GW175; replace HB := Aside0.mk (below_step (lU3 GE170.out GE171.out GE172.out) hb); have NB170_175 := nL hg (bU BK170.out); have NB175_170 := nG hg (bU BK170.out); replace BK170 := Aside0.mk (blk_below (bU BK170.out) hb); have NB171_175 := nL hg (bU BK171.out); have NB175_171 := nG hg (bU BK171.out); replace BK171 := Aside0.mk (blk_below (bU BK171.out) hb); have NB172_175 := nL hg (bU BK172.out); have NB175_172 := nG hg (bU BK172.out); replace BK172 := Aside0.mk (blk_below (bU BK172.out) hb); clear hb hbox hg; have hnb39 := NB175_170.out; have hnc39 := NB170_175.out; have hnb40 := NB175_171.out; have hnc40 := NB171_175.out; have hnb41 := NB175_172.out; have hnc41 := NB172_175.out; have hcz42_0 : w38.cell? ⟨gb175, 0, none⟩ = some (.int .i64 0) := (blk_cell BK175.out 0).trans rfl; have hcz42_1 : w38.cell? ⟨gb175, 1, none⟩ = some (.int .i64 0) := (blk_cell BK175.out 1).trans rfl; have hcz42_2 : w38.cell? ⟨gb175, 2, none⟩ = some (.slice none 0 0) := (blk_cell BK175.out 2).trans rfl; have hfz42_0 := blk_frozen BK175.out 0; have hfz42_1 := blk_frozen BK175.out 1; have hfz42_2 := blk_frozen BK175.out 2) | ((with_reducible refine gate_store (t := 35) (p := 6) rfl ?_); refine store_event (t := 35) (p := 6) (v := ?vo_w43) (w1 := (((w38.setCell ⟨gb175, 0, none⟩ (.int .i64 a1_0)).setCell ⟨gb175, 1, none⟩ (.int .i64 (wrap64 (a1_1 + 1)))).setCell ⟨gb175, 2, none⟩ (.slice none 0 0))) ?hg ?ho ?hn ?hr ?_; (case ho => rfl); (case hg => rfl); (case hn => rfl); (case hr => first | (go_simp; done) | (go_simp; rfl) | (have hq0_ := (blk_cell BK175.out 0).trans (show _ = some _ from rfl); have hf0_ := blk_frozen BK175.out 0; have hq1_ := (blk_cell BK175.out 1).trans (show _ = some _ from rfl); have hf1_ := blk_frozen BK175.out 1; have hq2_ := (blk_cell BK175.out 2).trans (show _ = some _ from rfl); have hf2_ := blk_frozen BK175.out 2; first | (go_simp; done) | (go_simp; rfl))); intro w43 hw; replace BK170 : Aside0 (w43.heap[gb170]? = some (.cells #[.int .i64 a0_0, .int .i64 a0_1, .int .i64 a0_2, .int .i64 a0_3, .int .i64 a0_4, .int .i64 a0_5, .int .i64 a0_6] 26 (0, 0))) := ⟨(by rw [hw]; exact (bF NB170_175.out BK170.out))⟩; replace BK171 : Aside0 (w43.heap[gb171]? = some (.cells #[.int .i64 a1_0, .int .i64 a1_1, .slice A1_2 l1_2.length c1_2] 35 (0, 0))) := ⟨(by rw [hw]; exact (bF NB171_175.out BK171.out))⟩; replace BK172 : Aside0 (w43.heap[gb172]? = some (.cells #[.int .i64 0, .int .i64 0, .slice none 0 0] 35 (0, 0))) := ⟨(by rw [hw]; exact (bF NB172_175.out BK172.out))⟩; replace BK175 : Aside0 (w43.heap[gb175]? = some (.cells #[.int .i64 a1_0, .int .i64 (wrap64 (a1_1 + 1)), .slice none 0 0] 35 (0, 0))) := ⟨(by rw [hw]; exact (by refine bU ?_; refine blk_put (cs := #[.int .i64 a1_0, .int .i64 (wrap64 (a1_1 + 1)), .slice none 0 0]) ?_ 2 _ rfl; refine bU ?_; refine blk_put (cs := #[.int .i64 a1_0, .int .i64 0, .slice none 0 0]) ?_ 1 _ rfl; refine bU ?_; refine blk_put (cs := #[.int .i64 0, .int .i64 0, .slice none 0 0]) ?_ 0 _ rfl; refine bU ?_; exact BK175.out))⟩; replace HB : Aside0 (Below w.heap.size w w43) := ⟨(by rw [hw]; exact (lU4 GE170.out GE171.out GE172.out GE175.out))⟩; clear hw; have hcz44_0 : w43.cell? ⟨gb171, 0, none⟩ = some (.int .i64 a1_0) := (blk_cell BK171.out 0).trans rfl; have hcz44_1 : w43.cell? ⟨gb171, 1, none⟩ = some (.int .i64 a1_1) := (blk_cell BK171.out 1).trans rfl; have hcz44_2 : w43.cell? ⟨gb171, 2, none⟩ = some (.slice A1_2 l1_2.length c1_2) := (blk_cell BK171.out 2).trans rfl; have hfz44_0 := blk_frozen BK171.out 0; have hfz44_1 := blk_frozen BK171.out 1; have hfz44_2 := blk_frozen BK171.out 2))
    go_loopg [38] kj2 (fun kq v38 w' => ∃ (x38_2 : Int) (x176002_2 : List (S48)) (u176002 : Value), v38 = .int .i64 x38_2 ∧ Aside0 (spec_StepCloud.l0 kq l1_2 (l1_2.length : Int) x38_2 a0_0 a0_1 a0_2 a0_3 a0_4 a0_5 a0_6 a1_0 a1_1 l1_2 a1_0 (wrap64 (a1_1 + 1)) x176002_2 = some (r1, r2, r3, r4)) ∧ Aside0 (kq ≤ kj2) ∧ Aside0 (Kd.R k48 48 w' w.heap.size (fun _ => True) u176002 x176002_2) ∧ Aside0 (w'.heap[gb170]? = some (.cells #[.int .i64 a0_0, .int .i64 a0_1, .int .i64 a0_2, .int .i64 a0_3, .int .i64 a0_4, .int .i64 a0_5, .int .i64 a0_6] 26 (0, 0))) ∧ Aside0 (w'.heap[gb171]? = some (.cells #[.int .i64 a1_0, .int .i64 a1_1, (.slice A1_2 l1_2.length c1_2)] 35 (0, 0))) ∧ Aside0 (w'.heap[gb172]? = some (.cells #[.int .i64 0, .int .i64 0, (.slice none 0 0)] 35 (0, 0))) ∧ Aside0 (w'.heap[gb175]? = some (.cells #[.int .i64 a1_0, .int .i64 (wrap64 (a1_1 + 1)), u176002] 35 (0, 0))) ∧ Aside0 (Below w.heap.size w w'))
    case atStart => exact ⟨(0), (([] : List (S48))), (.slice none 0 0), tE, H', ⟨Nat.le_refl _⟩, ⟨by first | exact Kd.R_nil _ _ _ _ _ | exact Kd.N_nil _ _ _ _ _ | exact Kd.V_nil _ _ _ _ _ | exact Kd.Q_nil _ _ _ _ _ | exact Kd.S_nil _ _ _ _ _⟩, ⟨by refine bU ?_; exact BK170.out⟩, ⟨by refine bU ?_; exact BK171.out⟩, ⟨by refine bU ?_; exact BK172.out⟩, ⟨by refine bU ?_; exact BK175.out⟩, ⟨by repeat (first | (with_reducible first | exact HB.out | apply below_alloc | apply pw_below_drewN | apply below_drew1 | refine below_set ?_ GE170.out | refine below_set ?_ GE171.out | refine below_set ?_ GE172.out | refine below_set ?_ GE175.out) | exact HB.out)⟩⟩
    case round =>
     clear H'
     try clear c1
     try clear q1
     try clear c2
     try clear p2
     try clear q2
     try clear hf2
     try clear c3
     try clear c4
     try clear p6
     try clear c8
     try clear c10
     try clear c11
     try clear c12
     try clear c15
     try clear c19
     try clear c20
     try clear c23
     try clear c26
     try clear c27
     try clear c30
     try clear c31
     try clear c32
     try clear c35
     try clear c36
     try clear c39
     try clear c40
     try clear c41
     try clear hcz13_0
     try clear hcz13_1
     try clear hcz13_2
     try clear hcz13_3
     try clear hcz13_4
     try clear hcz13_5
     try clear hcz13_6
     try clear hcz16_0
     try clear hcz16_1
     try clear hcz16_2
     try clear hcz18_0
     try clear hcz18_1
     try clear hcz18_2
     try clear hcz21_0
     try clear hcz21_1
     try clear hcz21_2
     try clear hcz21_3
     try clear hcz21_4
     try clear hcz21_5
     try clear hcz21_6
     try clear hcz24_0
     try clear hcz24_1
     try clear hcz24_2
     try clear hcz28_0
     try clear hcz28_1
     try clear hcz28_2
     try clear hcz28_3
     try clear hcz28_4
     try clear hcz28_5
     try clear hcz28_6
     try clear hcz33_0
     try clear hcz33_1
     try clear hcz33_2
     try clear hcz37_0
     try clear hcz37_1
     try clear hcz37_2
     try clear hcz42_0
     try clear hcz42_1
     try clear hcz42_2
     try clear hcz44_0
     try clear hcz44_1
     try clear hcz44_2
     try clear hfz13_0
     try clear hfz13_1
     try clear hfz13_2
     try clear hfz13_3
     try clear hfz13_4
     try clear hfz13_5
     try clear hfz13_6
     try clear hfz16_0
     try clear hfz16_1
     try clear hfz16_2
     try clear hfz18_0
     try clear hfz18_1
     try clear hfz18_2
     try clear hfz21_0
     try clear hfz21_1
     try clear hfz21_2
     try clear hfz21_3
     try clear hfz21_4
     try clear hfz21_5
     try clear hfz21_6
     try clear hfz24_0
     try clear hfz24_1
     try clear hfz24_2
     try clear hfz28_0
     try clear hfz28_1
     try clear hfz28_2
     try clear hfz28_3
     try clear hfz28_4
     try clear hfz28_5
     try clear hfz28_6
     try clear hfz33_0
     try clear hfz33_1
     try clear hfz33_2
     try clear hfz37_0
     try clear hfz37_1
     try clear hfz37_2
     try clear hfz42_0
     try clear hfz42_1
     try clear hfz42_2
     try clear hfz44_0
     try clear hfz44_1
     try clear hfz44_2
     try clear p2
     obtain ⟨x38_2, x176002_2, u176002, rfl, HA, HK2, HO_176002, BK170, BK171, BK172, BK175, HB⟩ := hrel
     cases gk with
     | zero => exact absurd HA.out (by simp [spec_StepCloud.l0])
     | succ k2 =>
      have H := HA.out
      clear HA
      simp only [spec_StepCloud.l0] at H
      by_cases c45 : x38_2 < (l1_2.length : Int)
      ·rw [if_pos c45] at H
       have c45b0 : decide (x38_2 < (l1_2.length : Int)) = true := decide_eq_true c45
       clear c45
       by_cases c46 : 0 ≤ x38_2
       ·rw [if_pos c46] at H
        have c46b0 : decide (0 ≤ x38_2) = true := decide_eq_true c46
        clear c46
        by_cases c47 : x38_2 < (l1_2.length : Int)
        ·rw [if_pos c47] at H
         have c47b0 : decide (x38_2 < (l1_2.length : Int)) = true := decide_eq_true c47
         clear c47
         by_cases c48 : (wrap64 (((rd_T48 l1_2 x38_2).f4) - 1)) = 0
         ·rw [if_pos c48] at H
          have c48b0 : ((wrap64 (((rd_T48 l1_2 x38_2).f4) - 1)) == 0) = true := beq_iff_eq.mpr c48
          have c48b1 : ((wrap64 (((rd_T48 l1_2 x38_2).f4) - 1)) != 0) = false := bne_eq_false_iff_eq.mpr c48
          clear c48
          have H' := Aside0.mk H
          clear H
          have p176 : 0 ≤ (x38_2 : Int) := of_decide_eq_true hE
          have q176 : x38_2 < (l1_2.length : Int) := of_decide_eq_true hE
          obtain ⟨ad176, e176, hx176_0, hx176_1, hx176_2, hx176_3, hx176_4⟩ := at_T48 HR1_2.out x38_2 p176 q176
          cases e176
          replace hx176_0 := (HB.out.cell (World.block_lt_of_cell? w _ hx176_0)).trans hx176_0
          replace hx176_1 := (HB.out.cell (World.block_lt_of_cell? w _ hx176_1)).trans hx176_1
          replace hx176_2 := (HB.out.cell (World.block_lt_of_cell? w _ hx176_2)).trans hx176_2
          replace hx176_3 := (HB.out.cell (World.block_lt_of_cell? w _ hx176_3)).trans hx176_3
          replace hx176_4 := (HB.out.cell (World.block_lt_of_cell? w _ hx176_4)).trans hx176_4
          replace p176 := eq_true p176
          replace q176 := eq_true q176
          go_wp2_with (first | ((with_reducible refine gate_dst (N := 8) rfl ?_); (try (refine gate_guard (by rfl) ?_; dsimp only)); refine box_event rfl (N := 8) rfl (cs := #[.int .i64 0, .int .i64 0, .int .i64 0, .int .i64 0, .int .i64 0]) (t := 48) sE ?_; intro gb177 hg w49 hbox hb; replace HO_176002 := Aside0.mk (Kd.R_below (Kd.R_elderB (rU HO_176002.out) gb177 (Nat.le_of_eq hg.symm)) hb); have BK177 := Aside0.mk hbox; have GW177 := gS w hg (lU4 GE170.out GE171.out GE172.out GE175.out); have GE177 := GW177; replace HB := Aside0.mk (below_step (lU4 GE170.out GE171.out GE172.out GE175.out) hb); have NB170_177 := nL hg (bU BK170.out); have NB177_170 := nG hg (bU BK170.out); replace BK170 := Aside0.mk (blk_below (bU BK170.out) hb); have NB171_177 := nL hg (bU BK171.out); have NB177_171 := nG hg (bU BK171.out); replace BK171 := Aside0.mk (blk_below (bU BK171.out) hb); have NB172_177 := nL hg (bU BK172.out); have NB177_172 := nG hg (bU BK172.out); replace BK172 := Aside0.mk (blk_below (bU BK172.out) hb); have NB175_177 := nL hg (bU BK175.out); have NB177_175 := nG hg (bU BK175.out); replace BK175 := Aside0.mk (blk_below (bU BK175.out) hb); clear hb hbox hg; have hnb50 := NB177_170.out; have hnc50 := NB170_177.out; have hnb51 := NB177_171.out; have hnc51 := NB171_177.out; have hnb52 := NB177_172.out; have hnc52 := NB172_177.out; have hnb53 := NB177_175.out; have hnc53 := NB175_177.out; have hcz54_0 : w49.cell? ⟨gb177, 0, none⟩ = some (.int .i64 0) := (blk_cell BK177.out 0).trans rfl; have hcz54_1 : w49.cell? ⟨gb177, 1, none⟩ = some (.int .i64 0) := (blk_cell BK177.out 1).trans rfl; have hcz54_2 : w49.cell? ⟨gb177, 2, none⟩ = some (.int .i64 0) := (blk_cell BK177.out 2).trans rfl; have hcz54_3 : w49.cell? ⟨gb177, 3, none⟩ = some (.int .i64 0) := (blk_cell BK177.out 3).trans rfl; have hcz54_4 : w49.cell? ⟨gb177, 4, none⟩ = some (.int .i64 0) := (blk_cell BK177.out 4).trans rfl; have hfz54_0 := blk_frozen BK177.out 0; have hfz54_1 := blk_frozen BK177.out 1; have hfz54_2 := blk_frozen BK177.out 2; have hfz54_3 := blk_frozen BK177.out 3; have hfz54_4 := blk_frozen BK177.out 4) | ((with_reducible refine gate_store (t := 48) (p := 8) rfl ?_); refine store_event (t := 48) (p := 8) (v := ?vo_w55) (w1 := (((((w49.setCell ⟨gb177, 0, none⟩ (.int .i64 ((rd_T48 l1_2 x38_2).f0))).setCell ⟨gb177, 1, none⟩ (.int .i64 ((rd_T48 l1_2 x38_2).f1))).setCell ⟨gb177, 2, none⟩ (.int .i64 ((rd_T48 l1_2 x38_2).f2))).setCell ⟨gb177, 3, none⟩ (.int .i64 ((rd_T48 l1_2 x38_2).f3))).setCell ⟨gb177, 4, none⟩ (.int .i64 ((rd_T48 l1_2 x38_2).f4)))) ?hg ?ho ?hn ?hr ?_; (case ho => rfl); (case hg => rfl); (case hn => rfl); (case hr => first | (go_simp; done) | (go_simp; rfl) | (have hq0_ := (blk_cell BK177.out 0).trans (show _ = some _ from rfl); have hf0_ := blk_frozen BK177.out 0; have hq1_ := (blk_cell BK177.out 1).trans (show _ = some _ from rfl); have hf1_ := blk_frozen BK177.out 1; have hq2_ := (blk_cell BK177.out 2).trans (show _ = some _ from rfl); have hf2_ := blk_frozen BK177.out 2; have hq3_ := (blk_cell BK177.out 3).trans (show _ = some _ from rfl); have hf3_ := blk_frozen BK177.out 3; have hq4_ := (blk_cell BK177.out 4).trans (show _ = some _ from rfl); have hf4_ := blk_frozen BK177.out 4; first | (go_simp; done) | (go_simp; rfl))); intro w55 hw; replace HO_176002 : Aside0 (Kd.R k48 48 w55 w.heap.size (fun k_ => k_ ≠ gb177) u176002 x176002_2) := ⟨(by rw [hw]; exact (by (with_reducible repeat (first | apply Kd.R_alloc | apply Kd.R_drewN | apply Kd.R_drew)); exact Kd.R_mono (Kd.R_far (p := ⟨gb177, 4, none⟩) (Kd.R_far (p := ⟨gb177, 3, none⟩) (Kd.R_far (p := ⟨gb177, 2, none⟩) (Kd.R_far (p := ⟨gb177, 1, none⟩) (Kd.R_far (p := ⟨gb177, 0, none⟩) (Kd.R_mono HO_176002.out (fun k_ hk => (⟨hk, hk.2⟩ : _ ∧ k_ ≠ gb177))) (fun _ hk => hk.2) (.int .i64 ((rd_T48 l1_2 x38_2).f0))) (fun _ hk => hk.2) (.int .i64 ((rd_T48 l1_2 x38_2).f1))) (fun _ hk => hk.2) (.int .i64 ((rd_T48 l1_2 x38_2).f2))) (fun _ hk => hk.2) (.int .i64 ((rd_T48 l1_2 x38_2).f3))) (fun _ hk => hk.2) (.int .i64 ((rd_T48 l1_2 x38_2).f4))) (fun _ hk => hk.1.2)))⟩; replace BK170 : Aside0 (w55.heap[gb170]? = some (.cells #[.int .i64 a0_0, .int .i64 a0_1, .int .i64 a0_2, .int .i64 a0_3, .int .i64 a0_4, .int .i64 a0_5, .int .i64 a0_6] 26 (0, 0))) := ⟨(by rw [hw]; exact (bF NB170_177.out BK170.out))⟩; replace BK171 : Aside0 (w55.heap[gb171]? = some (.cells #[.int .i64 a1_0, .int .i64 a1_1, .slice (some ad176) l1_2.length c1_2] 35 (0, 0))) := ⟨(by rw [hw]; exact (bF NB171_177.out BK171.out))⟩; replace BK172 : Aside0 (w55.heap[gb172]? = some (.cells #[.int .i64 0, .int .i64 0, .slice none 0 0] 35 (0, 0))) := ⟨(by rw [hw]; exact (bF NB172_177.out BK172.out))⟩; replace BK175 : Aside0 (w55.heap[gb175]? = some (.cells #[.int .i64 a1_0, .int .i64 (wrap64 (a1_1 + 1)), u176002] 35 (0, 0))) := ⟨(by rw [hw]; exact (bF NB175_177.out BK175.out))⟩; replace BK177 : Aside0 (w55.heap[gb177]? = some (.cells #[.int .i64 ((rd_T48 l1_2 x38_2).f0), .int .i64 ((rd_T48 l1_2 x38_2).f1), .int .i64 ((rd_T48 l1_2 x38_2).f2), .int .i64 ((rd_T48 l1_2 x38_2).f3), .int .i64 ((rd_T48 l1_2 x38_2).f4)] 48 (0, 0))) := ⟨(by rw [hw]; exact (by refine bU ?_; refine blk_put (cs := #[.int .i64 ((rd_T48 l1_2 x38_2).f0), .int .i64 ((rd_T48 l1_2 x38_2).f1), .int .i64 ((rd_T48 l1_2 x38_2).f2), .int .i64 ((rd_T48 l1_2 x38_2).f3), .int .i64 0]) ?_ 4 _ rfl; refine bU ?_; refine blk_put (cs := #[.int .i64 ((rd_T48 l1_2 x38_2).f0), .int .i64 ((rd_T48 l1_2 x38_2).f1), .int .i64 ((rd_T48 l1_2 x38_2).f2), .int .i64 0, .int .i64 0]) ?_ 3 _ rfl; refine bU ?_; refine blk_put (cs := #[.int .i64 ((rd_T48 l1_2 x38_2).f0), .int .i64 ((rd_T48 l1_2 x38_2).f1), .int .i64 0, .int .i64 0, .int .i64 0]) ?_ 2 _ rfl; refine bU ?_; refine blk_put (cs := #[.int .i64 ((rd_T48 l1_2 x38_2).f0), .int .i64 0, .int .i64 0, .int .i64 0, .int .i64 0]) ?_ 1 _ rfl; refine bU ?_; refine blk_put (cs := #[.int .i64 0, .int .i64 0, .int .i64 0, .int .i64 0, .int .i64 0]) ?_ 0 _ rfl; refine bU ?_; exact BK177.out))⟩; replace HB : Aside0 (Below w.heap.size w w55) := ⟨(by rw [hw]; exact (lU5 GE170.out GE171.out GE172.out GE175.out GE177.out))⟩; clear hw; have hcz56_0 : w55.cell? ⟨gb177, 0, none⟩ = some (.int .i64 ((rd_T48 l1_2 x38_2).f0)) := (blk_cell BK177.out 0).trans rfl; have hcz56_1 : w55.cell? ⟨gb177, 1, none⟩ = some (.int .i64 ((rd_T48 l1_2 x38_2).f1)) := (blk_cell BK177.out 1).trans rfl; have hcz56_2 : w55.cell? ⟨gb177, 2, none⟩ = some (.int .i64 ((rd_T48 l1_2 x38_2).f2)) := (blk_cell BK177.out 2).trans rfl; have hcz56_3 : w55.cell? ⟨gb177, 3, none⟩ = some (.int .i64 ((rd_T48 l1_2 x38_2).f3)) := (blk_cell BK177.out 3).trans rfl; have hcz56_4 : w55.cell? ⟨gb177, 4, none⟩ = some (.int .i64 ((rd_T48 l1_2 x38_2).f4)) := (blk_cell BK177.out 4).trans rfl; have hfz56_0 := blk_frozen BK177.out 0; have hfz56_1 := blk_frozen BK177.out 1; have hfz56_2 := blk_frozen BK177.out 2; have hfz56_3 := blk_frozen BK177.out 3; have hfz56_4 := blk_frozen BK177.out 4) | ((with_reducible refine gate_store (t := 3) (p := 45) rfl ?_); refine store_event (t := 3) (p := 45) (v := ?vo_w57) (w1 := (w55.setCell ⟨gb177, 4, none⟩ (.int .i64 (wrap64 (((rd_T48 l1_2 x38_2).f4) - 1))))) ?hg ?ho ?hn ?hr ?_; (case ho => rfl); (case hg => rfl); (case hn => rfl); (case hr => first | (go_simp; done) | (go_simp; rfl) | (have hq0_ := (blk_cell BK177.out 4).trans (show _ = some _ from rfl); have hf0_ := blk_frozen BK177.out 4; first | (go_simp; done) | (go_simp; rfl))); intro w57 hw; replace HO_176002 : Aside0 (Kd.R k48 48 w57 w.heap.size (fun k_ => k_ ≠ gb177) u176002 x176002_2) := ⟨(by rw [hw]; exact (by (with_reducible repeat (first | apply Kd.R_alloc | apply Kd.R_drewN | apply Kd.R_drew)); exact Kd.R_mono (Kd.R_far (p := ⟨gb177, 4, none⟩) (Kd.R_mono HO_176002.out (fun k_ hk => (⟨hk, hk⟩ : _ ∧ k_ ≠ gb177))) (fun _ hk => hk.2) (.int .i64 (wrap64 (((rd_T48 l1_2 x38_2).f4) - 1)))) (fun _ hk => hk.1)))⟩; replace BK170 : Aside0 (w57.heap[gb170]? = some (.cells #[.int .i64 a0_0, .int .i64 a0_1, .int .i64 a0_2, .int .i64 a0_3, .int .i64 a0_4, .int .i64 a0_5, .int .i64 a0_6] 26 (0, 0))) := ⟨(by rw [hw]; exact (bF NB170_177.out BK170.out))⟩; replace BK171 : Aside0 (w57.heap[gb171]? = some (.cells #[.int .i64 a1_0, .int .i64 a1_1, .slice (some ad176) l1_2.length c1_2] 35 (0, 0))) := ⟨(by rw [hw]; exact (bF NB171_177.out BK171.out))⟩; replace BK172 : Aside0 (w57.heap[gb172]? = some (.cells #[.int .i64 0, .int .i64 0, .slice none 0 0] 35 (0, 0))) := ⟨(by rw [hw]; exact (bF NB172_177.out BK172.out))⟩; replace BK175 : Aside0 (w57.heap[gb175]? = some (.cells #[.int .i64 a1_0, .int .i64 (wrap64 (a1_1 + 1)), u176002] 35 (0, 0))) := ⟨(by rw [hw]; exact (bF NB175_177.out BK175.out))⟩; replace BK177 : Aside0 (w57.heap[gb177]? = some (.cells #[.int .i64 ((rd_T48 l1_2 x38_2).f0), .int .i64 ((rd_T48 l1_2 x38_2).f1), .int .i64 ((rd_T48 l1_2 x38_2).f2), .int .i64 ((rd_T48 l1_2 x38_2).f3), .int .i64 (wrap64 (((rd_T48 l1_2 x38_2).f4) - 1))] 48 (0, 0))) := ⟨(by rw [hw]; exact (by refine bU ?_; refine blk_put (cs := #[.int .i64 ((rd_T48 l1_2 x38_2).f0), .int .i64 ((rd_T48 l1_2 x38_2).f1), .int .i64 ((rd_T48 l1_2 x38_2).f2), .int .i64 ((rd_T48 l1_2 x38_2).f3), .int .i64 ((rd_T48 l1_2 x38_2).f4)]) ?_ 4 _ rfl; refine bU ?_; exact BK177.out))⟩; replace HB : Aside0 (Below w.heap.size w w57) := ⟨(by rw [hw]; exact (lU5 GE170.out GE171.out GE172.out GE175.out GE177.out))⟩; clear hw; have hcz58_0 : w57.cell? ⟨gb177, 0, none⟩ = some (.int .i64 ((rd_T48 l1_2 x38_2).f0)) := (blk_cell BK177.out 0).trans rfl; have hcz58_1 : w57.cell? ⟨gb177, 1, none⟩ = some (.int .i64 ((rd_T48 l1_2 x38_2).f1)) := (blk_cell BK177.out 1).trans rfl; have hcz58_2 : w57.cell? ⟨gb177, 2, none⟩ = some (.int .i64 ((rd_T48 l1_2 x38_2).f2)) := (blk_cell BK177.out 2).trans rfl; have hcz58_3 : w57.cell? ⟨gb177, 3, none⟩ = some (.int .i64 ((rd_T48 l1_2 x38_2).f3)) := (blk_cell BK177.out 3).trans rfl; have hcz58_4 : w57.cell? ⟨gb177, 4, none⟩ = some (.int .i64 (wrap64 (((rd_T48 l1_2 x38_2).f4) - 1))) := (blk_cell BK177.out 4).trans rfl; have hfz58_0 := blk_frozen BK177.out 0; have hfz58_1 := blk_frozen BK177.out 1; have hfz58_2 := blk_frozen BK177.out 2; have hfz58_3 := blk_frozen BK177.out 3; have hfz58_4 := blk_frozen BK177.out 4))
          go_roundg k2
          case measure => have := HJ2.out; have := HK2.out; omega
          case rel => exact ⟨(wrap64 (x38_2 + 1)), (x176002_2), (u176002), tE, H', ⟨by have := HJ2.out; have := HK2.out; omega⟩, ⟨by (with_reducible repeat (first | apply Kd.R_alloc | apply Kd.R_drewN | apply Kd.R_drew)); exact Kd.R_mono HO_176002.out (fun _ hk => trivial)⟩, ⟨by refine bU ?_; exact BK170.out⟩, ⟨by refine bU ?_; exact BK171.out⟩, ⟨by refine bU ?_; exact BK172.out⟩, ⟨by refine bU ?_; exact BK175.out⟩, ⟨by repeat (first | (with_reducible first | exact HB.out | apply below_alloc | apply pw_below_drewN | apply below_drew1 | refine below_set ?_ GE170.out | refine below_set ?_ GE171.out | refine below_set ?_ GE172.out | refine below_set ?_ GE175.out | refine below_set ?_ GE177.out) | exact HB.out)⟩⟩
         ·rw [if_neg c48] at H
          have c48b0 : ((wrap64 (((rd_T48 l1_2 x38_2).f4) - 1)) == 0) = false := beq_eq_false_iff_ne.mpr c48
          have c48b1 : ((wrap64 (((rd_T48 l1_2 x38_2).f4) - 1)) != 0) = true := bne_iff_ne.mpr c48
          by_cases c59 : x176002_2.length < 3518437208883
          ·rw [if_pos c59] at H
           have LMc59 := Aside0.mk c59
           clear c59
           obtain ⟨y178, hy178⟩ : ∃ y_ : List (S48), y_ = (x176002_2 ++ [(⟨wrap64 (((rd_T48 l1_2 x38_2).f0) + ((rd_T48 l1_2 x38_2).f2)), wrap64 (((rd_T48 l1_2 x38_2).f1) + ((rd_T48 l1_2 x38_2).f3)), (rd_T48 l1_2 x38_2).f2, wrap64 (((rd_T48 l1_2 x38_2).f3) - a0_6), wrap64 (((rd_T48 l1_2 x38_2).f4) - 1)⟩ : S48)]) := ⟨_, rfl⟩
           replace H : (spec_StepCloud.l0 k2 l1_2 (l1_2.length : Int) (wrap64 (x38_2 + 1)) a0_0 a0_1 a0_2 a0_3 a0_4 a0_5 a0_6 a1_0 a1_1 l1_2 a1_0 (wrap64 (a1_1 + 1)) y178) = some (r1, r2, r3, r4) := by first | (rw [hy178]; with_reducible exact H) | (have H2_ := (Option.bind_some _ _).symm.trans H; rw [hy178]; with_reducible exact H2_) | (have H2_ := (Option.bind_some _ _).symm.trans H; with_reducible exact H2_) | with_reducible exact H | (rw [hy178]; exact H) | exact H
           have Ny178 := Aside0.mk hy178
           clear hy178
           have H' := Aside0.mk H
           clear H
           have p176 : 0 ≤ (x38_2 : Int) := of_decide_eq_true hE
           have q176 : x38_2 < (l1_2.length : Int) := of_decide_eq_true hE
           obtain ⟨ad176, e176, hx176_0, hx176_1, hx176_2, hx176_3, hx176_4⟩ := at_T48 HR1_2.out x38_2 p176 q176
           cases e176
           replace hx176_0 := (HB.out.cell (World.block_lt_of_cell? w _ hx176_0)).trans hx176_0
           replace hx176_1 := (HB.out.cell (World.block_lt_of_cell? w _ hx176_1)).trans hx176_1
           replace hx176_2 := (HB.out.cell (World.block_lt_of_cell? w _ hx176_2)).trans hx176_2
           replace hx176_3 := (HB.out.cell (World.block_lt_of_cell? w _ hx176_3)).trans hx176_3
           replace hx176_4 := (HB.out.cell (World.block_lt_of_cell? w _ hx176_4)).trans hx176_4
           replace p176 := eq_true p176
           replace q176 := eq_true q176
           go_wp2_with (first | ((with_reducible refine gate_dst (N := 8) rfl ?_); (try (refine gate_guard (by rfl) ?_; dsimp only)); refine box_event rfl (N := 8) rfl (cs := #[.int .i64 0, .int .i64 0, .int .i64 0, .int .i64 0, .int .i64 0]) (t := 48) sE ?_; intro gb177 hg w60 hbox hb; replace HO_176002 := Aside0.mk (Kd.R_below (Kd.R_elderB (rU HO_176002.out) gb177 (Nat.le_of_eq hg.symm)) hb); have BK177 := Aside0.mk hbox; have GW177 := gS w hg (lU4 GE170.out GE171.out GE172.out GE175.out); have GE177 := GW177; replace HB := Aside0.mk (below_step (lU4 GE170.out GE171.out GE172.out GE175.out) hb); have NB170_177 := nL hg (bU BK170.out); have NB177_170 := nG hg (bU BK170.out); replace BK170 := Aside0.mk (blk_below (bU BK170.out) hb); have NB171_177 := nL hg (bU BK171.out); have NB177_171 := nG hg (bU BK171.out); replace BK171 := Aside0.mk (blk_below (bU BK171.out) hb); have NB172_177 := nL hg (bU BK172.out); have NB177_172 := nG hg (bU BK172.out); replace BK172 := Aside0.mk (blk_below (bU BK172.out) hb); have NB175_177 := nL hg (bU BK175.out); have NB177_175 := nG hg (bU BK175.out); replace BK175 := Aside0.mk (blk_below (bU BK175.out) hb); clear hb hbox hg; have hnb61 := NB177_170.out; have hnc61 := NB170_177.out; have hnb62 := NB177_171.out; have hnc62 := NB171_177.out; have hnb63 := NB177_172.out; have hnc63 := NB172_177.out; have hnb64 := NB177_175.out; have hnc64 := NB175_177.out; have hcz65_0 : w60.cell? ⟨gb177, 0, none⟩ = some (.int .i64 0) := (blk_cell BK177.out 0).trans rfl; have hcz65_1 : w60.cell? ⟨gb177, 1, none⟩ = some (.int .i64 0) := (blk_cell BK177.out 1).trans rfl; have hcz65_2 : w60.cell? ⟨gb177, 2, none⟩ = some (.int .i64 0) := (blk_cell BK177.out 2).trans rfl; have hcz65_3 : w60.cell? ⟨gb177, 3, none⟩ = some (.int .i64 0) := (blk_cell BK177.out 3).trans rfl; have hcz65_4 : w60.cell? ⟨gb177, 4, none⟩ = some (.int .i64 0) := (blk_cell BK177.out 4).trans rfl; have hfz65_0 := blk_frozen BK177.out 0; have hfz65_1 := blk_frozen BK177.out 1; have hfz65_2 := blk_frozen BK177.out 2; have hfz65_3 := blk_frozen BK177.out 3; have hfz65_4 := blk_frozen BK177.out 4) | ((with_reducible refine gate_store (t := 48) (p := 8) rfl ?_); refine store_event (t := 48) (p := 8) (v := ?vo_w66) (w1 := (((((w60.setCell ⟨gb177, 0, none⟩ (.int .i64 ((rd_T48 l1_2 x38_2).f0))).setCell ⟨gb177, 1, none⟩ (.int .i64 ((rd_T48 l1_2 x38_2).f1))).setCell ⟨gb177, 2, none⟩ (.int .i64 ((rd_T48 l1_2 x38_2).f2))).setCell ⟨gb177, 3, none⟩ (.int .i64 ((rd_T48 l1_2 x38_2).f3))).setCell ⟨gb177, 4, none⟩ (.int .i64 ((rd_T48 l1_2 x38_2).f4)))) ?hg ?ho ?hn ?hr ?_; (case ho => rfl); (case hg => rfl); (case hn => rfl); (case hr => first | (go_simp; done) | (go_simp; rfl) | (have hq0_ := (blk_cell BK177.out 0).trans (show _ = some _ from rfl); have hf0_ := blk_frozen BK177.out 0; have hq1_ := (blk_cell BK177.out 1).trans (show _ = some _ from rfl); have hf1_ := blk_frozen BK177.out 1; have hq2_ := (blk_cell BK177.out 2).trans (show _ = some _ from rfl); have hf2_ := blk_frozen BK177.out 2; have hq3_ := (blk_cell BK177.out 3).trans (show _ = some _ from rfl); have hf3_ := blk_frozen BK177.out 3; have hq4_ := (blk_cell BK177.out 4).trans (show _ = some _ from rfl); have hf4_ := blk_frozen BK177.out 4; first | (go_simp; done) | (go_simp; rfl))); intro w66 hw; replace HO_176002 : Aside0 (Kd.R k48 48 w66 w.heap.size (fun k_ => k_ ≠ gb177) u176002 x176002_2) := ⟨(by rw [hw]; exact (by (with_reducible repeat (first | apply Kd.R_alloc | apply Kd.R_drewN | apply Kd.R_drew)); exact Kd.R_mono (Kd.R_far (p := ⟨gb177, 4, none⟩) (Kd.R_far (p := ⟨gb177, 3, none⟩) (Kd.R_far (p := ⟨gb177, 2, none⟩) (Kd.R_far (p := ⟨gb177, 1, none⟩) (Kd.R_far (p := ⟨gb177, 0, none⟩) (Kd.R_mono HO_176002.out (fun k_ hk => (⟨hk, hk.2⟩ : _ ∧ k_ ≠ gb177))) (fun _ hk => hk.2) (.int .i64 ((rd_T48 l1_2 x38_2).f0))) (fun _ hk => hk.2) (.int .i64 ((rd_T48 l1_2 x38_2).f1))) (fun _ hk => hk.2) (.int .i64 ((rd_T48 l1_2 x38_2).f2))) (fun _ hk => hk.2) (.int .i64 ((rd_T48 l1_2 x38_2).f3))) (fun _ hk => hk.2) (.int .i64 ((rd_T48 l1_2 x38_2).f4))) (fun _ hk => hk.1.2)))⟩; replace BK170 : Aside0 (w66.heap[gb170]? = some (.cells #[.int .i64 a0_0, .int .i64 a0_1, .int .i64 a0_2, .int .i64 a0_3, .int .i64 a0_4, .int .i64 a0_5, .int .i64 a0_6] 26 (0, 0))) := ⟨(by rw [hw]; exact (bF NB170_177.out BK170.out))⟩; replace BK171 : Aside0 (w66.heap[gb171]? = some (.cells #[.int .i64 a1_0, .int .i64 a1_1, .slice (some ad176) l1_2.length c1_2] 35 (0, 0))) := ⟨(by rw [hw]; exact (bF NB171_177.out BK171.out))⟩; replace BK172 : Aside0 (w66.heap[gb172]? = some (.cells #[.int .i64 0, .int .i64 0, .slice none 0 0] 35 (0, 0))) := ⟨(by rw [hw]; exact (bF NB172_177.out BK172.out))⟩; replace BK175 : Aside0 (w66.heap[gb175]? = some (.cells #[.int .i64 a1_0, .int .i64 (wrap64 (a1_1 + 1)), u176002] 35 (0, 0))) := ⟨(by rw [hw]; exact (bF NB175_177.out BK175.out))⟩; replace BK177 : Aside0 (w66.heap[gb177]? = some (.cells #[.int .i64 ((rd_T48 l1_2 x38_2).f0), .int .i64 ((rd_T48 l1_2 x38_2).f1), .int .i64 ((rd_T48 l1_2 x38_2).f2), .int .i64 ((rd_T48 l1_2 x38_2).f3), .int .i64 ((rd_T48 l1_2 x38_2).f4)] 48 (0, 0))) := ⟨(by rw [hw]; exact (by refine bU ?_; refine blk_put (cs := #[.int .i64 ((rd_T48 l1_2 x38_2).f0), .int .i64 ((rd_T48 l1_2 x38_2).f1), .int .i64 ((rd_T48 l1_2 x38_2).f2), .int .i64 ((rd_T48 l1_2 x38_2).f3), .int .i64 0]) ?_ 4 _ rfl; refine bU ?_; refine blk_put (cs := #[.int .i64 ((rd_T48 l1_2 x38_2).f0), .int .i64 ((rd_T48 l1_2 x38_2).f1), .int .i64 ((rd_T48 l1_2 x38_2).f2), .int .i64 0, .int .i64 0]) ?_ 3 _ rfl; refine bU ?_; refine blk_put (cs := #[.int .i64 ((rd_T48 l1_2 x38_2).f0), .int .i64 ((rd_T48 l1_2 x38_2).f1), .int .i64 0, .int .i64 0, .int .i64 0]) ?_ 2 _ rfl; refine bU ?_; refine blk_put (cs := #[.int .i64 ((rd_T48 l1_2 x38_2).f0), .int .i64 0, .int .i64 0, .int .i64 0, .int .i64 0]) ?_ 1 _ rfl; refine bU ?_; refine blk_put (cs := #[.int .i64 0, .int .i64 0, .int .i64 0, .int .i64 0, .int .i64 0]) ?_ 0 _ rfl; refine bU ?_; exact BK177.out))⟩; replace HB : Aside0 (Below w.heap.size w w66) := ⟨(by rw [hw]; exact (lU5 GE170.out GE171.out GE172.out GE175.out GE177.out))⟩; clear hw; have hcz67_0 : w66.cell? ⟨gb177, 0, none⟩ = some (.int .i64 ((rd_T48 l1_2 x38_2).f0)) := (blk_cell BK177.out 0).trans rfl; have hcz67_1 : w66.cell? ⟨gb177, 1, none⟩ = some (.int .i64 ((rd_T48 l1_2 x38_2).f1)) := (blk_cell BK177.out 1).trans rfl; have hcz67_2 : w66.cell? ⟨gb177, 2, none⟩ = some (.int .i64 ((rd_T48 l1_2 x38_2).f2)) := (blk_cell BK177.out 2).trans rfl; have hcz67_3 : w66.cell? ⟨gb177, 3, none⟩ = some (.int .i64 ((rd_T48 l1_2 x38_2).f3)) := (blk_cell BK177.out 3).trans rfl; have hcz67_4 : w66.cell? ⟨gb177, 4, none⟩ = some (.int .i64 ((rd_T48 l1_2 x38_2).f4)) := (blk_cell BK177.out 4).trans rfl; have hfz67_0 := blk_frozen BK177.out 0; have hfz67_1 := blk_frozen BK177.out 1; have hfz67_2 := blk_frozen BK177.out 2; have hfz67_3 := blk_frozen BK177.out 3; have hfz67_4 := blk_frozen BK177.out 4) | ((with_reducible refine gate_store (t := 3) (p := 45) rfl ?_); refine store_event (t := 3) (p := 45) (v := ?vo_w68) (w1 := (w66.setCell ⟨gb177, 4, none⟩ (.int .i64 (wrap64 (((rd_T48 l1_2 x38_2).f4) - 1))))) ?hg ?ho ?hn ?hr ?_; (case ho => rfl); (case hg => rfl); (case hn => rfl); (case hr => first | (go_simp; done) | (go_simp; rfl) | (have hq0_ := (blk_cell BK177.out 4).trans (show _ = some _ from rfl); have hf0_ := blk_frozen BK177.out 4; first | (go_simp; done) | (go_simp; rfl))); intro w68 hw; replace HO_176002 : Aside0 (Kd.R k48 48 w68 w.heap.size (fun k_ => k_ ≠ gb177) u176002 x176002_2) := ⟨(by rw [hw]; exact (by (with_reducible repeat (first | apply Kd.R_alloc | apply Kd.R_drewN | apply Kd.R_drew)); exact Kd.R_mono (Kd.R_far (p := ⟨gb177, 4, none⟩) (Kd.R_mono HO_176002.out (fun k_ hk => (⟨hk, hk⟩ : _ ∧ k_ ≠ gb177))) (fun _ hk => hk.2) (.int .i64 (wrap64 (((rd_T48 l1_2 x38_2).f4) - 1)))) (fun _ hk => hk.1)))⟩; replace BK170 : Aside0 (w68.heap[gb170]? = some (.cells #[.int .i64 a0_0, .int .i64 a0_1, .int .i64 a0_2, .int .i64 a0_3, .int .i64 a0_4, .int .i64 a0_5, .int .i64 a0_6] 26 (0, 0))) := ⟨(by rw [hw]; exact (bF NB170_177.out BK170.out))⟩; replace BK171 : Aside0 (w68.heap[gb171]? = some (.cells #[.int .i64 a1_0, .int .i64 a1_1, .slice (some ad176) l1_2.length c1_2] 35 (0, 0))) := ⟨(by rw [hw]; exact (bF NB171_177.out BK171.out))⟩; replace BK172 : Aside0 (w68.heap[gb172]? = some (.cells #[.int .i64 0, .int .i64 0, .slice none 0 0] 35 (0, 0))) := ⟨(by rw [hw]; exact (bF NB172_177.out BK172.out))⟩; replace BK175 : Aside0 (w68.heap[gb175]? = some (.cells #[.int .i64 a1_0, .int .i64 (wrap64 (a1_1 + 1)), u176002] 35 (0, 0))) := ⟨(by rw [hw]; exact (bF NB175_177.out BK175.out))⟩; replace BK177 : Aside0 (w68.heap[gb177]? = some (.cells #[.int .i64 ((rd_T48 l1_2 x38_2).f0), .int .i64 ((rd_T48 l1_2 x38_2).f1), .int .i64 ((rd_T48 l1_2 x38_2).f2), .int .i64 ((rd_T48 l1_2 x38_2).f3), .int .i64 (wrap64 (((rd_T48 l1_2 x38_2).f4) - 1))] 48 (0, 0))) := ⟨(by rw [hw]; exact (by refine bU ?_; refine blk_put (cs := #[.int .i64 ((rd_T48 l1_2 x38_2).f0), .int .i64 ((rd_T48 l1_2 x38_2).f1), .int .i64 ((rd_T48 l1_2 x38_2).f2), .int .i64 ((rd_T48 l1_2 x38_2).f3), .int .i64 ((rd_T48 l1_2 x38_2).f4)]) ?_ 4 _ rfl; refine bU ?_; exact BK177.out))⟩; replace HB : Aside0 (Below w.heap.size w w68) := ⟨(by rw [hw]; exact (lU5 GE170.out GE171.out GE172.out GE175.out GE177.out))⟩; clear hw; have hcz69_0 : w68.cell? ⟨gb177, 0, none⟩ = some (.int .i64 ((rd_T48 l1_2 x38_2).f0)) := (blk_cell BK177.out 0).trans rfl; have hcz69_1 : w68.cell? ⟨gb177, 1, none⟩ = some (.int .i64 ((rd_T48 l1_2 x38_2).f1)) := (blk_cell BK177.out 1).trans rfl; have hcz69_2 : w68.cell? ⟨gb177, 2, none⟩ = some (.int .i64 ((rd_T48 l1_2 x38_2).f2)) := (blk_cell BK177.out 2).trans rfl; have hcz69_3 : w68.cell? ⟨gb177, 3, none⟩ = some (.int .i64 ((rd_T48 l1_2 x38_2).f3)) := (blk_cell BK177.out 3).trans rfl; have hcz69_4 : w68.cell? ⟨gb177, 4, none⟩ = some (.int .i64 (wrap64 (((rd_T48 l1_2 x38_2).f4) - 1))) := (blk_cell BK177.out 4).trans rfl; have hfz69_0 := blk_frozen BK177.out 0; have hfz69_1 := blk_frozen BK177.out 1; have hfz69_2 := blk_frozen BK177.out 2; have hfz69_3 := blk_frozen BK177.out 3; have hfz69_4 := blk_frozen BK177.out 4) | ((with_reducible refine gate_store (t := 3) (p := 54) rfl ?_); refine store_event (t := 3) (p := 54) (v := ?vo_w70) (w1 := (w68.setCell ⟨gb177, 0, none⟩ (.int .i64 (wrap64 (((rd_T48 l1_2 x38_2).f0) + ((rd_T48 l1_2 x38_2).f2)))))) ?hg ?ho ?hn ?hr ?_; (case ho => rfl); (case hg => rfl); (case hn => rfl); (case hr => first | (go_simp; done) | (go_simp; rfl) | (have hq0_ := (blk_cell BK177.out 0).trans (show _ = some _ from rfl); have hf0_ := blk_frozen BK177.out 0; first | (go_simp; done) | (go_simp; rfl))); intro w70 hw; replace HO_176002 : Aside0 (Kd.R k48 48 w70 w.heap.size (fun k_ => k_ ≠ gb177) u176002 x176002_2) := ⟨(by rw [hw]; exact (by (with_reducible repeat (first | apply Kd.R_alloc | apply Kd.R_drewN | apply Kd.R_drew)); exact Kd.R_mono (Kd.R_far (p := ⟨gb177, 0, none⟩) (Kd.R_mono HO_176002.out (fun k_ hk => (⟨hk, hk⟩ : _ ∧ k_ ≠ gb177))) (fun _ hk => hk.2) (.int .i64 (wrap64 (((rd_T48 l1_2 x38_2).f0) + ((rd_T48 l1_2 x38_2).f2))))) (fun _ hk => hk.1)))⟩; replace BK170 : Aside0 (w70.heap[gb170]? = some (.cells #[.int .i64 a0_0, .int .i64 a0_1, .int .i64 a0_2, .int .i64 a0_3, .int .i64 a0_4, .int .i64 a0_5, .int .i64 a0_6] 26 (0, 0))) := ⟨(by rw [hw]; exact (bF NB170_177.out BK170.out))⟩; replace BK171 : Aside0 (w70.heap[gb171]? = some (.cells #[.int .i64 a1_0, .int .i64 a1_1, .slice (some ad176) l1_2.length c1_2] 35 (0, 0))) := ⟨(by rw [hw]; exact (bF NB171_177.out BK171.out))⟩; replace BK172 : Aside0 (w70.heap[gb172]? = some (.cells #[.int .i64 0, .int .i64 0, .slice none 0 0] 35 (0, 0))) := ⟨(by rw [hw]; exact (bF NB172_177.out BK172.out))⟩; replace BK175 : Aside0 (w70.heap[gb175]? = some (.cells #[.int .i64 a1_0, .int .i64 (wrap64 (a1_1 + 1)), u176002] 35 (0, 0))) := ⟨(by rw [hw]; exact (bF NB175_177.out BK175.out))⟩; replace BK177 : Aside0 (w70.heap[gb177]? = some (.cells #[.int .i64 (wrap64 (((rd_T48 l1_2 x38_2).f0) + ((rd_T48 l1_2 x38_2).f2))), .int .i64 ((rd_T48 l1_2 x38_2).f1), .int .i64 ((rd_T48 l1_2 x38_2).f2), .int .i64 ((rd_T48 l1_2 x38_2).f3), .int .i64 (wrap64 (((rd_T48 l1_2 x38_2).f4) - 1))] 48 (0, 0))) := ⟨(by rw [hw]; exact (by refine bU ?_; refine blk_put (cs := #[.int .i64 ((rd_T48 l1_2 x38_2).f0), .int .i64 ((rd_T48 l1_2 x38_2).f1), .int .i64 ((rd_T48 l1_2 x38_2).f2), .int .i64 ((rd_T48 l1_2 x38_2).f3), .int .i64 (wrap64 (((rd_T48 l1_2 x38_2).f4) - 1))]) ?_ 0 _ rfl; refine bU ?_; exact BK177.out))⟩; replace HB : Aside0 (Below w.heap.size w w70) := ⟨(by rw [hw]; exact (lU5 GE170.out GE171.out GE172.out GE175.out GE177.out))⟩; clear hw; have hcz71_0 : w70.cell? ⟨gb177, 0, none⟩ = some (.int .i64 (wrap64 (((rd_T48 l1_2 x38_2).f0) + ((rd_T48 l1_2 x38_2).f2)))) := (blk_cell BK177.out 0).trans rfl; have hcz71_1 : w70.cell? ⟨gb177, 1, none⟩ = some (.int .i64 ((rd_T48 l1_2 x38_2).f1)) := (blk_cell BK177.out 1).trans rfl; have hcz71_2 : w70.cell? ⟨gb177, 2, none⟩ = some (.int .i64 ((rd_T48 l1_2 x38_2).f2)) := (blk_cell BK177.out 2).trans rfl; have hcz71_3 : w70.cell? ⟨gb177, 3, none⟩ = some (.int .i64 ((rd_T48 l1_2 x38_2).f3)) := (blk_cell BK177.out 3).trans rfl; have hcz71_4 : w70.cell? ⟨gb177, 4, none⟩ = some (.int .i64 (wrap64 (((rd_T48 l1_2 x38_2).f4) - 1))) := (blk_cell BK177.out 4).trans rfl; have hfz71_0 := blk_frozen BK177.out 0; have hfz71_1 := blk_frozen BK177.out 1; have hfz71_2 := blk_frozen BK177.out 2; have hfz71_3 := blk_frozen BK177.out 3; have hfz71_4 := blk_frozen BK177.out 4) | ((with_reducible refine gate_store (t := 3) (p := 60) rfl ?_); refine store_event (t := 3) (p := 60) (v := ?vo_w72) (w1 := (w70.setCell ⟨gb177, 1, none⟩ (.int .i64 (wrap64 (((rd_T48 l1_2 x38_2).f1) + ((rd_T48 l1_2 x38_2).f3)))))) ?hg ?ho ?hn ?hr ?_; (case ho => rfl); (case hg => rfl); (case hn => rfl); (case hr => first | (go_simp; done) | (go_simp; rfl) | (have hq0_ := (blk_cell BK177.out 1).trans (show _ = some _ from rfl); have hf0_ := blk_frozen BK177.out 1; first | (go_simp; done) | (go_simp; rfl))); intro w72 hw; replace HO_176002 : Aside0 (Kd.R k48 48 w72 w.heap.size (fun k_ => k_ ≠ gb177) u176002 x176002_2) := ⟨(by rw [hw]; exact (by (with_reducible repeat (first | apply Kd.R_alloc | apply Kd.R_drewN | apply Kd.R_drew)); exact Kd.R_mono (Kd.R_far (p := ⟨gb177, 1, none⟩) (Kd.R_mono HO_176002.out (fun k_ hk => (⟨hk, hk⟩ : _ ∧ k_ ≠ gb177))) (fun _ hk => hk.2) (.int .i64 (wrap64 (((rd_T48 l1_2 x38_2).f1) + ((rd_T48 l1_2 x38_2).f3))))) (fun _ hk => hk.1)))⟩; replace BK170 : Aside0 (w72.heap[gb170]? = some (.cells #[.int .i64 a0_0, .int .i64 a0_1, .int .i64 a0_2, .int .i64 a0_3, .int .i64 a0_4, .int .i64 a0_5, .int .i64 a0_6] 26 (0, 0))) := ⟨(by rw [hw]; exact (bF NB170_177.out BK170.out))⟩; replace BK171 : Aside0 (w72.heap[gb171]? = some (.cells #[.int .i64 a1_0, .int .i64 a1_1, .slice (some ad176) l1_2.length c1_2] 35 (0, 0))) := ⟨(by rw [hw]; exact (bF NB171_177.out BK171.out))⟩; replace BK172 : Aside0 (w72.heap[gb172]? = some (.cells #[.int .i64 0, .int .i64 0, .slice none 0 0] 35 (0, 0))) := ⟨(by rw [hw]; exact (bF NB172_177.out BK172.out))⟩; replace BK175 : Aside0 (w72.heap[gb175]? = some (.cells #[.int .i64 a1_0, .int .i64 (wrap64 (a1_1 + 1)), u176002] 35 (0, 0))) := ⟨(by rw [hw]; exact (bF NB175_177.out BK175.out))⟩; replace BK177 : Aside0 (w72.heap[gb177]? = some (.cells #[.int .i64 (wrap64 (((rd_T48 l1_2 x38_2).f0) + ((rd_T48 l1_2 x38_2).f2))), .int .i64 (wrap64 (((rd_T48 l1_2 x38_2).f1) + ((rd_T48 l1_2 x38_2).f3))), .int .i64 ((rd_T48 l1_2 x38_2).f2), .int .i64 ((rd_T48 l1_2 x38_2).f3), .int .i64 (wrap64 (((rd_T48 l1_2 x38_2).f4) - 1))] 48 (0, 0))) := ⟨(by rw [hw]; exact (by refine bU ?_; refine blk_put (cs := #[.int .i64 (wrap64 (((rd_T48 l1_2 x38_2).f0) + ((rd_T48 l1_2 x38_2).f2))), .int .i64 ((rd_T48 l1_2 x38_2).f1), .int .i64 ((rd_T48 l1_2 x38_2).f2), .int .i64 ((rd_T48 l1_2 x38_2).f3), .int .i64 (wrap64 (((rd_T48 l1_2 x38_2).f4) - 1))]) ?_ 1 _ rfl; refine bU ?_; exact BK177.out))⟩; replace HB : Aside0 (Below w.heap.size w w72) := ⟨(by rw [hw]; exact (lU5 GE170.out GE171.out GE172.out GE175.out GE177.out))⟩; clear hw; have hcz73_0 : w72.cell? ⟨gb177, 0, none⟩ = some (.int .i64 (wrap64 (((rd_T48 l1_2 x38_2).f0) + ((rd_T48 l1_2 x38_2).f2)))) := (blk_cell BK177.out 0).trans rfl; have hcz73_1 : w72.cell? ⟨gb177, 1, none⟩ = some (.int .i64 (wrap64 (((rd_T48 l1_2 x38_2).f1) + ((rd_T48 l1_2 x38_2).f3)))) := (blk_cell BK177.out 1).trans rfl; have hcz73_2 : w72.cell? ⟨gb177, 2, none⟩ = some (.int .i64 ((rd_T48 l1_2 x38_2).f2)) := (blk_cell BK177.out 2).trans rfl; have hcz73_3 : w72.cell? ⟨gb177, 3, none⟩ = some (.int .i64 ((rd_T48 l1_2 x38_2).f3)) := (blk_cell BK177.out 3).trans rfl; have hcz73_4 : w72.cell? ⟨gb177, 4, none⟩ = some (.int .i64 (wrap64 (((rd_T48 l1_2 x38_2).f4) - 1))) := (blk_cell BK177.out 4).trans rfl; have hfz73_0 := blk_frozen BK177.out 0; have hfz73_1 := blk_frozen BK177.out 1; have hfz73_2 := blk_frozen BK177.out 2; have hfz73_3 := blk_frozen BK177.out 3; have hfz73_4 := blk_frozen BK177.out 4; have hnb74 := NB170_171.out; have hnc74 := NB171_170.out; have hnb75 := NB170_172.out; have hnc75 := NB172_170.out; have hnb76 := NB170_175.out; have hnc76 := NB175_170.out; have hcz77_0 : w72.cell? ⟨gb170, 0, none⟩ = some (.int .i64 a0_0) := (blk_cell BK170.out 0).trans rfl; have hcz77_1 : w72.cell? ⟨gb170, 1, none⟩ = some (.int .i64 a0_1) := (blk_cell BK170.out 1).trans rfl; have hcz77_2 : w72.cell? ⟨gb170, 2, none⟩ = some (.int .i64 a0_2) := (blk_cell BK170.out 2).trans rfl; have hcz77_3 : w72.cell? ⟨gb170, 3, none⟩ = some (.int .i64 a0_3) := (blk_cell BK170.out 3).trans rfl; have hcz77_4 : w72.cell? ⟨gb170, 4, none⟩ = some (.int .i64 a0_4) := (blk_cell BK170.out 4).trans rfl; have hcz77_5 : w72.cell? ⟨gb170, 5, none⟩ = some (.int .i64 a0_5) := (blk_cell BK170.out 5).trans rfl; have hcz77_6 : w72.cell? ⟨gb170, 6, none⟩ = some (.int .i64 a0_6) := (blk_cell BK170.out 6).trans rfl; have hfz77_0 := blk_frozen BK170.out 0; have hfz77_1 := blk_frozen BK170.out 1; have hfz77_2 := blk_frozen BK170.out 2; have hfz77_3 := blk_frozen BK170.out 3; have hfz77_4 := blk_frozen BK170.out 4; have hfz77_5 := blk_frozen BK170.out 5; have hfz77_6 := blk_frozen BK170.out 6) | ((with_reducible refine gate_store (t := 3) (p := 66) rfl ?_); refine store_event (t := 3) (p := 66) (v := ?vo_w78) (w1 := (w72.setCell ⟨gb177, 3, none⟩ (.int .i64 (wrap64 (((rd_T48 l1_2 x38_2).f3) - a0_6))))) ?hg ?ho ?hn ?hr ?_; (case ho => rfl); (case hg => rfl); (case hn => rfl); (case hr => first | (go_simp; done) | (go_simp; rfl) | (have hq0_ := (blk_cell BK177.out 3).trans (show _ = some _ from rfl); have hf0_ := blk_frozen BK177.out 3; first | (go_simp; done) | (go_simp; rfl))); intro w78 hw; replace HO_176002 : Aside0 (Kd.R k48 48 w78 w.heap.size (fun k_ => k_ ≠ gb177) u176002 x176002_2) := ⟨(by rw [hw]; exact (by (with_reducible repeat (first | apply Kd.R_alloc | apply Kd.R_drewN | apply Kd.R_drew)); exact Kd.R_mono (Kd.R_far (p := ⟨gb177, 3, none⟩) (Kd.R_mono HO_176002.out (fun k_ hk => (⟨hk, hk⟩ : _ ∧ k_ ≠ gb177))) (fun _ hk => hk.2) (.int .i64 (wrap64 (((rd_T48 l1_2 x38_2).f3) - a0_6)))) (fun _ hk => hk.1)))⟩; replace BK170 : Aside0 (w78.heap[gb170]? = some (.cells #[.int .i64 a0_0, .int .i64 a0_1, .int .i64 a0_2, .int .i64 a0_3, .int .i64 a0_4, .int .i64 a0_5, .int .i64 a0_6] 26 (0, 0))) := ⟨(by rw [hw]; exact (bF NB170_177.out BK170.out))⟩; replace BK171 : Aside0 (w78.heap[gb171]? = some (.cells #[.int .i64 a1_0, .int .i64 a1_1, .slice (some ad176) l1_2.length c1_2] 35 (0, 0))) := ⟨(by rw [hw]; exact (bF NB171_177.out BK171.out))⟩; replace BK172 : Aside0 (w78.heap[gb172]? = some (.cells #[.int .i64 0, .int .i64 0, .slice none 0 0] 35 (0, 0))) := ⟨(by rw [hw]; exact (bF NB172_177.out BK172.out))⟩; replace BK175 : Aside0 (w78.heap[gb175]? = some (.cells #[.int .i64 a1_0, .int .i64 (wrap64 (a1_1 + 1)), u176002] 35 (0, 0))) := ⟨(by rw [hw]; exact (bF NB175_177.out BK175.out))⟩; replace BK177 : Aside0 (w78.heap[gb177]? = some (.cells #[.int .i64 (wrap64 (((rd_T48 l1_2 x38_2).f0) + ((rd_T48 l1_2 x38_2).f2))), .int .i64 (wrap64 (((rd_T48 l1_2 x38_2).f1) + ((rd_T48 l1_2 x38_2).f3))), .int .i64 ((rd_T48 l1_2 x38_2).f2), .int .i64 (wrap64 (((rd_T48 l1_2 x38_2).f3) - a0_6)), .int .i64 (wrap64 (((rd_T48 l1_2 x38_2).f4) - 1))] 48 (0, 0))) := ⟨(by rw [hw]; exact (by refine bU ?_; refine blk_put (cs := #[.int .i64 (wrap64 (((rd_T48 l1_2 x38_2).f0) + ((rd_T48 l1_2 x38_2).f2))), .int .i64 (wrap64 (((rd_T48 l1_2 x38_2).f1) + ((rd_T48 l1_2 x38_2).f3))), .int .i64 ((rd_T48 l1_2 x38_2).f2), .int .i64 ((rd_T48 l1_2 x38_2).f3), .int .i64 (wrap64 (((rd_T48 l1_2 x38_2).f4) - 1))]) ?_ 3 _ rfl; refine bU ?_; exact BK177.out))⟩; replace HB : Aside0 (Below w.heap.size w w78) := ⟨(by rw [hw]; exact (lU5 GE170.out GE171.out GE172.out GE175.out GE177.out))⟩; clear hw; have hnb79 := NB175_171.out; have hnc79 := NB171_175.out; have hnb80 := NB175_172.out; have hnc80 := NB172_175.out; have hcz81_0 : w78.cell? ⟨gb175, 0, none⟩ = some (.int .i64 a1_0) := (blk_cell BK175.out 0).trans rfl; have hcz81_1 : w78.cell? ⟨gb175, 1, none⟩ = some (.int .i64 (wrap64 (a1_1 + 1))) := (blk_cell BK175.out 1).trans rfl; have hcz81_2 : w78.cell? ⟨gb175, 2, none⟩ = some (u176002) := (blk_cell BK175.out 2).trans rfl; have hfz81_0 := blk_frozen BK175.out 0; have hfz81_1 := blk_frozen BK175.out 1; have hfz81_2 := blk_frozen BK175.out 2; have hcz82_0 : w78.cell? ⟨gb177, 0, none⟩ = some (.int .i64 (wrap64 (((rd_T48 l1_2 x38_2).f0) + ((rd_T48 l1_2 x38_2).f2)))) := (blk_cell BK177.out 0).trans rfl; have hcz82_1 : w78.cell? ⟨gb177, 1, none⟩ = some (.int .i64 (wrap64 (((rd_T48 l1_2 x38_2).f1) + ((rd_T48 l1_2 x38_2).f3)))) := (blk_cell BK177.out 1).trans rfl; have hcz82_2 : w78.cell? ⟨gb177, 2, none⟩ = some (.int .i64 ((rd_T48 l1_2 x38_2).f2)) := (blk_cell BK177.out 2).trans rfl; have hcz82_3 : w78.cell? ⟨gb177, 3, none⟩ = some (.int .i64 (wrap64 (((rd_T48 l1_2 x38_2).f3) - a0_6))) := (blk_cell BK177.out 3).trans rfl; have hcz82_4 : w78.cell? ⟨gb177, 4, none⟩ = some (.int .i64 (wrap64 (((rd_T48 l1_2 x38_2).f4) - 1))) := (blk_cell BK177.out 4).trans rfl; have hfz82_0 := blk_frozen BK177.out 0; have hfz82_1 := blk_frozen BK177.out 1; have hfz82_2 := blk_frozen BK177.out 2; have hfz82_3 := blk_frozen BK177.out 3; have hfz82_4 := blk_frozen BK177.out 4) | ((with_reducible refine gate_builtin (b := .append) (xs := #[.tmp 68, .tmp 70]) rfl ?_); (try (refine gate_guard (by rfl) ?_; dsimp only)); at_builtin; refine Kd.R_append k48 (w0 := w) w.heap.size rfl (.tmp 68) (.tmp 70) 33 48 (.agg #[(.int .i64 0), (.int .i64 0), (.int .i64 0), (.int .i64 0), (.int .i64 0)]) 40 rfl Try.underlying33 info48 rfl (by decide) (by omega) u176002 x176002_2 (⟨wrap64 (((rd_T48 l1_2 x38_2).f0) + ((rd_T48 l1_2 x38_2).f2)), wrap64 (((rd_T48 l1_2 x38_2).f1) + ((rd_T48 l1_2 x38_2).f3)), (rd_T48 l1_2 x38_2).f2, wrap64 (((rd_T48 l1_2 x38_2).f3) - a0_6), wrap64 (((rd_T48 l1_2 x38_2).f4) - 1)⟩ : S48) [.int .i64 (wrap64 (((rd_T48 l1_2 x38_2).f0) + ((rd_T48 l1_2 x38_2).f2))), .int .i64 (wrap64 (((rd_T48 l1_2 x38_2).f1) + ((rd_T48 l1_2 x38_2).f3))), .int .i64 ((rd_T48 l1_2 x38_2).f2), .int .i64 (wrap64 (((rd_T48 l1_2 x38_2).f3) - a0_6)), .int .i64 (wrap64 (((rd_T48 l1_2 x38_2).f4) - 1))] (fun k_ => k_ ≠ gb177) (fun _ => False) rfl rfl ?aP (fun _ hk => hk.elim) ?aF ?aO ?aB ?aS ?aL ?_; (case aP => exact k48_mkM _ _ _ (⟨wrap64 (((rd_T48 l1_2 x38_2).f0) + ((rd_T48 l1_2 x38_2).f2)), wrap64 (((rd_T48 l1_2 x38_2).f1) + ((rd_T48 l1_2 x38_2).f3)), (rd_T48 l1_2 x38_2).f2, wrap64 (((rd_T48 l1_2 x38_2).f3) - a0_6), wrap64 (((rd_T48 l1_2 x38_2).f4) - 1)⟩ : S48)); (case aB => exact (lU5 GE170.out GE171.out GE172.out GE175.out GE177.out)); (case aF => exact (fun k_ hk => Kd.freshB (g := gb177) (o := .cells #[.int .i64 (wrap64 (((rd_T48 l1_2 x38_2).f0) + ((rd_T48 l1_2 x38_2).f2))), .int .i64 (wrap64 (((rd_T48 l1_2 x38_2).f1) + ((rd_T48 l1_2 x38_2).f3))), .int .i64 ((rd_T48 l1_2 x38_2).f2), .int .i64 (wrap64 (((rd_T48 l1_2 x38_2).f3) - a0_6)), .int .i64 (wrap64 (((rd_T48 l1_2 x38_2).f4) - 1))] 48 (0, 0)) (bU BK177.out) k_ hk)); (case aO => exact (rU HO_176002.out)); (case aS => exact (below_size (lU5 GE170.out GE171.out GE172.out GE175.out GE177.out))); (case aL => have := LMc59.out; omega); intro v179 w83 ho hb hg hat; rw [← Ny178.out] at ho; replace BK170 := Aside0.mk (blk_grown (g := gb170) (o := .cells #[.int .i64 a0_0, .int .i64 a0_1, .int .i64 a0_2, .int .i64 a0_3, .int .i64 a0_4, .int .i64 a0_5, .int .i64 a0_6] 26 (0, 0)) (bU BK170.out) hg (Kd.R_ne HO_176002.out BK170.out (by decide))); replace BK171 := Aside0.mk (blk_grown (g := gb171) (o := .cells #[.int .i64 a1_0, .int .i64 a1_1, .slice (some ad176) l1_2.length c1_2] 35 (0, 0)) (bU BK171.out) hg (Kd.R_ne HO_176002.out BK171.out (by decide))); replace BK172 := Aside0.mk (blk_grown (g := gb172) (o := .cells #[.int .i64 0, .int .i64 0, .slice none 0 0] 35 (0, 0)) (bU BK172.out) hg (Kd.R_ne HO_176002.out BK172.out (by decide))); replace BK175 := Aside0.mk (blk_grown (g := gb175) (o := .cells #[.int .i64 a1_0, .int .i64 (wrap64 (a1_1 + 1)), u176002] 35 (0, 0)) (bU BK175.out) hg (Kd.R_ne HO_176002.out BK175.out (by decide))); replace BK177 := Aside0.mk (blk_grown (g := gb177) (o := .cells #[.int .i64 (wrap64 (((rd_T48 l1_2 x38_2).f0) + ((rd_T48 l1_2 x38_2).f2))), .int .i64 (wrap64 (((rd_T48 l1_2 x38_2).f1) + ((rd_T48 l1_2 x38_2).f3))), .int .i64 ((rd_T48 l1_2 x38_2).f2), .int .i64 (wrap64 (((rd_T48 l1_2 x38_2).f3) - a0_6)), .int .i64 (wrap64 (((rd_T48 l1_2 x38_2).f4) - 1))] 48 (0, 0)) (bU BK177.out) hg (Kd.R_away HO_176002.out (fun _ hk => hk))); replace HB := Aside0.mk hb; have HO180 := Aside0.mk ho; clear HO_176002; clear ho hb hg hat; obtain ⟨Ao84, co84, eo84⟩ := Kd.R_slice HO180.out; subst eo84; have hcz85_0 : w83.cell? ⟨gb175, 0, none⟩ = some (.int .i64 a1_0) := (blk_cell BK175.out 0).trans rfl; have hcz85_1 : w83.cell? ⟨gb175, 1, none⟩ = some (.int .i64 (wrap64 (a1_1 + 1))) := (blk_cell BK175.out 1).trans rfl; have hcz85_2 : w83.cell? ⟨gb175, 2, none⟩ = some (u176002) := (blk_cell BK175.out 2).trans rfl; have hfz85_0 := blk_frozen BK175.out 0; have hfz85_1 := blk_frozen BK175.out 1; have hfz85_2 := blk_frozen BK175.out 2) | ((with_reducible refine gate_store (t := 33) (p := 72) rfl ?_); refine store_event (t := 33) (p := 72) (v := ?vo_w86) (w1 := (w83.setCell ⟨gb175, 2, none⟩ (.slice Ao84 y178.length co84))) ?hg ?ho ?hn ?hr ?_; (case ho => rfl); (case hg => rfl); (case hn => rfl); (case hr => first | (go_simp; done) | (go_simp; rfl) | (have hq0_ := (blk_cell BK175.out 2).trans (show _ = some _ from rfl); have hf0_ := blk_frozen BK175.out 2; first | (go_simp; done) | (go_simp; rfl))); intro w86 hw; replace HO180 : Aside0 (Kd.R k48 48 w86 w.heap.size (fun k_ => k_ ≠ gb177) (.slice Ao84 y178.length co84) y178) := ⟨(by rw [hw]; exact (by (with_reducible repeat (first | apply Kd.R_alloc | apply Kd.R_drewN | apply Kd.R_drew)); exact Kd.R_mono (Kd.R_far (p := ⟨gb175, 2, none⟩) (Kd.R_types HO180.out BK175.out (by decide)) (fun _ hk => hk.2) (.slice Ao84 y178.length co84)) (fun _ hk => hk.1)))⟩; replace BK170 : Aside0 (w86.heap[gb170]? = some (.cells #[.int .i64 a0_0, .int .i64 a0_1, .int .i64 a0_2, .int .i64 a0_3, .int .i64 a0_4, .int .i64 a0_5, .int .i64 a0_6] 26 (0, 0))) := ⟨(by rw [hw]; exact (bF NB170_175.out BK170.out))⟩; replace BK171 : Aside0 (w86.heap[gb171]? = some (.cells #[.int .i64 a1_0, .int .i64 a1_1, .slice (some ad176) l1_2.length c1_2] 35 (0, 0))) := ⟨(by rw [hw]; exact (bF NB171_175.out BK171.out))⟩; replace BK172 : Aside0 (w86.heap[gb172]? = some (.cells #[.int .i64 0, .int .i64 0, .slice none 0 0] 35 (0, 0))) := ⟨(by rw [hw]; exact (bF NB172_175.out BK172.out))⟩; replace BK175 : Aside0 (w86.heap[gb175]? = some (.cells #[.int .i64 a1_0, .int .i64 (wrap64 (a1_1 + 1)), .slice Ao84 y178.length co84] 35 (0, 0))) := ⟨(by rw [hw]; exact (by refine bU ?_; refine blk_put (cs := #[.int .i64 a1_0, .int .i64 (wrap64 (a1_1 + 1)), u176002]) ?_ 2 _ rfl; refine bU ?_; exact BK175.out))⟩; replace BK177 : Aside0 (w86.heap[gb177]? = some (.cells #[.int .i64 (wrap64 (((rd_T48 l1_2 x38_2).f0) + ((rd_T48 l1_2 x38_2).f2))), .int .i64 (wrap64 (((rd_T48 l1_2 x38_2).f1) + ((rd_T48 l1_2 x38_2).f3))), .int .i64 ((rd_T48 l1_2 x38_2).f2), .int .i64 (wrap64 (((rd_T48 l1_2 x38_2).f3) - a0_6)), .int .i64 (wrap64 (((rd_T48 l1_2 x38_2).f4) - 1))] 48 (0, 0))) := ⟨(by rw [hw]; exact (bF NB177_175.out BK177.out))⟩; replace HB : Aside0 (Below w.heap.size w w86) := ⟨(by rw [hw]; exact (lU5 GE170.out GE171.out GE172.out GE175.out GE177.out))⟩; clear hw))
           go_roundg k2
           case measure => have := HJ2.out; have := HK2.out; omega
           case rel => exact ⟨(wrap64 (x38_2 + 1)), (y178), (.slice Ao84 y178.length co84), tE, H', ⟨by have := HJ2.out; have := HK2.out; omega⟩, ⟨by (with_reducible repeat (first | apply Kd.R_alloc | apply Kd.R_drewN | apply Kd.R_drew)); exact Kd.R_mono HO180.out (fun _ hk => trivial)⟩, ⟨by refine bU ?_; exact BK170.out⟩, ⟨by refine bU ?_; exact BK171.out⟩, ⟨by refine bU ?_; exact BK172.out⟩, ⟨by refine bU ?_; exact BK175.out⟩, ⟨by repeat (first | (with_reducible first | exact HB.out | apply below_alloc | apply pw_below_drewN | apply below_drew1 | refine below_set ?_ GE170.out | refine below_set ?_ GE171.out | refine below_set ?_ GE172.out | refine below_set ?_ GE175.out | refine below_set ?_ GE177.out) | exact HB.out)⟩⟩
          ·rw [if_neg c59] at H
           exact absurd H (by simp)
        ·rw [if_neg c47] at H
         exact absurd H (by simp)
       ·rw [if_neg c46] at H
        exact absurd H (by simp)
      ·rw [if_neg c45] at H
       have c45b0 : decide (x38_2 < (l1_2.length : Int)) = false := decide_eq_false c45
       clear c45
       by_cases c87 : a0_2 = 0
       ·rw [if_pos c87] at H
        exact absurd H (by simp)
       ·rw [if_neg c87] at H
        have c87b0 : (a0_2 == 0) = false := beq_eq_false_iff_ne.mpr c87
        have c87b1 : (a0_2 != 0) = true := bne_iff_ne.mpr c87
        by_cases c88 : (Int.tmod a1_1 a0_2) = 0
        ·rw [if_pos c88] at H
         have c88b0 : ((Int.tmod a1_1 a0_2) == 0) = true := beq_iff_eq.mpr c88
         have c88b1 : ((Int.tmod a1_1 a0_2) != 0) = false := bne_eq_false_iff_eq.mpr c88
         clear c88
         have H' := Aside0.mk H
         clear H
         have hnb89 := NB171_170.out
         have hnc89 := NB170_171.out
         have hnb90 := NB171_172.out
         have hnc90 := NB172_171.out
         have hnb91 := NB171_175.out
         have hnc91 := NB175_171.out
         have hcz92_0 : wr.cell? ⟨gb171, 0, none⟩ = some (.int .i64 a1_0) := (blk_cell BK171.out 0).trans rfl
         have hcz92_1 : wr.cell? ⟨gb171, 1, none⟩ = some (.int .i64 a1_1) := (blk_cell BK171.out 1).trans rfl
         have hcz92_2 : wr.cell? ⟨gb171, 2, none⟩ = some (.slice A1_2 l1_2.length c1_2) := (blk_cell BK171.out 2).trans rfl
         have hfz92_0 := blk_frozen BK171.out 0
         have hfz92_1 := blk_frozen BK171.out 1
         have hfz92_2 := blk_frozen BK171.out 2
         have hnb93 := NB170_172.out
         have hnc93 := NB172_170.out
         have hnb94 := NB170_175.out
         have hnc94 := NB175_170.out
         have hcz95_0 : wr.cell? ⟨gb170, 0, none⟩ = some (.int .i64 a0_0) := (blk_cell BK170.out 0).trans rfl
         have hcz95_1 : wr.cell? ⟨gb170, 1, none⟩ = some (.int .i64 a0_1) := (blk_cell BK170.out 1).trans rfl
         have hcz95_2 : wr.cell? ⟨gb170, 2, none⟩ = some (.int .i64 a0_2) := (blk_cell BK170.out 2).trans rfl
         have hcz95_3 : wr.cell? ⟨gb170, 3, none⟩ = some (.int .i64 a0_3) := (blk_cell BK170.out 3).trans rfl
         have hcz95_4 : wr.cell? ⟨gb170, 4, none⟩ = some (.int .i64 a0_4) := (blk_cell BK170.out 4).trans rfl
         have hcz95_5 : wr.cell? ⟨gb170, 5, none⟩ = some (.int .i64 a0_5) := (blk_cell BK170.out 5).trans rfl
         have hcz95_6 : wr.cell? ⟨gb170, 6, none⟩ = some (.int .i64 a0_6) := (blk_cell BK170.out 6).trans rfl
         have hfz95_0 := blk_frozen BK170.out 0
         have hfz95_1 := blk_frozen BK170.out 1
         have hfz95_2 := blk_frozen BK170.out 2
         have hfz95_3 := blk_frozen BK170.out 3
         have hfz95_4 := blk_frozen BK170.out 4
         have hfz95_5 := blk_frozen BK170.out 5
         have hfz95_6 := blk_frozen BK170.out 6
         go_wp2
         go_loopg [9] k2 (fun kq v9 w' => ∃ (x9_3 : Int) (x176000_3 : Int) (x176002_3 : List (S48)) (u176002 : Value), v9 = .int .i64 x9_3 ∧ Aside0 (spec_StepCloud.l1 kq x9_3 a0_0 a0_1 a0_2 a0_3 a0_4 a0_5 a0_6 x176000_3 (wrap64 (a1_1 + 1)) x176002_3 = some (r1, r2, r3, r4)) ∧ Aside0 (kq ≤ k2) ∧ Aside0 (Kd.R k48 48 w' w.heap.size (fun _ => True) u176002 x176002_3) ∧ Aside0 (w'.heap[gb170]? = some (.cells #[.int .i64 a0_0, .int .i64 a0_1, .int .i64 a0_2, .int .i64 a0_3, .int .i64 a0_4, .int .i64 a0_5, .int .i64 a0_6] 26 (0, 0))) ∧ Aside0 (w'.heap[gb171]? = some (.cells #[.int .i64 a1_0, .int .i64 a1_1, (.slice A1_2 l1_2.length c1_2)] 35 (0, 0))) ∧ Aside0 (w'.heap[gb172]? = some (.cells #[.int .i64 0, .int .i64 0, (.slice none 0 0)] 35 (0, 0))) ∧ Aside0 (w'.heap[gb175]? = some (.cells #[.int .i64 x176000_3, .int .i64 (wrap64 (a1_1 + 1)), u176002] 35 (0, 0))) ∧ Aside0 (Below w.heap.size w w'))
         case atStart => exact ⟨(0), (a1_0), (x176002_2), (u176002), tE, H', ⟨Nat.le_refl _⟩, ⟨by (with_reducible repeat (first | apply Kd.R_alloc | apply Kd.R_drewN | apply Kd.R_drew)); exact HO_176002.out⟩, ⟨by refine bU ?_; exact BK170.out⟩, ⟨by refine bU ?_; exact BK171.out⟩, ⟨by refine bU ?_; exact BK172.out⟩, ⟨by refine bU ?_; exact BK175.out⟩, ⟨by repeat (first | (with_reducible first | exact HB.out | apply below_alloc | apply pw_below_drewN | apply below_drew1 | refine below_set ?_ GE170.out | refine below_set ?_ GE171.out | refine below_set ?_ GE172.out | refine below_set ?_ GE175.out) | exact HB.out)⟩⟩
         case round =>
          clear H'
          try clear c1
          try clear p1
          try clear q1
          try clear hx1
          try clear c2
          try clear p2
          try clear q2
          try clear hf2
          try clear c3
          try clear q3
          try clear hf3
          try clear c4
          try clear q4
          try clear hf4
          try clear c5
          try clear c6
          try clear p6
          try clear c7
          try clear c8
          try clear c9
          try clear c10
          try clear c11
          try clear c12
          try clear c15
          try clear p17
          try clear q17
          try clear hx17
          try clear c19
          try clear c20
          try clear c23
          try clear c26
          try clear c27
          try clear c30
          try clear c31
          try clear c32
          try clear c35
          try clear c36
          try clear c39
          try clear c40
          try clear c41
          try clear c45
          try clear c45b0
          try clear c46
          try clear c46b0
          try clear c47
          try clear c47b0
          try clear c48
          try clear c48b0
          try clear c48b1
          try clear c50
          try clear c51
          try clear c52
          try clear c53
          try clear c59
          try clear c61
          try clear c62
          try clear c63
          try clear c64
          try clear p64
          try clear c74
          try clear c75
          try clear c76
          try clear c79
          try clear c80
          try clear c87
          try clear c87b0
          try clear c87b1
          try clear c88
          try clear c88b0
          try clear c88b1
          try clear c89
          try clear c90
          try clear c91
          try clear c93
          try clear c94
          try clear hcz13_0
          try clear hcz13_1
          try clear hcz13_2
          try clear hcz13_3
          try clear hcz13_4
          try clear hcz13_5
          try clear hcz13_6
          try clear hcz16_0
          try clear hcz16_1
          try clear hcz16_2
          try clear hcz18_0
          try clear hcz18_1
          try clear hcz18_2
          try clear hcz21_0
          try clear hcz21_1
          try clear hcz21_2
          try clear hcz21_3
          try clear hcz21_4
          try clear hcz21_5
          try clear hcz21_6
          try clear hcz24_0
          try clear hcz24_1
          try clear hcz24_2
          try clear hcz28_0
          try clear hcz28_1
          try clear hcz28_2
          try clear hcz28_3
          try clear hcz28_4
          try clear hcz28_5
          try clear hcz28_6
          try clear hcz33_0
          try clear hcz33_1
          try clear hcz33_2
          try clear hcz37_0
          try clear hcz37_1
          try clear hcz37_2
          try clear hcz42_0
          try clear hcz42_1
          try clear hcz42_2
          try clear hcz44_0
          try clear hcz44_1
          try clear hcz44_2
          try clear hcz54_0
          try clear hcz54_1
          try clear hcz54_2
          try clear hcz54_3
          try clear hcz54_4
          try clear hcz56_0
          try clear hcz56_1
          try clear hcz56_2
          try clear hcz56_3
          try clear hcz56_4
          try clear hcz58_0
          try clear hcz58_1
          try clear hcz58_2
          try clear hcz58_3
          try clear hcz58_4
          try clear hcz65_0
          try clear hcz65_1
          try clear hcz65_2
          try clear hcz65_3
          try clear hcz65_4
          try clear hcz67_0
          try clear hcz67_1
          try clear hcz67_2
          try clear hcz67_3
          try clear hcz67_4
          try clear hcz69_0
          try clear hcz69_1
          try clear hcz69_2
          try clear hcz69_3
          try clear hcz69_4
          try clear hcz71_0
          try clear hcz71_1
          try clear hcz71_2
          try clear hcz71_3
          try clear hcz71_4
          try clear hcz73_0
          try clear hcz73_1
          try clear hcz73_2
          try clear hcz73_3
          try clear hcz73_4
          try clear hcz77_0
          try clear hcz77_1
          try clear hcz77_2
          try clear hcz77_3
          try clear hcz77_4
          try clear hcz77_5
          try clear hcz77_6
          try clear hcz81_0
          try clear hcz81_1
          try clear hcz81_2
          try clear hcz82_0
          try clear hcz82_1
          try clear hcz82_2
          try clear hcz82_3
          try clear hcz82_4
          try clear hcz85_0
          try clear hcz85_1
          try clear hcz85_2
          try clear hcz92_0
          try clear hcz92_1
          try clear hcz92_2
          try clear hcz95_0
          try clear hcz95_1
          try clear hcz95_2
          try clear hcz95_3
          try clear hcz95_4
          try clear hcz95_5
          try clear hcz95_6
          try clear hfz13_0
          try clear hfz13_1
          try clear hfz13_2
          try clear hfz13_3
          try clear hfz13_4
          try clear hfz13_5
          try clear hfz13_6
          try clear hfz16_0
          try clear hfz16_1
          try clear hfz16_2
          try clear hfz18_0
          try clear hfz18_1
          try clear hfz18_2
          try clear hfz21_0
          try clear hfz21_1
          try clear hfz21_2
          try clear hfz21_3
          try clear hfz21_4
          try clear hfz21_5
          try clear hfz21_6
          try clear hfz24_0
          try clear hfz24_1
          try clear hfz24_2
          try clear hfz28_0
          try clear hfz28_1
          try clear hfz28_2
          try clear hfz28_3
          try clear hfz28_4
          try clear hfz28_5
          try clear hfz28_6
          try clear hfz33_0
          try clear hfz33_1
          try clear hfz33_2
          try clear hfz37_0
          try clear hfz37_1
          try clear hfz37_2
          try clear hfz42_0
          try clear hfz42_1
          try clear hfz42_2
          try clear hfz44_0
          try clear hfz44_1
          try clear hfz44_2
          try clear hfz54_0
          try clear hfz54_1
          try clear hfz54_2
          try clear hfz54_3
          try clear hfz54_4
          try clear hfz56_0
          try clear hfz56_1
          try clear hfz56_2
          try clear hfz56_3
          try clear hfz56_4
          try clear hfz58_0
          try clear hfz58_1
          try clear hfz58_2
          try clear hfz58_3
          try clear hfz58_4
          try clear hfz65_0
          try clear hfz65_1
          try clear hfz65_2
          try clear hfz65_3
          try clear hfz65_4
          try clear hfz67_0
          try clear hfz67_1
          try clear hfz67_2
          try clear hfz67_3
          try clear hfz67_4
          try clear hfz69_0
          try clear hfz69_1
          try clear hfz69_2
          try clear hfz69_3
          try clear hfz69_4
          try clear hfz71_0
          try clear hfz71_1
          try clear hfz71_2
          try clear hfz71_3
          try clear hfz71_4
          try clear hfz73_0
          try clear hfz73_1
          try clear hfz73_2
          try clear hfz73_3
          try clear hfz73_4
          try clear hfz77_0
          try clear hfz77_1
          try clear hfz77_2
          try clear hfz77_3
          try clear hfz77_4
          try clear hfz77_5
          try clear hfz77_6
          try clear hfz81_0
          try clear hfz81_1
          try clear hfz81_2
          try clear hfz82_0
          try clear hfz82_1
          try clear hfz82_2
          try clear hfz82_3
          try clear hfz82_4
          try clear hfz85_0
          try clear hfz85_1
          try clear hfz85_2
          try clear hfz92_0
          try clear hfz92_1
          try clear hfz92_2
          try clear hfz95_0
          try clear hfz95_1
          try clear hfz95_2
          try clear hfz95_3
          try clear hfz95_4
          try clear hfz95_5
          try clear hfz95_6
          try clear hx176_0
          try clear hx176_1
          try clear hx176_2
          try clear hx176_3
          try clear hx176_4
          try clear p176
          try clear p2
          try clear p6
          try clear q1
          try clear q176
          try clear q2
          obtain ⟨x9_3, x176000_3, x176002_3, u176002, rfl, HA, HK3, HO_176002, BK170, BK171, BK172, BK175, HB⟩ := hrel
          cases gk with
          | zero => exact absurd HA.out (by simp [spec_StepCloud.l1])
          | succ k3 =>
           have H := HA.out
           clear HA
           simp only [spec_StepCloud.l1] at H
           have HC96 := Aside0.mk H
           clear H
           go_upto_region 16 with (fail)
           go_cut [89] (fun v89 wc => ∃ (kq : Nat) (x89_95 : Bool), v89 = .bool x89_95 ∧ Aside0 (spec_StepCloud.j3 kq x9_3 x89_95 a0_0 a0_1 a0_2 a0_3 a0_4 a0_5 a0_6 x176000_3 (wrap64 (a1_1 + 1)) x176002_3 = some (r1, r2, r3, r4)) ∧ Aside0 (kq ≤ k3) ∧ Aside0 (Kd.R k48 48 wc w.heap.size (fun _ => True) u176002 x176002_3) ∧ Aside0 (wc.heap[gb170]? = some (.cells #[.int .i64 a0_0, .int .i64 a0_1, .int .i64 a0_2, .int .i64 a0_3, .int .i64 a0_4, .int .i64 a0_5, .int .i64 a0_6] 26 (0, 0))) ∧ Aside0 (wc.heap[gb171]? = some (.cells #[.int .i64 a1_0, .int .i64 a1_1, (.slice A1_2 l1_2.length c1_2)] 35 (0, 0))) ∧ Aside0 (wc.heap[gb172]? = some (.cells #[.int .i64 0, .int .i64 0, (.slice none 0 0)] 35 (0, 0))) ∧ Aside0 (wc.heap[gb175]? = some (.cells #[.int .i64 x176000_3, .int .i64 (wrap64 (a1_1 + 1)), u176002] 35 (0, 0))) ∧ Aside0 (Below w.heap.size w wc))
           case first =>
            have H := HC96.out
            clear HC96
            by_cases c97 : x9_3 < a0_3
            ·rw [if_pos c97] at H
             have c97b0 : decide (x9_3 < a0_3) = true := decide_eq_true c97
             clear c97
             (first | rw [c97b0] | (simp only [i64_w, i32_w]; rw [c97b0]) | (rw [c97b2]; simp only [Bool.not_false, Bool.not_true]) | skip)
             have H' := Aside0.mk H
             clear H
             have hnb98 := NB170_171.out
             have hnc98 := NB171_170.out
             have hnb99 := NB170_172.out
             have hnc99 := NB172_170.out
             have hnb100 := NB170_175.out
             have hnc100 := NB175_170.out
             have hcz101_0 : wr.cell? ⟨gb170, 0, none⟩ = some (.int .i64 a0_0) := (blk_cell BK170.out 0).trans rfl
             have hcz101_1 : wr.cell? ⟨gb170, 1, none⟩ = some (.int .i64 a0_1) := (blk_cell BK170.out 1).trans rfl
             have hcz101_2 : wr.cell? ⟨gb170, 2, none⟩ = some (.int .i64 a0_2) := (blk_cell BK170.out 2).trans rfl
             have hcz101_3 : wr.cell? ⟨gb170, 3, none⟩ = some (.int .i64 a0_3) := (blk_cell BK170.out 3).trans rfl
             have hcz101_4 : wr.cell? ⟨gb170, 4, none⟩ = some (.int .i64 a0_4) := (blk_cell BK170.out 4).trans rfl
             have hcz101_5 : wr.cell? ⟨gb170, 5, none⟩ = some (.int .i64 a0_5) := (blk_cell BK170.out 5).trans rfl
             have hcz101_6 : wr.cell? ⟨gb170, 6, none⟩ = some (.int .i64 a0_6) := (blk_cell BK170.out 6).trans rfl
             have hfz101_0 := blk_frozen BK170.out 0
             have hfz101_1 := blk_frozen BK170.out 1
             have hfz101_2 := blk_frozen BK170.out 2
             have hfz101_3 := blk_frozen BK170.out 3
             have hfz101_4 := blk_frozen BK170.out 4
             have hfz101_5 := blk_frozen BK170.out 5
             have hfz101_6 := blk_frozen BK170.out 6
             have hnb102 := NB175_171.out
             have hnc102 := NB171_175.out
             have hnb103 := NB175_172.out
             have hnc103 := NB172_175.out
             have hcz104_0 : wr.cell? ⟨gb175, 0, none⟩ = some (.int .i64 x176000_3) := (blk_cell BK175.out 0).trans rfl
             have hcz104_1 : wr.cell? ⟨gb175, 1, none⟩ = some (.int .i64 (wrap64 (a1_1 + 1))) := (blk_cell BK175.out 1).trans rfl
             have hcz104_2 : wr.cell? ⟨gb175, 2, none⟩ = some (u176002) := (blk_cell BK175.out 2).trans rfl
             have hfz104_0 := blk_frozen BK175.out 0
             have hfz104_1 := blk_frozen BK175.out 1
             have hfz104_2 := blk_frozen BK175.out 2
             obtain ⟨Ao105, co105, eo105⟩ := Kd.R_slice HO_176002.out
             subst eo105
             go_wp2
             go_meet
             case rel => exact ⟨_, (decide ((x176002_3.length : Int) < 60)), tE, H', ⟨by have := HJ2.out; have := HK2.out; have := HK3.out; first | omega | exact Nat.le_refl _⟩, ⟨by (with_reducible repeat (first | apply Kd.R_alloc | apply Kd.R_drewN | apply Kd.R_drew)); exact HO_176002.out⟩, ⟨by refine bU ?_; exact BK170.out⟩, ⟨by refine bU ?_; exact BK171.out⟩, ⟨by refine bU ?_; exact BK172.out⟩, ⟨by refine bU ?_; exact BK175.out⟩, ⟨by repeat (first | (with_reducible first | exact HB.out | apply below_alloc | apply pw_below_drewN | apply below_drew1 | refine below_set ?_ GE170.out | refine below_set ?_ GE171.out | refine below_set ?_ GE172.out | refine below_set ?_ GE175.out) | exact HB.out)⟩⟩
            ·rw [if_neg c97] at H
             have c97b0 : decide (x9_3 < a0_3) = false := decide_eq_false c97
             clear c97
             (first | rw [c97b0] | (simp only [i64_w, i32_w]; rw [c97b0]) | (rw [c97b2]; simp only [Bool.not_false, Bool.not_true]) | skip)
             have H' := Aside0.mk H
             clear H
             have hnb106 := NB170_171.out
             have hnc106 := NB171_170.out
             have hnb107 := NB170_172.out
             have hnc107 := NB172_170.out
             have hnb108 := NB170_175.out
             have hnc108 := NB175_170.out
             have hcz109_0 : wr.cell? ⟨gb170, 0, none⟩ = some (.int .i64 a0_0) := (blk_cell BK170.out 0).trans rfl
             have hcz109_1 : wr.cell? ⟨gb170, 1, none⟩ = some (.int .i64 a0_1) := (blk_cell BK170.out 1).trans rfl
             have hcz109_2 : wr.cell? ⟨gb170, 2, none⟩ = some (.int .i64 a0_2) := (blk_cell BK170.out 2).trans rfl
             have hcz109_3 : wr.cell? ⟨gb170, 3, none⟩ = some (.int .i64 a0_3) := (blk_cell BK170.out 3).trans rfl
             have hcz109_4 : wr.cell? ⟨gb170, 4, none⟩ = some (.int .i64 a0_4) := (blk_cell BK170.out 4).trans rfl
             have hcz109_5 : wr.cell? ⟨gb170, 5, none⟩ = some (.int .i64 a0_5) := (blk_cell BK170.out 5).trans rfl
             have hcz109_6 : wr.cell? ⟨gb170, 6, none⟩ = some (.int .i64 a0_6) := (blk_cell BK170.out 6).trans rfl
             have hfz109_0 := blk_frozen BK170.out 0
             have hfz109_1 := blk_frozen BK170.out 1
             have hfz109_2 := blk_frozen BK170.out 2
             have hfz109_3 := blk_frozen BK170.out 3
             have hfz109_4 := blk_frozen BK170.out 4
             have hfz109_5 := blk_frozen BK170.out 5
             have hfz109_6 := blk_frozen BK170.out 6
             go_wp2
             go_meet
             case rel => exact ⟨_, (false), tE, H', ⟨by have := HJ2.out; have := HK2.out; have := HK3.out; first | omega | exact Nat.le_refl _⟩, ⟨by (with_reducible repeat (first | apply Kd.R_alloc | apply Kd.R_drewN | apply Kd.R_drew)); exact HO_176002.out⟩, ⟨by refine bU ?_; exact BK170.out⟩, ⟨by refine bU ?_; exact BK171.out⟩, ⟨by refine bU ?_; exact BK172.out⟩, ⟨by refine bU ?_; exact BK175.out⟩, ⟨by repeat (first | (with_reducible first | exact HB.out | apply below_alloc | apply pw_below_drewN | apply below_drew1 | refine below_set ?_ GE170.out | refine below_set ?_ GE171.out | refine below_set ?_ GE172.out | refine below_set ?_ GE175.out) | exact HB.out)⟩⟩
           case rest =>
            clear HC96
            try clear c1
            try clear p1
            try clear q1
            try clear hx1
            try clear c2
            try clear p2
            try clear q2
            try clear hf2
            try clear c3
            try clear q3
            try clear hf3
            try clear c4
            try clear q4
            try clear hf4
            try clear c5
            try clear c6
            try clear p6
            try clear c7
            try clear c8
            try clear c9
            try clear c10
            try clear c11
            try clear c12
            try clear c15
            try clear p17
            try clear q17
            try clear hx17
            try clear c19
            try clear c20
            try clear c23
            try clear c26
            try clear c27
            try clear c30
            try clear c31
            try clear c32
            try clear c35
            try clear c36
            try clear c39
            try clear c40
            try clear c41
            try clear c45
            try clear c45b0
            try clear c46
            try clear c46b0
            try clear c47
            try clear c47b0
            try clear c48
            try clear c48b0
            try clear c48b1
            try clear c50
            try clear c51
            try clear c52
            try clear c53
            try clear c59
            try clear c61
            try clear c62
            try clear c63
            try clear c64
            try clear p64
            try clear c74
            try clear c75
            try clear c76
            try clear c79
            try clear c80
            try clear c87
            try clear c87b0
            try clear c87b1
            try clear c88
            try clear c88b0
            try clear c88b1
            try clear c89
            try clear c90
            try clear c91
            try clear c93
            try clear c94
            try clear c97
            try clear c97b0
            try clear c97b2
            try clear c98
            try clear c99
            try clear c100
            try clear c102
            try clear c103
            try clear c106
            try clear c107
            try clear c108
            try clear hcz101_0
            try clear hcz101_1
            try clear hcz101_2
            try clear hcz101_3
            try clear hcz101_4
            try clear hcz101_5
            try clear hcz101_6
            try clear hcz104_0
            try clear hcz104_1
            try clear hcz104_2
            try clear hcz109_0
            try clear hcz109_1
            try clear hcz109_2
            try clear hcz109_3
            try clear hcz109_4
            try clear hcz109_5
            try clear hcz109_6
            try clear hcz13_0
            try clear hcz13_1
            try clear hcz13_2
            try clear hcz13_3
            try clear hcz13_4
            try clear hcz13_5
            try clear hcz13_6
            try clear hcz16_0
            try clear hcz16_1
            try clear hcz16_2
            try clear hcz18_0
            try clear hcz18_1
            try clear hcz18_2
            try clear hcz21_0
            try clear hcz21_1
            try clear hcz21_2
            try clear hcz21_3
            try clear hcz21_4
            try clear hcz21_5
            try clear hcz21_6
            try clear hcz24_0
            try clear hcz24_1
            try clear hcz24_2
            try clear hcz28_0
            try clear hcz28_1
            try clear hcz28_2
            try clear hcz28_3
            try clear hcz28_4
            try clear hcz28_5
            try clear hcz28_6
            try clear hcz33_0
            try clear hcz33_1
            try clear hcz33_2
            try clear hcz37_0
            try clear hcz37_1
            try clear hcz37_2
            try clear hcz42_0
            try clear hcz42_1
            try clear hcz42_2
            try clear hcz44_0
            try clear hcz44_1
            try clear hcz44_2
            try clear hcz54_0
            try clear hcz54_1
            try clear hcz54_2
            try clear hcz54_3
            try clear hcz54_4
            try clear hcz56_0
            try clear hcz56_1
            try clear hcz56_2
            try clear hcz56_3
            try clear hcz56_4
            try clear hcz58_0
            try clear hcz58_1
            try clear hcz58_2
            try clear hcz58_3
            try clear hcz58_4
            try clear hcz65_0
            try clear hcz65_1
            try clear hcz65_2
            try clear hcz65_3
            try clear hcz65_4
            try clear hcz67_0
            try clear hcz67_1
            try clear hcz67_2
            try clear hcz67_3
            try clear hcz67_4
            try clear hcz69_0
            try clear hcz69_1
            try clear hcz69_2
            try clear hcz69_3
            try clear hcz69_4
            try clear hcz71_0
            try clear hcz71_1
            try clear hcz71_2
            try clear hcz71_3
            try clear hcz71_4
            try clear hcz73_0
            try clear hcz73_1
            try clear hcz73_2
            try clear hcz73_3
            try clear hcz73_4
            try clear hcz77_0
            try clear hcz77_1
            try clear hcz77_2
            try clear hcz77_3
            try clear hcz77_4
            try clear hcz77_5
            try clear hcz77_6
            try clear hcz81_0
            try clear hcz81_1
            try clear hcz81_2
            try clear hcz82_0
            try clear hcz82_1
            try clear hcz82_2
            try clear hcz82_3
            try clear hcz82_4
            try clear hcz85_0
            try clear hcz85_1
            try clear hcz85_2
            try clear hcz92_0
            try clear hcz92_1
            try clear hcz92_2
            try clear hcz95_0
            try clear hcz95_1
            try clear hcz95_2
            try clear hcz95_3
            try clear hcz95_4
            try clear hcz95_5
            try clear hcz95_6
            try clear hfz101_0
            try clear hfz101_1
            try clear hfz101_2
            try clear hfz101_3
            try clear hfz101_4
            try clear hfz101_5
            try clear hfz101_6
            try clear hfz104_0
            try clear hfz104_1
            try clear hfz104_2
            try clear hfz109_0
            try clear hfz109_1
            try clear hfz109_2
            try clear hfz109_3
            try clear hfz109_4
            try clear hfz109_5
            try clear hfz109_6
            try clear hfz13_0
            try clear hfz13_1
            try clear hfz13_2
            try clear hfz13_3
            try clear hfz13_4
            try clear hfz13_5
            try clear hfz13_6
            try clear hfz16_0
            try clear hfz16_1
            try clear hfz16_2
            try clear hfz18_0
            try clear hfz18_1
            try clear hfz18_2
            try clear hfz21_0
            try clear hfz21_1
            try clear hfz21_2
            try clear hfz21_3
            try clear hfz21_4
            try clear hfz21_5
            try clear hfz21_6
            try clear hfz24_0
            try clear hfz24_1
            try clear hfz24_2
            try clear hfz28_0
            try clear hfz28_1
            try clear hfz28_2
            try clear hfz28_3
            try clear hfz28_4
            try clear hfz28_5
            try clear hfz28_6
            try clear hfz33_0
            try clear hfz33_1
            try clear hfz33_2
            try clear hfz37_0
            try clear hfz37_1
            try clear hfz37_2
            try clear hfz42_0
            try clear hfz42_1
            try clear hfz42_2
            try clear hfz44_0
            try clear hfz44_1
            try clear hfz44_2
            try clear hfz54_0
            try clear hfz54_1
            try clear hfz54_2
            try clear hfz54_3
            try clear hfz54_4
            try clear hfz56_0
            try clear hfz56_1
            try clear hfz56_2
            try clear hfz56_3
            try clear hfz56_4
            try clear hfz58_0
            try clear hfz58_1
            try clear hfz58_2
            try clear hfz58_3
            try clear hfz58_4
            try clear hfz65_0
            try clear hfz65_1
            try clear hfz65_2
            try clear hfz65_3
            try clear hfz65_4
            try clear hfz67_0
            try clear hfz67_1
            try clear hfz67_2
            try clear hfz67_3
            try clear hfz67_4
            try clear hfz69_0
            try clear hfz69_1
            try clear hfz69_2
            try clear hfz69_3
            try clear hfz69_4
            try clear hfz71_0
            try clear hfz71_1
            try clear hfz71_2
            try clear hfz71_3
            try clear hfz71_4
            try clear hfz73_0
            try clear hfz73_1
            try clear hfz73_2
            try clear hfz73_3
            try clear hfz73_4
            try clear hfz77_0
            try clear hfz77_1
            try clear hfz77_2
            try clear hfz77_3
            try clear hfz77_4
            try clear hfz77_5
            try clear hfz77_6
            try clear hfz81_0
            try clear hfz81_1
            try clear hfz81_2
            try clear hfz82_0
            try clear hfz82_1
            try clear hfz82_2
            try clear hfz82_3
            try clear hfz82_4
            try clear hfz85_0
            try clear hfz85_1
            try clear hfz85_2
            try clear hfz92_0
            try clear hfz92_1
            try clear hfz92_2
            try clear hfz95_0
            try clear hfz95_1
            try clear hfz95_2
            try clear hfz95_3
            try clear hfz95_4
            try clear hfz95_5
            try clear hfz95_6
            try clear hx176_0
            try clear hx176_1
            try clear hx176_2
            try clear hx176_3
            try clear hx176_4
            try clear p1
            try clear p17
            try clear p176
            try clear p2
            try clear p6
            try clear p64
            try clear q1
            try clear q17
            try clear q176
            try clear q2
            try clear q3
            try clear q4
            obtain ⟨kq, x89_95, rfl, HA, HJ95, HO_176002, BK170, BK171, BK172, BK175, HB⟩ := hcut
            cases kq with
            | zero => exact absurd HA.out (by simp [spec_StepCloud.j3])
            | succ kj95 =>
             have H := HA.out
             clear HA
             simp only [spec_StepCloud.j3] at H
             by_cases c110 : x89_95 = true
             ·subst c110
              have H1 : ((spec_l1Coin.f x176000_3).bind fun bt182 => ((spec_l1Coin.f bt182.1).bind fun bt184 => ((spec_CosOf.f kj95 (Int.tmod bt182.2 4096)).bind fun t186 => ((spec_FixMul.f kj95 (wrap64 (Int.tdiv (wrap64 (a0_5 * bt184.2)) 32768)) t186).bind fun t187 => ((spec_SinOf.f kj95 (Int.tmod bt182.2 4096)).bind fun t188 => ((spec_FixMul.f kj95 (wrap64 (Int.tdiv (wrap64 (a0_5 * bt184.2)) 32768)) t188).bind fun t189 => (if x176002_3.length < 3518437208883 then (spec_StepCloud.l1 kj95 (wrap64 (x9_3 + 1)) a0_0 a0_1 a0_2 a0_3 a0_4 a0_5 a0_6 bt184.1 (wrap64 (a1_1 + 1)) (x176002_3 ++ [(⟨a0_0, a0_1, t187, t189, a0_4⟩ : S48)])) else (none)))))))) = some (r1, r2, r3, r4) := by rw [if_pos rfl] at H; exact H
              clear H
              have H := H1
              clear H1
              replace H := Option.bind_eq_some_iff.mp H
              obtain ⟨⟨t182, t183⟩, A1110, H⟩ := H
              replace H : ((spec_l1Coin.f t182).bind fun bt184 => ((spec_CosOf.f kj95 (Int.tmod t183 4096)).bind fun t186 => ((spec_FixMul.f kj95 (wrap64 (Int.tdiv (wrap64 (a0_5 * bt184.2)) 32768)) t186).bind fun t187 => ((spec_SinOf.f kj95 (Int.tmod t183 4096)).bind fun t188 => ((spec_FixMul.f kj95 (wrap64 (Int.tdiv (wrap64 (a0_5 * bt184.2)) 32768)) t188).bind fun t189 => (if x176002_3.length < 3518437208883 then (spec_StepCloud.l1 kj95 (wrap64 (x9_3 + 1)) a0_0 a0_1 a0_2 a0_3 a0_4 a0_5 a0_6 bt184.1 (wrap64 (a1_1 + 1)) (x176002_3 ++ [(⟨a0_0, a0_1, t187, t189, a0_4⟩ : S48)])) else (none))))))) = some (r1, r2, r3, r4) := H
              have A111 := Aside0.mk A1110
              clear A1110
              replace H := Option.bind_eq_some_iff.mp H
              obtain ⟨⟨t184, t185⟩, A1120, H⟩ := H
              replace H : ((spec_CosOf.f kj95 (Int.tmod t183 4096)).bind fun t186 => ((spec_FixMul.f kj95 (wrap64 (Int.tdiv (wrap64 (a0_5 * t185)) 32768)) t186).bind fun t187 => ((spec_SinOf.f kj95 (Int.tmod t183 4096)).bind fun t188 => ((spec_FixMul.f kj95 (wrap64 (Int.tdiv (wrap64 (a0_5 * t185)) 32768)) t188).bind fun t189 => (if x176002_3.length < 3518437208883 then (spec_StepCloud.l1 kj95 (wrap64 (x9_3 + 1)) a0_0 a0_1 a0_2 a0_3 a0_4 a0_5 a0_6 t184 (wrap64 (a1_1 + 1)) (x176002_3 ++ [(⟨a0_0, a0_1, t187, t189, a0_4⟩ : S48)])) else (none)))))) = some (r1, r2, r3, r4) := H
              have A112 := Aside0.mk A1120
              clear A1120
              replace H := Option.bind_eq_some_iff.mp H
              obtain ⟨t186, A1130, H⟩ := H
              replace H : ((spec_FixMul.f kj95 (wrap64 (Int.tdiv (wrap64 (a0_5 * t185)) 32768)) t186).bind fun t187 => ((spec_SinOf.f kj95 (Int.tmod t183 4096)).bind fun t188 => ((spec_FixMul.f kj95 (wrap64 (Int.tdiv (wrap64 (a0_5 * t185)) 32768)) t188).bind fun t189 => (if x176002_3.length < 3518437208883 then (spec_StepCloud.l1 kj95 (wrap64 (x9_3 + 1)) a0_0 a0_1 a0_2 a0_3 a0_4 a0_5 a0_6 t184 (wrap64 (a1_1 + 1)) (x176002_3 ++ [(⟨a0_0, a0_1, t187, t189, a0_4⟩ : S48)])) else (none))))) = some (r1, r2, r3, r4) := H
              have A113 := Aside0.mk A1130
              clear A1130
              replace H := Option.bind_eq_some_iff.mp H
              obtain ⟨t187, A1140, H⟩ := H
              replace H : ((spec_SinOf.f kj95 (Int.tmod t183 4096)).bind fun t188 => ((spec_FixMul.f kj95 (wrap64 (Int.tdiv (wrap64 (a0_5 * t185)) 32768)) t188).bind fun t189 => (if x176002_3.length < 3518437208883 then (spec_StepCloud.l1 kj95 (wrap64 (x9_3 + 1)) a0_0 a0_1 a0_2 a0_3 a0_4 a0_5 a0_6 t184 (wrap64 (a1_1 + 1)) (x176002_3 ++ [(⟨a0_0, a0_1, t187, t189, a0_4⟩ : S48)])) else (none)))) = some (r1, r2, r3, r4) := H
              have A114 := Aside0.mk A1140
              clear A1140
              replace H := Option.bind_eq_some_iff.mp H
              obtain ⟨t188, A1150, H⟩ := H
              replace H : ((spec_FixMul.f kj95 (wrap64 (Int.tdiv (wrap64 (a0_5 * t185)) 32768)) t188).bind fun t189 => (if x176002_3.length < 3518437208883 then (spec_StepCloud.l1 kj95 (wrap64 (x9_3 + 1)) a0_0 a0_1 a0_2 a0_3 a0_4 a0_5 a0_6 t184 (wrap64 (a1_1 + 1)) (x176002_3 ++ [(⟨a0_0, a0_1, t187, t189, a0_4⟩ : S48)])) else (none))) = some (r1, r2, r3, r4) := H
              have A115 := Aside0.mk A1150
              clear A1150
              replace H := Option.bind_eq_some_iff.mp H
              obtain ⟨t189, A1160, H⟩ := H
              replace H : (if x176002_3.length < 3518437208883 then (spec_StepCloud.l1 kj95 (wrap64 (x9_3 + 1)) a0_0 a0_1 a0_2 a0_3 a0_4 a0_5 a0_6 t184 (wrap64 (a1_1 + 1)) (x176002_3 ++ [(⟨a0_0, a0_1, t187, t189, a0_4⟩ : S48)])) else (none)) = some (r1, r2, r3, r4) := H
              have A116 := Aside0.mk A1160
              clear A1160
              by_cases c117 : x176002_3.length < 3518437208883
              ·rw [if_pos c117] at H
               have LMc117 := Aside0.mk c117
               clear c117
               obtain ⟨y190, hy190⟩ : ∃ y_ : List (S48), y_ = (x176002_3 ++ [(⟨a0_0, a0_1, t187, t189, a0_4⟩ : S48)]) := ⟨_, rfl⟩
               replace H : (spec_StepCloud.l1 kj95 (wrap64 (x9_3 + 1)) a0_0 a0_1 a0_2 a0_3 a0_4 a0_5 a0_6 t184 (wrap64 (a1_1 + 1)) y190) = some (r1, r2, r3, r4) := by first | (rw [hy190]; with_reducible exact H) | (have H2_ := (Option.bind_some _ _).symm.trans H; rw [hy190]; with_reducible exact H2_) | (have H2_ := (Option.bind_some _ _).symm.trans H; with_reducible exact H2_) | with_reducible exact H | (rw [hy190]; exact H) | exact H
               have Ny190 := Aside0.mk hy190
               clear hy190
               have H' := Aside0.mk H
               clear H
               have hnb118 := NB175_170.out
               have hnc118 := NB170_175.out
               have hnb119 := NB175_171.out
               have hnc119 := NB171_175.out
               have hnb120 := NB175_172.out
               have hnc120 := NB172_175.out
               have hcz121_0 : wc.cell? ⟨gb175, 0, none⟩ = some (.int .i64 x176000_3) := (blk_cell BK175.out 0).trans rfl
               have hcz121_1 : wc.cell? ⟨gb175, 1, none⟩ = some (.int .i64 (wrap64 (a1_1 + 1))) := (blk_cell BK175.out 1).trans rfl
               have hcz121_2 : wc.cell? ⟨gb175, 2, none⟩ = some (u176002) := (blk_cell BK175.out 2).trans rfl
               have hfz121_0 := blk_frozen BK175.out 0
               have hfz121_1 := blk_frozen BK175.out 1
               have hfz121_2 := blk_frozen BK175.out 2
               try go_wp2_with (first | ((with_reducible refine gate_callee (f := 21) rfl ?_); refine goesL_ (some 95) rfl rfl Try.func21 (by kernel_rfl) rfl #[.int .i64 x176000_3] rfl aE ?_; (with_reducible refine (spec_l1Coin.calls x176000_3 t182 t183 _ A111.out).mono ?_); rintro e w' ⟨rfl, ⟨nd, rfl⟩⟩; refine ⟨_, rfl, ?_⟩; (try (rw [drewN_self wc]; generalize hq_ : World.drewN wc _ = wc; replace HO_176002 : Aside0 (Kd.R k48 48 wc w.heap.size (fun _ => True) u176002 x176002_3) := ⟨by rw [← hq_]; exact (rU HO_176002.out)⟩; replace BK170 : Aside0 (wc.heap[gb170]? = some (.cells #[.int .i64 a0_0, .int .i64 a0_1, .int .i64 a0_2, .int .i64 a0_3, .int .i64 a0_4, .int .i64 a0_5, .int .i64 a0_6] 26 (0, 0))) := ⟨by rw [← hq_]; exact (bU BK170.out)⟩; replace BK171 : Aside0 (wc.heap[gb171]? = some (.cells #[.int .i64 a1_0, .int .i64 a1_1, .slice A1_2 l1_2.length c1_2] 35 (0, 0))) := ⟨by rw [← hq_]; exact (bU BK171.out)⟩; replace BK172 : Aside0 (wc.heap[gb172]? = some (.cells #[.int .i64 0, .int .i64 0, .slice none 0 0] 35 (0, 0))) := ⟨by rw [← hq_]; exact (bU BK172.out)⟩; replace BK175 : Aside0 (wc.heap[gb175]? = some (.cells #[.int .i64 x176000_3, .int .i64 (wrap64 (a1_1 + 1)), u176002] 35 (0, 0))) := ⟨by rw [← hq_]; exact (bU BK175.out)⟩; replace HB : Aside0 (Below w.heap.size w wc) := ⟨by rw [← hq_]; exact (lU4 GE170.out GE171.out GE172.out GE175.out)⟩; clear hq_))) | ((with_reducible refine gate_callee (f := 21) rfl ?_); refine goesL_ (some 100) rfl rfl Try.func21 (by kernel_rfl) rfl #[.int .i64 t182] rfl aE ?_; (with_reducible refine (spec_l1Coin.calls t182 t184 t185 _ A112.out).mono ?_); rintro e w' ⟨rfl, ⟨nd, rfl⟩⟩; refine ⟨_, rfl, ?_⟩; (try (rw [drewN_self wc]; generalize hq_ : World.drewN wc _ = wc; replace HO_176002 : Aside0 (Kd.R k48 48 wc w.heap.size (fun _ => True) u176002 x176002_3) := ⟨by rw [← hq_]; exact (rU HO_176002.out)⟩; replace BK170 : Aside0 (wc.heap[gb170]? = some (.cells #[.int .i64 a0_0, .int .i64 a0_1, .int .i64 a0_2, .int .i64 a0_3, .int .i64 a0_4, .int .i64 a0_5, .int .i64 a0_6] 26 (0, 0))) := ⟨by rw [← hq_]; exact (bU BK170.out)⟩; replace BK171 : Aside0 (wc.heap[gb171]? = some (.cells #[.int .i64 a1_0, .int .i64 a1_1, .slice A1_2 l1_2.length c1_2] 35 (0, 0))) := ⟨by rw [← hq_]; exact (bU BK171.out)⟩; replace BK172 : Aside0 (wc.heap[gb172]? = some (.cells #[.int .i64 0, .int .i64 0, .slice none 0 0] 35 (0, 0))) := ⟨by rw [← hq_]; exact (bU BK172.out)⟩; replace BK175 : Aside0 (wc.heap[gb175]? = some (.cells #[.int .i64 x176000_3, .int .i64 (wrap64 (a1_1 + 1)), u176002] 35 (0, 0))) := ⟨by rw [← hq_]; exact (bU BK175.out)⟩; replace HB : Aside0 (Below w.heap.size w wc) := ⟨by rw [← hq_]; exact (lU4 GE170.out GE171.out GE172.out GE175.out)⟩; clear hq_))) | ((with_reducible refine gate_store (t := 3) (p := 104) rfl ?_); refine store_event (t := 3) (p := 104) (v := ?vo_w122) (w1 := (wc.setCell ⟨gb175, 0, none⟩ (.int .i64 t184))) ?hg ?ho ?hn ?hr ?_; (case ho => rfl); (case hg => rfl); (case hn => rfl); (case hr => first | (go_simp; done) | (go_simp; rfl) | (have hq0_ := (blk_cell BK175.out 0).trans (show _ = some _ from rfl); have hf0_ := blk_frozen BK175.out 0; first | (go_simp; done) | (go_simp; rfl))); intro w122 hw; replace HO_176002 : Aside0 (Kd.R k48 48 w122 w.heap.size (fun _ => True) u176002 x176002_3) := ⟨(by rw [hw]; exact (by (with_reducible repeat (first | apply Kd.R_alloc | apply Kd.R_drewN | apply Kd.R_drew)); exact Kd.R_mono (Kd.R_far (p := ⟨gb175, 0, none⟩) (Kd.R_types HO_176002.out BK175.out (by decide)) (fun _ hk => hk.2) (.int .i64 t184)) (fun _ hk => trivial)))⟩; replace BK170 : Aside0 (w122.heap[gb170]? = some (.cells #[.int .i64 a0_0, .int .i64 a0_1, .int .i64 a0_2, .int .i64 a0_3, .int .i64 a0_4, .int .i64 a0_5, .int .i64 a0_6] 26 (0, 0))) := ⟨(by rw [hw]; exact (bF NB170_175.out BK170.out))⟩; replace BK171 : Aside0 (w122.heap[gb171]? = some (.cells #[.int .i64 a1_0, .int .i64 a1_1, .slice A1_2 l1_2.length c1_2] 35 (0, 0))) := ⟨(by rw [hw]; exact (bF NB171_175.out BK171.out))⟩; replace BK172 : Aside0 (w122.heap[gb172]? = some (.cells #[.int .i64 0, .int .i64 0, .slice none 0 0] 35 (0, 0))) := ⟨(by rw [hw]; exact (bF NB172_175.out BK172.out))⟩; replace BK175 : Aside0 (w122.heap[gb175]? = some (.cells #[.int .i64 t184, .int .i64 (wrap64 (a1_1 + 1)), u176002] 35 (0, 0))) := ⟨(by rw [hw]; exact (by refine bU ?_; refine blk_put (cs := #[.int .i64 x176000_3, .int .i64 (wrap64 (a1_1 + 1)), u176002]) ?_ 0 _ rfl; refine bU ?_; exact BK175.out))⟩; replace HB : Aside0 (Below w.heap.size w w122) := ⟨(by rw [hw]; exact (lU4 GE170.out GE171.out GE172.out GE175.out))⟩; clear hw; have hnb123 := NB170_171.out; have hnc123 := NB171_170.out; have hnb124 := NB170_172.out; have hnc124 := NB172_170.out; have hcz125_0 : w122.cell? ⟨gb170, 0, none⟩ = some (.int .i64 a0_0) := (blk_cell BK170.out 0).trans rfl; have hcz125_1 : w122.cell? ⟨gb170, 1, none⟩ = some (.int .i64 a0_1) := (blk_cell BK170.out 1).trans rfl; have hcz125_2 : w122.cell? ⟨gb170, 2, none⟩ = some (.int .i64 a0_2) := (blk_cell BK170.out 2).trans rfl; have hcz125_3 : w122.cell? ⟨gb170, 3, none⟩ = some (.int .i64 a0_3) := (blk_cell BK170.out 3).trans rfl; have hcz125_4 : w122.cell? ⟨gb170, 4, none⟩ = some (.int .i64 a0_4) := (blk_cell BK170.out 4).trans rfl; have hcz125_5 : w122.cell? ⟨gb170, 5, none⟩ = some (.int .i64 a0_5) := (blk_cell BK170.out 5).trans rfl; have hcz125_6 : w122.cell? ⟨gb170, 6, none⟩ = some (.int .i64 a0_6) := (blk_cell BK170.out 6).trans rfl; have hfz125_0 := blk_frozen BK170.out 0; have hfz125_1 := blk_frozen BK170.out 1; have hfz125_2 := blk_frozen BK170.out 2; have hfz125_3 := blk_frozen BK170.out 3; have hfz125_4 := blk_frozen BK170.out 4; have hfz125_5 := blk_frozen BK170.out 5; have hfz125_6 := blk_frozen BK170.out 6))
               replace HO_176002 := Aside0.mk (Kd.R_drew HO_176002.out)
               replace BK170 := Aside0.mk (blk_drew BK170.out)
               replace BK171 := Aside0.mk (blk_drew BK171.out)
               replace BK172 := Aside0.mk (blk_drew BK172.out)
               replace BK175 := Aside0.mk (blk_drew BK175.out)
               replace HB := Aside0.mk (below_drew1 HB.out)
               refine start_ (n := 23) (S := fun w' => w'.cell? ⟨gb175, 0, none⟩ = some (.int .i64 t184) ∧ w'.cell? ⟨gb175, 1, none⟩ = some (.int .i64 (wrap64 (a1_1 + 1))) ∧ w'.cell? ⟨gb175, 2, none⟩ = some (u176002) ∧ w'.cell? ⟨gb170, 0, none⟩ = some (.int .i64 a0_0) ∧ w'.cell? ⟨gb170, 1, none⟩ = some (.int .i64 a0_1) ∧ w'.cell? ⟨gb170, 2, none⟩ = some (.int .i64 a0_2) ∧ w'.cell? ⟨gb170, 3, none⟩ = some (.int .i64 a0_3) ∧ w'.cell? ⟨gb170, 4, none⟩ = some (.int .i64 a0_4) ∧ w'.cell? ⟨gb170, 5, none⟩ = some (.int .i64 a0_5) ∧ w'.cell? ⟨gb170, 6, none⟩ = some (.int .i64 a0_6)) (ds := [22]) #[false, false, false, false, false, false, false, false, false, false, false, false, false, false, false, false, false, false, false, false, false, false, false] (by kernel_rfl) rfl rfl ⟨(blk_cell BK175.out 0).trans rfl, (blk_cell BK175.out 1).trans rfl, (blk_cell BK175.out 2).trans rfl, (blk_cell BK170.out 0).trans rfl, (blk_cell BK170.out 1).trans rfl, (blk_cell BK170.out 2).trans rfl, (blk_cell BK170.out 3).trans rfl, (blk_cell BK170.out 4).trans rfl, (blk_cell BK170.out 5).trans rfl, (blk_cell BK170.out 6).trans rfl⟩ (fun hHeld => ?_); refine with_tabW spec_StepCloud.tab22 spec_StepCloud.bits22 (fun HT_ HW_ => ?_)
               generalize w122.drew = w126 at HO_176002 BK170 BK171 BK172 BK175 HB hHeld ⊢
               refine pureA 0 110 (bz 23 1) rfl rfl (any_of HT_.out (by kernel_rfl)) ?_
               refine pureA 2 112 (bz 23 5) rfl rfl (any_of HT_.out (by kernel_rfl)) ?_
               refine pureA 4 114 (bz 23 21) rfl rfl (any_of HT_.out (by kernel_rfl)) ?_
               refine pureA 6 116 (bz 23 85) rfl rfl (any_of HT_.out (by kernel_rfl)) ?_
               refine pureA 7 117 (bz 23 213) rfl rfl (any_of HT_.out (by kernel_rfl)) ?_
               refine pureA 8 118 (bz 23 469) rfl rfl (any_of HT_.out (by kernel_rfl)) ?_
               refine pureA 11 121 (bz 23 2517) rfl rfl (any_of HT_.out (by kernel_rfl)) ?_
               refine pureA 12 122 (bz 23 6613) rfl rfl (any_of HT_.out (by kernel_rfl)) ?_
               refine pureA 13 123 (bz 23 14805) rfl rfl (any_of HT_.out (by kernel_rfl)) ?_
               refine pureA 16 126 (bz 23 80341) rfl rfl (any_of HT_.out (by kernel_rfl)) ?_
               refine takeA 1 111 (bz 23 80343) rfl rfl (take_ofW HT_.out HW_.out (by kernel_rfl)) hHeld (by rintro w' ⟨s0, s1, s2, s3, s4, s5, s6, s7, s8, s9⟩; go_simp; with_reducible rfl) ?_
               refine takeA 3 113 (bz 23 80351) rfl rfl (take_ofW HT_.out HW_.out (by kernel_rfl)) hHeld (by rintro w' ⟨s0, s1, s2, s3, s4, s5, s6, s7, s8, s9⟩; go_simp; with_reducible rfl) ?_
               refine takeA 5 115 (bz 23 80383) rfl rfl (take_ofW HT_.out HW_.out (by kernel_rfl)) hHeld (by rintro w' ⟨s0, s1, s2, s3, s4, s5, s6, s7, s8, s9⟩; go_simp; with_reducible rfl) ?_
               refine takeA 17 127 (bz 23 211455) rfl rfl (take_ofW HT_.out HW_.out (by kernel_rfl)) hHeld (by rintro w' ⟨s0, s1, s2, s3, s4, s5, s6, s7, s8, s9⟩; go_simp; with_reducible rfl) ?_
               refine one_ (i := 9) (N := some 119) (bz 23 211967) rfl rfl (one_of HT_.out (by kernel_rfl)) (by decide) (fun K hK => ?_)
               refine goes_ Try.func23 (by kernel_rfl) rfl #[.int .i64 (Int.tmod t183 4096)] (by rfl) rfl rfl aE ?_
               with_reducible refine (spec_CosOf.calls kj95 (Int.tmod t183 4096) t186 _ A113.out).mono ?_
               rintro e w127 ⟨rfl, hb⟩
               refine ⟨_, rfl, ?_⟩
               replace HO_176002 := Aside0.mk (Kd.R_below (rU HO_176002.out) hb)
               replace BK170 := Aside0.mk (blk_below (bU BK170.out) hb)
               replace BK171 := Aside0.mk (blk_below (bU BK171.out) hb)
               replace BK172 := Aside0.mk (blk_below (bU BK172.out) hb)
               replace BK175 := Aside0.mk (blk_below (bU BK175.out) hb)
               replace HB := Aside0.mk (below_step (lU4 GE170.out GE171.out GE172.out GE175.out) hb)
               (try clear hb)
               (try clear hb2)
               (try clear hk)
               (try clear hi)
               refine hK.out _ _ ⟨(blk_cell BK175.out 0).trans rfl, (blk_cell BK175.out 1).trans rfl, (blk_cell BK175.out 2).trans rfl, (blk_cell BK170.out 0).trans rfl, (blk_cell BK170.out 1).trans rfl, (blk_cell BK170.out 2).trans rfl, (blk_cell BK170.out 3).trans rfl, (blk_cell BK170.out 4).trans rfl, (blk_cell BK170.out 5).trans rfl, (blk_cell BK170.out 6).trans rfl⟩ (fun hHeld => ?_)
               clear hK K
               refine norm_ (a' := ?_) ?_ ?_
               rotate_left
               ·show Act.put _ (some 119) _ = _
                simp only [Act.put, List.setIfInBounds_toArray, List.set_cons_zero, List.set_cons_succ, i64_w, i32_w]
                rfl
               refine one_ (i := 10) (N := some 120) (bz 23 212991) rfl rfl (one_of HT_.out (by kernel_rfl)) (by decide) (fun K hK => ?_)
               refine goes_ Try.func22 (by kernel_rfl) rfl #[.int .i64 (wrap64 (Int.tdiv (wrap64 (a0_5 * t185)) 32768)), .int .i64 t186] (by rfl) rfl rfl aE ?_
               with_reducible refine (spec_FixMul.calls kj95 (wrap64 (Int.tdiv (wrap64 (a0_5 * t185)) 32768)) t186 t187 _ A114.out).mono ?_
               rintro e w128 ⟨rfl, hb⟩
               refine ⟨_, rfl, ?_⟩
               replace HO_176002 := Aside0.mk (Kd.R_below (rU HO_176002.out) hb)
               replace BK170 := Aside0.mk (blk_below (bU BK170.out) hb)
               replace BK171 := Aside0.mk (blk_below (bU BK171.out) hb)
               replace BK172 := Aside0.mk (blk_below (bU BK172.out) hb)
               replace BK175 := Aside0.mk (blk_below (bU BK175.out) hb)
               replace HB := Aside0.mk (below_step (lU4 GE170.out GE171.out GE172.out GE175.out) hb)
               (try clear hb)
               (try clear hb2)
               (try clear hk)
               (try clear hi)
               refine hK.out _ _ ⟨(blk_cell BK175.out 0).trans rfl, (blk_cell BK175.out 1).trans rfl, (blk_cell BK175.out 2).trans rfl, (blk_cell BK170.out 0).trans rfl, (blk_cell BK170.out 1).trans rfl, (blk_cell BK170.out 2).trans rfl, (blk_cell BK170.out 3).trans rfl, (blk_cell BK170.out 4).trans rfl, (blk_cell BK170.out 5).trans rfl, (blk_cell BK170.out 6).trans rfl⟩ (fun hHeld => ?_)
               clear hK K
               refine norm_ (a' := ?_) ?_ ?_
               rotate_left
               ·show Act.put _ (some 120) _ = _
                simp only [Act.put, List.setIfInBounds_toArray, List.set_cons_zero, List.set_cons_succ, i64_w, i32_w]
                rfl
               refine one_ (i := 14) (N := some 124) (bz 23 229375) rfl rfl (one_of HT_.out (by kernel_rfl)) (by decide) (fun K hK => ?_)
               refine goes_ Try.func24 (by kernel_rfl) rfl #[.int .i64 (Int.tmod t183 4096)] (by rfl) rfl rfl aE ?_
               with_reducible refine (spec_SinOf.calls kj95 (Int.tmod t183 4096) t188 _ A115.out).mono ?_
               rintro e w129 ⟨rfl, hb⟩
               refine ⟨_, rfl, ?_⟩
               replace HO_176002 := Aside0.mk (Kd.R_below (rU HO_176002.out) hb)
               replace BK170 := Aside0.mk (blk_below (bU BK170.out) hb)
               replace BK171 := Aside0.mk (blk_below (bU BK171.out) hb)
               replace BK172 := Aside0.mk (blk_below (bU BK172.out) hb)
               replace BK175 := Aside0.mk (blk_below (bU BK175.out) hb)
               replace HB := Aside0.mk (below_step (lU4 GE170.out GE171.out GE172.out GE175.out) hb)
               (try clear hb)
               (try clear hb2)
               (try clear hk)
               (try clear hi)
               refine hK.out _ _ ⟨(blk_cell BK175.out 0).trans rfl, (blk_cell BK175.out 1).trans rfl, (blk_cell BK175.out 2).trans rfl, (blk_cell BK170.out 0).trans rfl, (blk_cell BK170.out 1).trans rfl, (blk_cell BK170.out 2).trans rfl, (blk_cell BK170.out 3).trans rfl, (blk_cell BK170.out 4).trans rfl, (blk_cell BK170.out 5).trans rfl, (blk_cell BK170.out 6).trans rfl⟩ (fun hHeld => ?_)
               clear hK K
               refine norm_ (a' := ?_) ?_ ?_
               rotate_left
               ·show Act.put _ (some 124) _ = _
                simp only [Act.put, List.setIfInBounds_toArray, List.set_cons_zero, List.set_cons_succ, i64_w, i32_w]
                rfl
               refine one_ (i := 15) (N := some 125) (bz 23 262143) rfl rfl (one_of HT_.out (by kernel_rfl)) (by decide) (fun K hK => ?_)
               refine goes_ Try.func22 (by kernel_rfl) rfl #[.int .i64 (wrap64 (Int.tdiv (wrap64 (a0_5 * t185)) 32768)), .int .i64 t188] (by rfl) rfl rfl aE ?_
               with_reducible refine (spec_FixMul.calls kj95 (wrap64 (Int.tdiv (wrap64 (a0_5 * t185)) 32768)) t188 t189 _ A116.out).mono ?_
               rintro e w130 ⟨rfl, hb⟩
               refine ⟨_, rfl, ?_⟩
               replace HO_176002 := Aside0.mk (Kd.R_below (rU HO_176002.out) hb)
               replace BK170 := Aside0.mk (blk_below (bU BK170.out) hb)
               replace BK171 := Aside0.mk (blk_below (bU BK171.out) hb)
               replace BK172 := Aside0.mk (blk_below (bU BK172.out) hb)
               replace BK175 := Aside0.mk (blk_below (bU BK175.out) hb)
               replace HB := Aside0.mk (below_step (lU4 GE170.out GE171.out GE172.out GE175.out) hb)
               (try clear hb)
               (try clear hb2)
               (try clear hk)
               (try clear hi)
               refine hK.out _ _ ⟨(blk_cell BK175.out 0).trans rfl, (blk_cell BK175.out 1).trans rfl, (blk_cell BK175.out 2).trans rfl, (blk_cell BK170.out 0).trans rfl, (blk_cell BK170.out 1).trans rfl, (blk_cell BK170.out 2).trans rfl, (blk_cell BK170.out 3).trans rfl, (blk_cell BK170.out 4).trans rfl, (blk_cell BK170.out 5).trans rfl, (blk_cell BK170.out 6).trans rfl⟩ (fun hHeld => ?_)
               clear hK K
               refine norm_ (a' := ?_) ?_ ?_
               rotate_left
               ·show Act.put _ (some 125) _ = _
                simp only [Act.put, List.setIfInBounds_toArray, List.set_cons_zero, List.set_cons_succ, i64_w, i32_w]
                rfl
               refine pureA 18 128 (bz 23 524287) rfl rfl (any_of HT_.out (by kernel_rfl)) ?_
               refine one_ (i := 19) (N := some 129) (bz 23 1048575) rfl rfl (one_of HT_.out (by kernel_rfl)) (by decide) (fun K hK => ?_)
               refine value_ (w1 := ?_) (v := ?_) (by rfl) rfl ?_ ?_
               rotate_left 2
               ·go_simp
                constructor
                ·rfl
                ·rfl
               refine hK.out _ _ ⟨(blk_cell (blk_alloc BK175.out _) 0).trans rfl, (blk_cell (blk_alloc BK175.out _) 1).trans rfl, (blk_cell (blk_alloc BK175.out _) 2).trans rfl, (blk_cell (blk_alloc BK170.out _) 0).trans rfl, (blk_cell (blk_alloc BK170.out _) 1).trans rfl, (blk_cell (blk_alloc BK170.out _) 2).trans rfl, (blk_cell (blk_alloc BK170.out _) 3).trans rfl, (blk_cell (blk_alloc BK170.out _) 4).trans rfl, (blk_cell (blk_alloc BK170.out _) 5).trans rfl, (blk_cell (blk_alloc BK170.out _) 6).trans rfl⟩ (fun hHeld => ?_)
               clear hK K
               refine norm_ (a' := ?_) ?_ ?_
               rotate_left
               ·show Act.put _ (some 129) _ = _
                simp only [Act.put, List.setIfInBounds_toArray, List.set_cons_zero, List.set_cons_succ, i64_w, i32_w]
                rfl
               refine one_ (i := 20) (N := some 130) (bz 23 2097151) rfl rfl (one_of HT_.out (by kernel_rfl)) (by decide) (fun K hK => ?_)
               refine Kd.R_append_step k48 (w0 := w) w.heap.size (by rfl) (.tmp 111) (.tmp 129) 33 48 (.agg #[(.int .i64 0), (.int .i64 0), (.int .i64 0), (.int .i64 0), (.int .i64 0)]) 40 rfl Try.underlying33 info48 rfl (by decide) (by omega) u176002 x176002_3 (⟨a0_0, a0_1, t187, t189, a0_4⟩ : S48) [.int .i64 a0_0, .int .i64 a0_1, .int .i64 t187, .int .i64 t189, .int .i64 a0_4] (fun _ => True) (fun _ => False) rfl rfl ?aP (fun _ hk => hk.elim) ?aF ?aO ?aB ?aS ?aL ?_
               (case aP => exact k48_mkM _ _ _ (⟨a0_0, a0_1, t187, t189, a0_4⟩ : S48))
               (case aB => exact (lU4 GE170.out GE171.out GE172.out GE175.out))
               (case aF => exact (fun _ _ => trivial))
               (case aO => exact (rU HO_176002.out))
               (case aS => exact (below_size (lU4 GE170.out GE171.out GE172.out GE175.out)))
               (case aL => have := LMc117.out; omega)
               intro v191 w131 ho hb hg hat
               rw [← Ny190.out] at ho
               replace BK170 := Aside0.mk (blk_grown (g := gb170) (o := .cells #[.int .i64 a0_0, .int .i64 a0_1, .int .i64 a0_2, .int .i64 a0_3, .int .i64 a0_4, .int .i64 a0_5, .int .i64 a0_6] 26 (0, 0)) (bU BK170.out) hg (Kd.R_ne HO_176002.out BK170.out (by decide)))
               replace BK171 := Aside0.mk (blk_grown (g := gb171) (o := .cells #[.int .i64 a1_0, .int .i64 a1_1, .slice A1_2 l1_2.length c1_2] 35 (0, 0)) (bU BK171.out) hg (Kd.R_ne HO_176002.out BK171.out (by decide)))
               replace BK172 := Aside0.mk (blk_grown (g := gb172) (o := .cells #[.int .i64 0, .int .i64 0, .slice none 0 0] 35 (0, 0)) (bU BK172.out) hg (Kd.R_ne HO_176002.out BK172.out (by decide)))
               replace BK175 := Aside0.mk (blk_grown (g := gb175) (o := .cells #[.int .i64 t184, .int .i64 (wrap64 (a1_1 + 1)), u176002] 35 (0, 0)) (bU BK175.out) hg (Kd.R_ne HO_176002.out BK175.out (by decide)))
               replace HB := Aside0.mk hb
               have HO192 := Aside0.mk ho
               clear HO_176002
               clear ho hb hg hat
               obtain ⟨Ao132, co132, eo132⟩ := Kd.R_slice HO192.out
               (first | subst eo132 | (injection eo132 with f1_ f2_ f3_; have f4_ := f1_.symm; have f5_ := f3_.symm; clear f1_ f2_ f3_; subst f4_; subst f5_))
               refine hK.out _ _ ⟨(blk_cell BK175.out 0).trans rfl, (blk_cell BK175.out 1).trans rfl, (blk_cell BK175.out 2).trans rfl, (blk_cell BK170.out 0).trans rfl, (blk_cell BK170.out 1).trans rfl, (blk_cell BK170.out 2).trans rfl, (blk_cell BK170.out 3).trans rfl, (blk_cell BK170.out 4).trans rfl, (blk_cell BK170.out 5).trans rfl, (blk_cell BK170.out 6).trans rfl⟩ (fun hHeld => ?_)
               clear hK K
               refine norm_ (a' := ?_) ?_ ?_
               rotate_left
               ·show Act.put _ (some 130) _ = _
                simp only [Act.put, List.setIfInBounds_toArray, List.set_cons_zero, List.set_cons_succ, i64_w, i32_w]
                rfl
               refine pureA 21 131 (bz 23 4194303) rfl rfl (any_of HT_.out (by kernel_rfl)) ?_
               refine last_ (i := 22) (N := none) (bz 23 8388607) rfl rfl (one_of HT_.out (by kernel_rfl)) (by decide) (fun K hK => ?_)
               have hs133 : w131.cell? ⟨gb175, 2, none⟩ = some (u176002) := (blk_cell BK175.out 2).trans rfl
               have hfs133 := blk_frozen BK175.out 2
               have hns133_0 := NB170_175.out
               have hns133_1 := NB171_175.out
               have hns133_2 := NB172_175.out
               have hms133_0 := NB175_170.out
               have hms133_1 := NB175_171.out
               have hms133_2 := NB175_172.out
               refine skip_ (w1 := ?_) (by rfl) rfl ?_ ?_
               rotate_left
               ·go_simp
                rfl
               refine hK.out _ _ ?_
               clear hK K
               refine done_ (done_of HT_.out (by kernel_rfl)) ?_
               try go_wp2
               go_roundg kj95
               case measure => have := HJ2.out; have := HK2.out; have := HK3.out; have := HJ95.out; omega
               case rel => exact ⟨(wrap64 (x9_3 + 1)), (t184), (y190), (.slice Ao132 y190.length co132), tE, H', ⟨by have := HJ2.out; have := HK2.out; have := HK3.out; have := HJ95.out; omega⟩, ⟨by (with_reducible repeat (first | apply Kd.R_alloc | apply Kd.R_drewN | apply Kd.R_drew)); exact Kd.R_mono (Kd.R_far (p := ⟨gb175, 2, none⟩) (Kd.R_types HO192.out BK175.out (by decide)) (fun _ hk => hk.2) (.slice Ao132 y190.length co132)) (fun _ hk => trivial)⟩, ⟨by refine bU ?_; refine blk_far ?_ NB170_175.out _; refine bU ?_; exact BK170.out⟩, ⟨by refine bU ?_; refine blk_far ?_ NB171_175.out _; refine bU ?_; exact BK171.out⟩, ⟨by refine bU ?_; refine blk_far ?_ NB172_175.out _; refine bU ?_; exact BK172.out⟩, ⟨by refine bU ?_; refine blk_put (cs := #[.int .i64 t184, .int .i64 (wrap64 (a1_1 + 1)), u176002]) ?_ 2 _ rfl; refine bU ?_; exact BK175.out⟩, ⟨by repeat (first | (with_reducible first | exact HB.out | apply below_alloc | apply pw_below_drewN | apply below_drew1 | refine below_set ?_ GE170.out | refine below_set ?_ GE171.out | refine below_set ?_ GE172.out | refine below_set ?_ GE175.out) | exact HB.out)⟩⟩
              ·rw [if_neg c117] at H
               exact absurd H (by simp)
             ·replace c110 := Bool.eq_false_iff.mpr c110
              subst c110
              have H1 : ((spec_GoodCloud.f kj95 x176000_3 (wrap64 (a1_1 + 1)) x176002_3).bind fun t181 => (if t181 = true then (some (x176000_3, (wrap64 (a1_1 + 1)), x176002_3, true)) else (some (0, 0, ([] : List (S48)), false)))) = some (r1, r2, r3, r4) := by rw [if_neg (show ¬ (false = true) by decide)] at H; exact H
              clear H
              have H := H1
              clear H1
              replace H := Option.bind_eq_some_iff.mp H
              obtain ⟨t181, A1340, H⟩ := H
              replace H : (if t181 = true then (some (x176000_3, (wrap64 (a1_1 + 1)), x176002_3, true)) else (some (0, 0, ([] : List (S48)), false))) = some (r1, r2, r3, r4) := H
              have A134 := Aside0.mk A1340
              clear A1340
              by_cases c135 : t181 = true
              ·subst c135
               have H1 : (some (x176000_3, (wrap64 (a1_1 + 1)), x176002_3, true)) = some (r1, r2, r3, r4) := by rw [if_pos rfl] at H; exact H
               clear H
               have H := H1
               clear H1
               simp only [Option.some.injEq, Prod.mk.injEq] at H
               obtain ⟨rfl, rfl, rfl, rfl⟩ := H
               have hnb136 := NB175_170.out
               have hnc136 := NB170_175.out
               have hnb137 := NB175_171.out
               have hnc137 := NB171_175.out
               have hnb138 := NB175_172.out
               have hnc138 := NB172_175.out
               have hcz139_0 : wc.cell? ⟨gb175, 0, none⟩ = some (.int .i64 x176000_3) := (blk_cell BK175.out 0).trans rfl
               have hcz139_1 : wc.cell? ⟨gb175, 1, none⟩ = some (.int .i64 (wrap64 (a1_1 + 1))) := (blk_cell BK175.out 1).trans rfl
               have hcz139_2 : wc.cell? ⟨gb175, 2, none⟩ = some (u176002) := (blk_cell BK175.out 2).trans rfl
               have hfz139_0 := blk_frozen BK175.out 0
               have hfz139_1 := blk_frozen BK175.out 1
               have hfz139_2 := blk_frozen BK175.out 2
               obtain ⟨Ao140, co140, eo140⟩ := Kd.R_slice HO_176002.out
               subst eo140
               go_wp2_with (first | ((with_reducible refine gate_callee (f := 20) rfl ?_); refine goesL_ (some 133) rfl rfl Try.func20 (by kernel_rfl) rfl #[.agg #[.int .i64 x176000_3, .int .i64 (wrap64 (a1_1 + 1)), .slice Ao140 x176002_3.length co140]] rfl aE ?_; (with_reducible refine (spec_GoodCloud.calls kj95 x176000_3 (wrap64 (a1_1 + 1)) _ _ x176002_3 true _ ?side1 ?side2 A134.out).mono ?_); (case side1 => exact cU (Kd.R_reads' HO_176002.out).2.2); (case side2 => exact (Kd.R_reads' HO_176002.out).2.1); rintro e w141 ⟨rfl, hb⟩; refine ⟨_, rfl, ?_⟩; replace HO_176002 := Aside0.mk (Kd.R_below (rU HO_176002.out) hb); replace BK170 := Aside0.mk (blk_below (bU BK170.out) hb); replace BK171 := Aside0.mk (blk_below (bU BK171.out) hb); replace BK172 := Aside0.mk (blk_below (bU BK172.out) hb); replace BK175 := Aside0.mk (blk_below (bU BK175.out) hb); replace HB := Aside0.mk (below_step (lU4 GE170.out GE171.out GE172.out GE175.out) hb); (try clear hb); (try clear hb2); (try clear hk); (try clear hi); have hcz142_0 : w141.cell? ⟨gb175, 0, none⟩ = some (.int .i64 x176000_3) := (blk_cell BK175.out 0).trans rfl; have hcz142_1 : w141.cell? ⟨gb175, 1, none⟩ = some (.int .i64 (wrap64 (a1_1 + 1))) := (blk_cell BK175.out 1).trans rfl; have hcz142_2 : w141.cell? ⟨gb175, 2, none⟩ = some (.slice Ao140 x176002_3.length co140) := (blk_cell BK175.out 2).trans rfl; have hfz142_0 := blk_frozen BK175.out 0; have hfz142_1 := blk_frozen BK175.out 1; have hfz142_2 := blk_frozen BK175.out 2; have hnb143 := NB172_170.out; have hnc143 := NB170_172.out; have hnb144 := NB172_171.out; have hnc144 := NB171_172.out; have hcz145_0 : w141.cell? ⟨gb172, 0, none⟩ = some (.int .i64 0) := (blk_cell BK172.out 0).trans rfl; have hcz145_1 : w141.cell? ⟨gb172, 1, none⟩ = some (.int .i64 0) := (blk_cell BK172.out 1).trans rfl; have hcz145_2 : w141.cell? ⟨gb172, 2, none⟩ = some (.slice none 0 0) := (blk_cell BK172.out 2).trans rfl; have hfz145_0 := blk_frozen BK172.out 0; have hfz145_1 := blk_frozen BK172.out 1; have hfz145_2 := blk_frozen BK172.out 2) | ((with_reducible refine gate_store (t := 35) (p := 4) rfl ?_); refine store_event (t := 35) (p := 4) (v := ?vo_w146) (w1 := (((w141.setCell ⟨gb172, 0, none⟩ (.int .i64 x176000_3)).setCell ⟨gb172, 1, none⟩ (.int .i64 (wrap64 (a1_1 + 1)))).setCell ⟨gb172, 2, none⟩ (.slice Ao140 x176002_3.length co140))) ?hg ?ho ?hn ?hr ?_; (case ho => rfl); (case hg => rfl); (case hn => rfl); (case hr => first | (go_simp; done) | (go_simp; rfl) | (have hq0_ := (blk_cell BK172.out 0).trans (show _ = some _ from rfl); have hf0_ := blk_frozen BK172.out 0; have hq1_ := (blk_cell BK172.out 1).trans (show _ = some _ from rfl); have hf1_ := blk_frozen BK172.out 1; have hq2_ := (blk_cell BK172.out 2).trans (show _ = some _ from rfl); have hf2_ := blk_frozen BK172.out 2; first | (go_simp; done) | (go_simp; rfl))); intro w146 hw; replace HO_176002 : Aside0 (Kd.R k48 48 w146 w.heap.size (fun _ => True) (.slice Ao140 x176002_3.length co140) x176002_3) := ⟨(by rw [hw]; exact (by (with_reducible repeat (first | apply Kd.R_alloc | apply Kd.R_drewN | apply Kd.R_drew)); exact Kd.R_mono (Kd.R_far (p := ⟨gb172, 2, none⟩) (Kd.R_far (p := ⟨gb172, 1, none⟩) (Kd.R_far (p := ⟨gb172, 0, none⟩) (Kd.R_types HO_176002.out BK172.out (by decide)) (fun _ hk => hk.2) (.int .i64 x176000_3)) (fun _ hk => hk.2) (.int .i64 (wrap64 (a1_1 + 1)))) (fun _ hk => hk.2) (.slice Ao140 x176002_3.length co140)) (fun _ hk => trivial)))⟩; replace BK170 : Aside0 (w146.heap[gb170]? = some (.cells #[.int .i64 a0_0, .int .i64 a0_1, .int .i64 a0_2, .int .i64 a0_3, .int .i64 a0_4, .int .i64 a0_5, .int .i64 a0_6] 26 (0, 0))) := ⟨(by rw [hw]; exact (bF NB170_172.out BK170.out))⟩; replace BK171 : Aside0 (w146.heap[gb171]? = some (.cells #[.int .i64 a1_0, .int .i64 a1_1, .slice A1_2 l1_2.length c1_2] 35 (0, 0))) := ⟨(by rw [hw]; exact (bF NB171_172.out BK171.out))⟩; replace BK172 : Aside0 (w146.heap[gb172]? = some (.cells #[.int .i64 x176000_3, .int .i64 (wrap64 (a1_1 + 1)), .slice Ao140 x176002_3.length co140] 35 (0, 0))) := ⟨(by rw [hw]; exact (by refine bU ?_; refine blk_put (cs := #[.int .i64 x176000_3, .int .i64 (wrap64 (a1_1 + 1)), .slice none 0 0]) ?_ 2 _ rfl; refine bU ?_; refine blk_put (cs := #[.int .i64 x176000_3, .int .i64 0, .slice none 0 0]) ?_ 1 _ rfl; refine bU ?_; refine blk_put (cs := #[.int .i64 0, .int .i64 0, .slice none 0 0]) ?_ 0 _ rfl; refine bU ?_; exact BK172.out))⟩; replace BK175 : Aside0 (w146.heap[gb175]? = some (.cells #[.int .i64 x176000_3, .int .i64 (wrap64 (a1_1 + 1)), .slice Ao140 x176002_3.length co140] 35 (0, 0))) := ⟨(by rw [hw]; exact (bF NB175_172.out BK175.out))⟩; replace HB : Aside0 (Below w.heap.size w w146) := ⟨(by rw [hw]; exact (lU4 GE170.out GE171.out GE172.out GE175.out))⟩; clear hw))
               refine bodyPost_ret (results_ct rfl _ _ gb172 35 #[.int .i64 x176000_3, .int .i64 (wrap64 (a1_1 + 1)), .slice Ao140 x176002_3.length co140] (0, 0) _ rfl (bU BK172.out) Try.underlying35 rfl (by kernel_rfl)) rfl ?_
               exact ⟨_, eE, by (with_reducible repeat (first | apply Kd.R_alloc | apply Kd.R_drewN | apply Kd.R_drew)); exact HO_176002.out, lU4 GE170.out GE171.out GE172.out GE175.out⟩
              ·replace c135 := Bool.eq_false_iff.mpr c135
               subst c135
               have H1 : (some (0, 0, ([] : List (S48)), false)) = some (r1, r2, r3, r4) := by rw [if_neg (show ¬ (false = true) by decide)] at H; exact H
               clear H
               have H := H1
               clear H1
               simp only [Option.some.injEq, Prod.mk.injEq] at H
               obtain ⟨rfl, rfl, rfl, rfl⟩ := H
               have hnb147 := NB175_170.out
               have hnc147 := NB170_175.out
               have hnb148 := NB175_171.out
               have hnc148 := NB171_175.out
               have hnb149 := NB175_172.out
               have hnc149 := NB172_175.out
               have hcz150_0 : wc.cell? ⟨gb175, 0, none⟩ = some (.int .i64 x176000_3) := (blk_cell BK175.out 0).trans rfl
               have hcz150_1 : wc.cell? ⟨gb175, 1, none⟩ = some (.int .i64 (wrap64 (a1_1 + 1))) := (blk_cell BK175.out 1).trans rfl
               have hcz150_2 : wc.cell? ⟨gb175, 2, none⟩ = some (u176002) := (blk_cell BK175.out 2).trans rfl
               have hfz150_0 := blk_frozen BK175.out 0
               have hfz150_1 := blk_frozen BK175.out 1
               have hfz150_2 := blk_frozen BK175.out 2
               obtain ⟨Ao151, co151, eo151⟩ := Kd.R_slice HO_176002.out
               subst eo151
               go_wp2_with (first | ((with_reducible refine gate_callee (f := 20) rfl ?_); refine goesL_ (some 133) rfl rfl Try.func20 (by kernel_rfl) rfl #[.agg #[.int .i64 x176000_3, .int .i64 (wrap64 (a1_1 + 1)), .slice Ao151 x176002_3.length co151]] rfl aE ?_; (with_reducible refine (spec_GoodCloud.calls kj95 x176000_3 (wrap64 (a1_1 + 1)) _ _ x176002_3 false _ ?side1 ?side2 A134.out).mono ?_); (case side1 => exact cU (Kd.R_reads' HO_176002.out).2.2); (case side2 => exact (Kd.R_reads' HO_176002.out).2.1); rintro e w152 ⟨rfl, hb⟩; refine ⟨_, rfl, ?_⟩; replace HO_176002 := Aside0.mk (Kd.R_below (rU HO_176002.out) hb); replace BK170 := Aside0.mk (blk_below (bU BK170.out) hb); replace BK171 := Aside0.mk (blk_below (bU BK171.out) hb); replace BK172 := Aside0.mk (blk_below (bU BK172.out) hb); replace BK175 := Aside0.mk (blk_below (bU BK175.out) hb); replace HB := Aside0.mk (below_step (lU4 GE170.out GE171.out GE172.out GE175.out) hb); (try clear hb); (try clear hb2); (try clear hk); (try clear hi); have hnb153 := NB172_170.out; have hnc153 := NB170_172.out; have hnb154 := NB172_171.out; have hnc154 := NB171_172.out; have hcz155_0 : w152.cell? ⟨gb172, 0, none⟩ = some (.int .i64 0) := (blk_cell BK172.out 0).trans rfl; have hcz155_1 : w152.cell? ⟨gb172, 1, none⟩ = some (.int .i64 0) := (blk_cell BK172.out 1).trans rfl; have hcz155_2 : w152.cell? ⟨gb172, 2, none⟩ = some (.slice none 0 0) := (blk_cell BK172.out 2).trans rfl; have hfz155_0 := blk_frozen BK172.out 0; have hfz155_1 := blk_frozen BK172.out 1; have hfz155_2 := blk_frozen BK172.out 2) | ((with_reducible refine gate_store (t := 35) (p := 4) rfl ?_); refine store_event (t := 35) (p := 4) (v := ?vo_w156) (w1 := (((w152.setCell ⟨gb172, 0, none⟩ (.int .i64 0)).setCell ⟨gb172, 1, none⟩ (.int .i64 0)).setCell ⟨gb172, 2, none⟩ (.slice none 0 0))) ?hg ?ho ?hn ?hr ?_; (case ho => rfl); (case hg => rfl); (case hn => rfl); (case hr => first | (go_simp; done) | (go_simp; rfl) | (have hq0_ := (blk_cell BK172.out 0).trans (show _ = some _ from rfl); have hf0_ := blk_frozen BK172.out 0; have hq1_ := (blk_cell BK172.out 1).trans (show _ = some _ from rfl); have hf1_ := blk_frozen BK172.out 1; have hq2_ := (blk_cell BK172.out 2).trans (show _ = some _ from rfl); have hf2_ := blk_frozen BK172.out 2; first | (go_simp; done) | (go_simp; rfl))); intro w156 hw; replace HO_176002 : Aside0 (Kd.R k48 48 w156 w.heap.size (fun _ => True) (.slice Ao151 x176002_3.length co151) x176002_3) := ⟨(by rw [hw]; exact (by (with_reducible repeat (first | apply Kd.R_alloc | apply Kd.R_drewN | apply Kd.R_drew)); exact Kd.R_mono (Kd.R_far (p := ⟨gb172, 2, none⟩) (Kd.R_far (p := ⟨gb172, 1, none⟩) (Kd.R_far (p := ⟨gb172, 0, none⟩) (Kd.R_types HO_176002.out BK172.out (by decide)) (fun _ hk => hk.2) (.int .i64 0)) (fun _ hk => hk.2) (.int .i64 0)) (fun _ hk => hk.2) (.slice none 0 0)) (fun _ hk => trivial)))⟩; replace BK170 : Aside0 (w156.heap[gb170]? = some (.cells #[.int .i64 a0_0, .int .i64 a0_1, .int .i64 a0_2, .int .i64 a0_3, .int .i64 a0_4, .int .i64 a0_5, .int .i64 a0_6] 26 (0, 0))) := ⟨(by rw [hw]; exact (bF NB170_172.out BK170.out))⟩; replace BK171 : Aside0 (w156.heap[gb171]? = some (.cells #[.int .i64 a1_0, .int .i64 a1_1, .slice A1_2 l1_2.length c1_2] 35 (0, 0))) := ⟨(by rw [hw]; exact (bF NB171_172.out BK171.out))⟩; replace BK172 : Aside0 (w156.heap[gb172]? = some (.cells #[.int .i64 0, .int .i64 0, .slice none 0 0] 35 (0, 0))) := ⟨(by rw [hw]; exact (by refine bU ?_; refine blk_put (cs := #[.int .i64 0, .int .i64 0, .slice none 0 0]) ?_ 2 _ rfl; refine bU ?_; refine blk_put (cs := #[.int .i64 0, .int .i64 0, .slice none 0 0]) ?_ 1 _ rfl; refine bU ?_; refine blk_put (cs := #[.int .i64 0, .int .i64 0, .slice none 0 0]) ?_ 0 _ rfl; refine bU ?_; exact BK172.out))⟩; replace BK175 : Aside0 (w156.heap[gb175]? = some (.cells #[.int .i64 x176000_3, .int .i64 (wrap64 (a1_1 + 1)), .slice Ao151 x176002_3.length co151] 35 (0, 0))) := ⟨(by rw [hw]; exact (bF NB175_172.out BK175.out))⟩; replace HB : Aside0 (Below w.heap.size w w156) := ⟨(by rw [hw]; exact (lU4 GE170.out GE171.out GE172.out GE175.out))⟩; clear hw))
               refine bodyPost_ret (results_ct rfl _ _ gb172 35 #[.int .i64 0, .int .i64 0, .slice none 0 0] (0, 0) _ rfl (bU BK172.out) Try.underlying35 rfl (by kernel_rfl)) rfl ?_
               exact ⟨_, eE, by first | exact Kd.R_nil _ _ _ _ _ | exact Kd.N_nil _ _ _ _ _ | exact Kd.V_nil _ _ _ _ _ | exact Kd.Q_nil _ _ _ _ _ | exact Kd.S_nil _ _ _ _ _, lU4 GE170.out GE171.out GE172.out GE175.out⟩
        ·rw [if_neg c88] at H
         have c88b0 : ((Int.tmod a1_1 a0_2) == 0) = false := beq_eq_false_iff_ne.mpr c88
         have c88b1 : ((Int.tmod a1_1 a0_2) != 0) = true := bne_iff_ne.mpr c88
         replace H := Option.bind_eq_some_iff.mp H
         obtain ⟨t193, A1570, H⟩ := H
         replace H : (if t193 = true then (some (a1_0, (wrap64 (a1_1 + 1)), x176002_2, true)) else (some (0, 0, ([] : List (S48)), false))) = some (r1, r2, r3, r4) := H
         have A157 := Aside0.mk A1570
         clear A1570
         by_cases c158 : t193 = true
         ·subst c158
          have H1 : (some (a1_0, (wrap64 (a1_1 + 1)), x176002_2, true)) = some (r1, r2, r3, r4) := by rw [if_pos rfl] at H; exact H
          clear H
          have H := H1
          clear H1
          simp only [Option.some.injEq, Prod.mk.injEq] at H
          obtain ⟨rfl, rfl, rfl, rfl⟩ := H
          have hnb159 := NB171_170.out
          have hnc159 := NB170_171.out
          have hnb160 := NB171_172.out
          have hnc160 := NB172_171.out
          have hnb161 := NB171_175.out
          have hnc161 := NB175_171.out
          have hcz162_0 : wr.cell? ⟨gb171, 0, none⟩ = some (.int .i64 a1_0) := (blk_cell BK171.out 0).trans rfl
          have hcz162_1 : wr.cell? ⟨gb171, 1, none⟩ = some (.int .i64 a1_1) := (blk_cell BK171.out 1).trans rfl
          have hcz162_2 : wr.cell? ⟨gb171, 2, none⟩ = some (.slice A1_2 l1_2.length c1_2) := (blk_cell BK171.out 2).trans rfl
          have hfz162_0 := blk_frozen BK171.out 0
          have hfz162_1 := blk_frozen BK171.out 1
          have hfz162_2 := blk_frozen BK171.out 2
          have hnb163 := NB170_172.out
          have hnc163 := NB172_170.out
          have hnb164 := NB170_175.out
          have hnc164 := NB175_170.out
          have hcz165_0 : wr.cell? ⟨gb170, 0, none⟩ = some (.int .i64 a0_0) := (blk_cell BK170.out 0).trans rfl
          have hcz165_1 : wr.cell? ⟨gb170, 1, none⟩ = some (.int .i64 a0_1) := (blk_cell BK170.out 1).trans rfl
          have hcz165_2 : wr.cell? ⟨gb170, 2, none⟩ = some (.int .i64 a0_2) := (blk_cell BK170.out 2).trans rfl
          have hcz165_3 : wr.cell? ⟨gb170, 3, none⟩ = some (.int .i64 a0_3) := (blk_cell BK170.out 3).trans rfl
          have hcz165_4 : wr.cell? ⟨gb170, 4, none⟩ = some (.int .i64 a0_4) := (blk_cell BK170.out 4).trans rfl
          have hcz165_5 : wr.cell? ⟨gb170, 5, none⟩ = some (.int .i64 a0_5) := (blk_cell BK170.out 5).trans rfl
          have hcz165_6 : wr.cell? ⟨gb170, 6, none⟩ = some (.int .i64 a0_6) := (blk_cell BK170.out 6).trans rfl
          have hfz165_0 := blk_frozen BK170.out 0
          have hfz165_1 := blk_frozen BK170.out 1
          have hfz165_2 := blk_frozen BK170.out 2
          have hfz165_3 := blk_frozen BK170.out 3
          have hfz165_4 := blk_frozen BK170.out 4
          have hfz165_5 := blk_frozen BK170.out 5
          have hfz165_6 := blk_frozen BK170.out 6
          have hnb166 := NB175_172.out
          have hnc166 := NB172_175.out
          have hcz167_0 : wr.cell? ⟨gb175, 0, none⟩ = some (.int .i64 a1_0) := (blk_cell BK175.out 0).trans rfl
          have hcz167_1 : wr.cell? ⟨gb175, 1, none⟩ = some (.int .i64 (wrap64 (a1_1 + 1))) := (blk_cell BK175.out 1).trans rfl
          have hcz167_2 : wr.cell? ⟨gb175, 2, none⟩ = some (u176002) := (blk_cell BK175.out 2).trans rfl
          have hfz167_0 := blk_frozen BK175.out 0
          have hfz167_1 := blk_frozen BK175.out 1
          have hfz167_2 := blk_frozen BK175.out 2
          obtain ⟨Ao168, co168, eo168⟩ := Kd.R_slice HO_176002.out
          subst eo168
          go_wp2_with (first | ((with_reducible refine gate_callee (f := 20) rfl ?_); refine goesL_ (some 133) rfl rfl Try.func20 (by kernel_rfl) rfl #[.agg #[.int .i64 a1_0, .int .i64 (wrap64 (a1_1 + 1)), .slice Ao168 x176002_2.length co168]] rfl aE ?_; (with_reducible refine (spec_GoodCloud.calls k2 a1_0 (wrap64 (a1_1 + 1)) _ _ x176002_2 true _ ?side1 ?side2 A157.out).mono ?_); (case side1 => exact cU (Kd.R_reads' HO_176002.out).2.2); (case side2 => exact (Kd.R_reads' HO_176002.out).2.1); rintro e w169 ⟨rfl, hb⟩; refine ⟨_, rfl, ?_⟩; replace HO_176002 := Aside0.mk (Kd.R_below (rU HO_176002.out) hb); replace BK170 := Aside0.mk (blk_below (bU BK170.out) hb); replace BK171 := Aside0.mk (blk_below (bU BK171.out) hb); replace BK172 := Aside0.mk (blk_below (bU BK172.out) hb); replace BK175 := Aside0.mk (blk_below (bU BK175.out) hb); replace HB := Aside0.mk (below_step (lU4 GE170.out GE171.out GE172.out GE175.out) hb); (try clear hb); (try clear hb2); (try clear hk); (try clear hi); have hcz170_0 : w169.cell? ⟨gb175, 0, none⟩ = some (.int .i64 a1_0) := (blk_cell BK175.out 0).trans rfl; have hcz170_1 : w169.cell? ⟨gb175, 1, none⟩ = some (.int .i64 (wrap64 (a1_1 + 1))) := (blk_cell BK175.out 1).trans rfl; have hcz170_2 : w169.cell? ⟨gb175, 2, none⟩ = some (.slice Ao168 x176002_2.length co168) := (blk_cell BK175.out 2).trans rfl; have hfz170_0 := blk_frozen BK175.out 0; have hfz170_1 := blk_frozen BK175.out 1; have hfz170_2 := blk_frozen BK175.out 2; have hcz171_0 : w169.cell? ⟨gb172, 0, none⟩ = some (.int .i64 0) := (blk_cell BK172.out 0).trans rfl; have hcz171_1 : w169.cell? ⟨gb172, 1, none⟩ = some (.int .i64 0) := (blk_cell BK172.out 1).trans rfl; have hcz171_2 : w169.cell? ⟨gb172, 2, none⟩ = some (.slice none 0 0) := (blk_cell BK172.out 2).trans rfl; have hfz171_0 := blk_frozen BK172.out 0; have hfz171_1 := blk_frozen BK172.out 1; have hfz171_2 := blk_frozen BK172.out 2) | ((with_reducible refine gate_store (t := 35) (p := 4) rfl ?_); refine store_event (t := 35) (p := 4) (v := ?vo_w172) (w1 := (((w169.setCell ⟨gb172, 0, none⟩ (.int .i64 a1_0)).setCell ⟨gb172, 1, none⟩ (.int .i64 (wrap64 (a1_1 + 1)))).setCell ⟨gb172, 2, none⟩ (.slice Ao168 x176002_2.length co168))) ?hg ?ho ?hn ?hr ?_; (case ho => rfl); (case hg => rfl); (case hn => rfl); (case hr => first | (go_simp; done) | (go_simp; rfl) | (have hq0_ := (blk_cell BK172.out 0).trans (show _ = some _ from rfl); have hf0_ := blk_frozen BK172.out 0; have hq1_ := (blk_cell BK172.out 1).trans (show _ = some _ from rfl); have hf1_ := blk_frozen BK172.out 1; have hq2_ := (blk_cell BK172.out 2).trans (show _ = some _ from rfl); have hf2_ := blk_frozen BK172.out 2; first | (go_simp; done) | (go_simp; rfl))); intro w172 hw; replace HO_176002 : Aside0 (Kd.R k48 48 w172 w.heap.size (fun _ => True) (.slice Ao168 x176002_2.length co168) x176002_2) := ⟨(by rw [hw]; exact (by (with_reducible repeat (first | apply Kd.R_alloc | apply Kd.R_drewN | apply Kd.R_drew)); exact Kd.R_mono (Kd.R_far (p := ⟨gb172, 2, none⟩) (Kd.R_far (p := ⟨gb172, 1, none⟩) (Kd.R_far (p := ⟨gb172, 0, none⟩) (Kd.R_types HO_176002.out BK172.out (by decide)) (fun _ hk => hk.2) (.int .i64 a1_0)) (fun _ hk => hk.2) (.int .i64 (wrap64 (a1_1 + 1)))) (fun _ hk => hk.2) (.slice Ao168 x176002_2.length co168)) (fun _ hk => trivial)))⟩; replace BK170 : Aside0 (w172.heap[gb170]? = some (.cells #[.int .i64 a0_0, .int .i64 a0_1, .int .i64 a0_2, .int .i64 a0_3, .int .i64 a0_4, .int .i64 a0_5, .int .i64 a0_6] 26 (0, 0))) := ⟨(by rw [hw]; exact (bF NB170_172.out BK170.out))⟩; replace BK171 : Aside0 (w172.heap[gb171]? = some (.cells #[.int .i64 a1_0, .int .i64 a1_1, .slice A1_2 l1_2.length c1_2] 35 (0, 0))) := ⟨(by rw [hw]; exact (bF NB171_172.out BK171.out))⟩; replace BK172 : Aside0 (w172.heap[gb172]? = some (.cells #[.int .i64 a1_0, .int .i64 (wrap64 (a1_1 + 1)), .slice Ao168 x176002_2.length co168] 35 (0, 0))) := ⟨(by rw [hw]; exact (by refine bU ?_; refine blk_put (cs := #[.int .i64 a1_0, .int .i64 (wrap64 (a1_1 + 1)), .slice none 0 0]) ?_ 2 _ rfl; refine bU ?_; refine blk_put (cs := #[.int .i64 a1_0, .int .i64 0, .slice none 0 0]) ?_ 1 _ rfl; refine bU ?_; refine blk_put (cs := #[.int .i64 0, .int .i64 0, .slice none 0 0]) ?_ 0 _ rfl; refine bU ?_; exact BK172.out))⟩; replace BK175 : Aside0 (w172.heap[gb175]? = some (.cells #[.int .i64 a1_0, .int .i64 (wrap64 (a1_1 + 1)), .slice Ao168 x176002_2.length co168] 35 (0, 0))) := ⟨(by rw [hw]; exact (bF NB175_172.out BK175.out))⟩; replace HB : Aside0 (Below w.heap.size w w172) := ⟨(by rw [hw]; exact (lU4 GE170.out GE171.out GE172.out GE175.out))⟩; clear hw))
          refine bodyPost_ret (results_ct rfl _ _ gb172 35 #[.int .i64 a1_0, .int .i64 (wrap64 (a1_1 + 1)), .slice Ao168 x176002_2.length co168] (0, 0) _ rfl (bU BK172.out) Try.underlying35 rfl (by kernel_rfl)) rfl ?_
          exact ⟨_, eE, by (with_reducible repeat (first | apply Kd.R_alloc | apply Kd.R_drewN | apply Kd.R_drew)); exact HO_176002.out, lU4 GE170.out GE171.out GE172.out GE175.out⟩
         ·replace c158 := Bool.eq_false_iff.mpr c158
          subst c158
          have H1 : (some (0, 0, ([] : List (S48)), false)) = some (r1, r2, r3, r4) := by rw [if_neg (show ¬ (false = true) by decide)] at H; exact H
          clear H
          have H := H1
          clear H1
          simp only [Option.some.injEq, Prod.mk.injEq] at H
          obtain ⟨rfl, rfl, rfl, rfl⟩ := H
          have hnb173 := NB171_170.out
          have hnc173 := NB170_171.out
          have hnb174 := NB171_172.out
          have hnc174 := NB172_171.out
          have hnb175 := NB171_175.out
          have hnc175 := NB175_171.out
          have hcz176_0 : wr.cell? ⟨gb171, 0, none⟩ = some (.int .i64 a1_0) := (blk_cell BK171.out 0).trans rfl
          have hcz176_1 : wr.cell? ⟨gb171, 1, none⟩ = some (.int .i64 a1_1) := (blk_cell BK171.out 1).trans rfl
          have hcz176_2 : wr.cell? ⟨gb171, 2, none⟩ = some (.slice A1_2 l1_2.length c1_2) := (blk_cell BK171.out 2).trans rfl
          have hfz176_0 := blk_frozen BK171.out 0
          have hfz176_1 := blk_frozen BK171.out 1
          have hfz176_2 := blk_frozen BK171.out 2
          have hnb177 := NB170_172.out
          have hnc177 := NB172_170.out
          have hnb178 := NB170_175.out
          have hnc178 := NB175_170.out
          have hcz179_0 : wr.cell? ⟨gb170, 0, none⟩ = some (.int .i64 a0_0) := (blk_cell BK170.out 0).trans rfl
          have hcz179_1 : wr.cell? ⟨gb170, 1, none⟩ = some (.int .i64 a0_1) := (blk_cell BK170.out 1).trans rfl
          have hcz179_2 : wr.cell? ⟨gb170, 2, none⟩ = some (.int .i64 a0_2) := (blk_cell BK170.out 2).trans rfl
          have hcz179_3 : wr.cell? ⟨gb170, 3, none⟩ = some (.int .i64 a0_3) := (blk_cell BK170.out 3).trans rfl
          have hcz179_4 : wr.cell? ⟨gb170, 4, none⟩ = some (.int .i64 a0_4) := (blk_cell BK170.out 4).trans rfl
          have hcz179_5 : wr.cell? ⟨gb170, 5, none⟩ = some (.int .i64 a0_5) := (blk_cell BK170.out 5).trans rfl
          have hcz179_6 : wr.cell? ⟨gb170, 6, none⟩ = some (.int .i64 a0_6) := (blk_cell BK170.out 6).trans rfl
          have hfz179_0 := blk_frozen BK170.out 0
          have hfz179_1 := blk_frozen BK170.out 1
          have hfz179_2 := blk_frozen BK170.out 2
          have hfz179_3 := blk_frozen BK170.out 3
          have hfz179_4 := blk_frozen BK170.out 4
          have hfz179_5 := blk_frozen BK170.out 5
          have hfz179_6 := blk_frozen BK170.out 6
          have hnb180 := NB175_172.out
          have hnc180 := NB172_175.out
          have hcz181_0 : wr.cell? ⟨gb175, 0, none⟩ = some (.int .i64 a1_0) := (blk_cell BK175.out 0).trans rfl
          have hcz181_1 : wr.cell? ⟨gb175, 1, none⟩ = some (.int .i64 (wrap64 (a1_1 + 1))) := (blk_cell BK175.out 1).trans rfl
          have hcz181_2 : wr.cell? ⟨gb175, 2, none⟩ = some (u176002) := (blk_cell BK175.out 2).trans rfl
          have hfz181_0 := blk_frozen BK175.out 0
          have hfz181_1 := blk_frozen BK175.out 1
          have hfz181_2 := blk_frozen BK175.out 2
          obtain ⟨Ao182, co182, eo182⟩ := Kd.R_slice HO_176002.out
          subst eo182
          go_wp2_with (first | ((with_reducible refine gate_callee (f := 20) rfl ?_); refine goesL_ (some 133) rfl rfl Try.func20 (by kernel_rfl) rfl #[.agg #[.int .i64 a1_0, .int .i64 (wrap64 (a1_1 + 1)), .slice Ao182 x176002_2.length co182]] rfl aE ?_; (with_reducible refine (spec_GoodCloud.calls k2 a1_0 (wrap64 (a1_1 + 1)) _ _ x176002_2 false _ ?side1 ?side2 A157.out).mono ?_); (case side1 => exact cU (Kd.R_reads' HO_176002.out).2.2); (case side2 => exact (Kd.R_reads' HO_176002.out).2.1); rintro e w183 ⟨rfl, hb⟩; refine ⟨_, rfl, ?_⟩; replace HO_176002 := Aside0.mk (Kd.R_below (rU HO_176002.out) hb); replace BK170 := Aside0.mk (blk_below (bU BK170.out) hb); replace BK171 := Aside0.mk (blk_below (bU BK171.out) hb); replace BK172 := Aside0.mk (blk_below (bU BK172.out) hb); replace BK175 := Aside0.mk (blk_below (bU BK175.out) hb); replace HB := Aside0.mk (below_step (lU4 GE170.out GE171.out GE172.out GE175.out) hb); (try clear hb); (try clear hb2); (try clear hk); (try clear hi); have hcz184_0 : w183.cell? ⟨gb172, 0, none⟩ = some (.int .i64 0) := (blk_cell BK172.out 0).trans rfl; have hcz184_1 : w183.cell? ⟨gb172, 1, none⟩ = some (.int .i64 0) := (blk_cell BK172.out 1).trans rfl; have hcz184_2 : w183.cell? ⟨gb172, 2, none⟩ = some (.slice none 0 0) := (blk_cell BK172.out 2).trans rfl; have hfz184_0 := blk_frozen BK172.out 0; have hfz184_1 := blk_frozen BK172.out 1; have hfz184_2 := blk_frozen BK172.out 2) | ((with_reducible refine gate_store (t := 35) (p := 4) rfl ?_); refine store_event (t := 35) (p := 4) (v := ?vo_w185) (w1 := (((w183.setCell ⟨gb172, 0, none⟩ (.int .i64 0)).setCell ⟨gb172, 1, none⟩ (.int .i64 0)).setCell ⟨gb172, 2, none⟩ (.slice none 0 0))) ?hg ?ho ?hn ?hr ?_; (case ho => rfl); (case hg => rfl); (case hn => rfl); (case hr => first | (go_simp; done) | (go_simp; rfl) | (have hq0_ := (blk_cell BK172.out 0).trans (show _ = some _ from rfl); have hf0_ := blk_frozen BK172.out 0; have hq1_ := (blk_cell BK172.out 1).trans (show _ = some _ from rfl); have hf1_ := blk_frozen BK172.out 1; have hq2_ := (blk_cell BK172.out 2).trans (show _ = some _ from rfl); have hf2_ := blk_frozen BK172.out 2; first | (go_simp; done) | (go_simp; rfl))); intro w185 hw; replace HO_176002 : Aside0 (Kd.R k48 48 w185 w.heap.size (fun _ => True) (.slice Ao182 x176002_2.length co182) x176002_2) := ⟨(by rw [hw]; exact (by (with_reducible repeat (first | apply Kd.R_alloc | apply Kd.R_drewN | apply Kd.R_drew)); exact Kd.R_mono (Kd.R_far (p := ⟨gb172, 2, none⟩) (Kd.R_far (p := ⟨gb172, 1, none⟩) (Kd.R_far (p := ⟨gb172, 0, none⟩) (Kd.R_types HO_176002.out BK172.out (by decide)) (fun _ hk => hk.2) (.int .i64 0)) (fun _ hk => hk.2) (.int .i64 0)) (fun _ hk => hk.2) (.slice none 0 0)) (fun _ hk => trivial)))⟩; replace BK170 : Aside0 (w185.heap[gb170]? = some (.cells #[.int .i64 a0_0, .int .i64 a0_1, .int .i64 a0_2, .int .i64 a0_3, .int .i64 a0_4, .int .i64 a0_5, .int .i64 a0_6] 26 (0, 0))) := ⟨(by rw [hw]; exact (bF NB170_172.out BK170.out))⟩; replace BK171 : Aside0 (w185.heap[gb171]? = some (.cells #[.int .i64 a1_0, .int .i64 a1_1, .slice A1_2 l1_2.length c1_2] 35 (0, 0))) := ⟨(by rw [hw]; exact (bF NB171_172.out BK171.out))⟩; replace BK172 : Aside0 (w185.heap[gb172]? = some (.cells #[.int .i64 0, .int .i64 0, .slice none 0 0] 35 (0, 0))) := ⟨(by rw [hw]; exact (by refine bU ?_; refine blk_put (cs := #[.int .i64 0, .int .i64 0, .slice none 0 0]) ?_ 2 _ rfl; refine bU ?_; refine blk_put (cs := #[.int .i64 0, .int .i64 0, .slice none 0 0]) ?_ 1 _ rfl; refine bU ?_; refine blk_put (cs := #[.int .i64 0, .int .i64 0, .slice none 0 0]) ?_ 0 _ rfl; refine bU ?_; exact BK172.out))⟩; replace BK175 : Aside0 (w185.heap[gb175]? = some (.cells #[.int .i64 a1_0, .int .i64 (wrap64 (a1_1 + 1)), .slice Ao182 x176002_2.length co182] 35 (0, 0))) := ⟨(by rw [hw]; exact (bF NB175_172.out BK175.out))⟩; replace HB : Aside0 (Below w.heap.size w w185) := ⟨(by rw [hw]; exact (lU4 GE170.out GE171.out GE172.out GE175.out))⟩; clear hw))
          refine bodyPost_ret (results_ct rfl _ _ gb172 35 #[.int .i64 0, .int .i64 0, .slice none 0 0] (0, 0) _ rfl (bU BK172.out) Try.underlying35 rfl (by kernel_rfl)) rfl ?_
          exact ⟨_, eE, by first | exact Kd.R_nil _ _ _ _ _ | exact Kd.N_nil _ _ _ _ _ | exact Kd.V_nil _ _ _ _ _ | exact Kd.Q_nil _ _ _ _ _ | exact Kd.S_nil _ _ _ _ _, lU4 GE170.out GE171.out GE172.out GE175.out⟩
end Go.Proofs.Ythgfobcckoedaaa.PFnExactStepCloud
