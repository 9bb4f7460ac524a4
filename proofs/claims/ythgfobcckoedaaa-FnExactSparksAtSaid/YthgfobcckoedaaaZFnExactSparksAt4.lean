/- Texts of the row of the law FnExactSparksAt, laid together. -/
import Derived.Test.YthgfobcckoedaaaZFnExactSparksAt3
namespace Go.Proofs.Ythgfobcckoedaaa.PFnExactSparksAt
open Go.RowKit Go.Proofs.YthgfobcckoedaaaW.PrintWords Go.Proofs.YthgfobcckoedaaaW.PrintLast Go.Proofs.YthgfobcckoedaaaW.PrintMore
attribute [local go_sem] max2_int min2_int max_two min_two max_three min_three max_four min_four   -- for this text's walks alone
set_option linter.unusedVariables false
set_option linter.unusedSimpArgs false
mutual
def spec_StepCloud.j0 : Nat → Bool → Int → Int → Int → Int → Int → Int → Int → Int → Int → List (S48) → Option (Int × Int × (List (S48)) × Bool)
 | 0, _, _, _, _, _, _, _, _, _, _, _ => none
 | k + 1, x27, x166000, x166001, x166002, x166003, x166004, x166005, x166006, x167000, x167001, x167002 => if x27 = true then (some (0, 0, ([] : List (S48)), false)) else (spec_StepCloud.l0 k x167002 (x167002.length : Int) 0 x166000 x166001 x166002 x166003 x166004 x166005 x166006 x167000 x167001 x167002 x167000 (wrap64 (x167001 + 1)) ([] : List (S48)))
def spec_StepCloud.l0 : Nat → List (S48) → Int → Int → Int → Int → Int → Int → Int → Int → Int → Int → Int → List (S48) → Int → Int → List (S48) → Option (Int × Int × (List (S48)) × Bool)
 | 0, _, _, _, _, _, _, _, _, _, _, _, _, _, _, _, _ => none
 | k + 1, x36, x37, x38, x166000, x166001, x166002, x166003, x166004, x166005, x166006, x167000, x167001, x167002, x171000, x171001, x171002 => if x38 < x37 then (if 0 ≤ x38 then (if x38 < (x36.length : Int) then (if (wrap64 (((rd_T48 x36 x38).f4) - 1)) = 0 then (spec_StepCloud.l0 k x36 x37 (wrap64 (x38 + 1)) x166000 x166001 x166002 x166003 x166004 x166005 x166006 x167000 x167001 x167002 x171000 x171001 x171002) else (if x171002.length < 3518437208883 then (spec_StepCloud.l0 k x36 x37 (wrap64 (x38 + 1)) x166000 x166001 x166002 x166003 x166004 x166005 x166006 x167000 x167001 x167002 x171000 x171001 (x171002 ++ [(⟨wrap64 (((rd_T48 x36 x38).f0) + ((rd_T48 x36 x38).f2)), wrap64 (((rd_T48 x36 x38).f1) + ((rd_T48 x36 x38).f3)), (rd_T48 x36 x38).f2, wrap64 (((rd_T48 x36 x38).f3) - x166006), wrap64 (((rd_T48 x36 x38).f4) - 1)⟩ : S48)])) else (none))) else (none)) else (none)) else (if x166002 = 0 then (none) else (if (Int.tmod x167001 x166002) = 0 then (spec_StepCloud.l1 k 0 x166000 x166001 x166002 x166003 x166004 x166005 x166006 x171000 x171001 x171002) else ((spec_GoodCloud.f k x171000 x171001 x171002).bind fun t188 => (if t188 = true then (some (x171000, x171001, x171002, true)) else (some (0, 0, ([] : List (S48)), false))))))
def spec_StepCloud.l1 : Nat → Int → Int → Int → Int → Int → Int → Int → Int → Int → Int → List (S48) → Option (Int × Int × (List (S48)) × Bool)
 | 0, _, _, _, _, _, _, _, _, _, _, _ => none
 | k + 1, x9, x166000, x166001, x166002, x166003, x166004, x166005, x166006, x171000, x171001, x171002 => if x9 < x166003 then (spec_StepCloud.j3 k x9 (decide ((x171002.length : Int) < 60)) x166000 x166001 x166002 x166003 x166004 x166005 x166006 x171000 x171001 x171002) else (spec_StepCloud.j3 k x9 false x166000 x166001 x166002 x166003 x166004 x166005 x166006 x171000 x171001 x171002)
def spec_StepCloud.j3 : Nat → Int → Bool → Int → Int → Int → Int → Int → Int → Int → Int → Int → List (S48) → Option (Int × Int × (List (S48)) × Bool)
 | 0, _, _, _, _, _, _, _, _, _, _, _, _ => none
 | k + 1, x9, x89, x166000, x166001, x166002, x166003, x166004, x166005, x166006, x171000, x171001, x171002 => if x89 = true then ((spec_l1Coin.f x171000).bind fun bt177 => ((spec_l1Coin.f bt177.1).bind fun bt179 => ((spec_CosOf.f k (Int.tmod bt177.2 4096)).bind fun t181 => ((spec_FixMul.f k (wrap64 (Int.tdiv (wrap64 (x166005 * bt179.2)) 32768)) t181).bind fun t182 => ((spec_SinOf.f k (Int.tmod bt177.2 4096)).bind fun t183 => ((spec_FixMul.f k (wrap64 (Int.tdiv (wrap64 (x166005 * bt179.2)) 32768)) t183).bind fun t184 => (if x171002.length < 3518437208883 then (spec_StepCloud.l1 k (wrap64 (x9 + 1)) x166000 x166001 x166002 x166003 x166004 x166005 x166006 bt179.1 x171001 (x171002 ++ [(⟨x166000, x166001, t182, t184, x166004⟩ : S48)])) else (none)))))))) else ((spec_GoodCloud.f k x171000 x171001 x171002).bind fun t176 => (if t176 = true then (some (x171000, x171001, x171002, true)) else (some (0, 0, ([] : List (S48)), false))))
end
def spec_StepCloud.f (k : Nat) (a0_0 : Int) (a0_1 : Int) (a0_2 : Int) (a0_3 : Int) (a0_4 : Int) (a0_5 : Int) (a0_6 : Int) (a1_0 : Int) (a1_1 : Int) (l1_2 : List (S48)) : Option (Int × Int × (List (S48)) × Bool) := (spec_GoodEmitter.f a0_0 a0_1 a0_2 a0_3 a0_4 a0_5 a0_6).bind fun t168 => (if t168 = true then ((spec_GoodCloud.f k a1_0 a1_1 l1_2).bind fun t169 => (if t169 = true then (spec_StepCloud.j0 k (a1_1 == 200) a0_0 a0_1 a0_2 a0_3 a0_4 a0_5 a0_6 a1_0 a1_1 l1_2) else (spec_StepCloud.j0 k true a0_0 a0_1 a0_2 a0_3 a0_4 a0_5 a0_6 a1_0 a1_1 l1_2))) else (spec_StepCloud.j0 k true a0_0 a0_1 a0_2 a0_3 a0_4 a0_5 a0_6 a1_0 a1_1 l1_2))
theorem spec_StepCloud.mono_l : ∀ k, (∀ y0 y1 y2 y3 y4 y5 y6 y7 y8 y9 y10, LeO (spec_StepCloud.j0 k y0 y1 y2 y3 y4 y5 y6 y7 y8 y9 y10) (spec_StepCloud.j0 (k + 1) y0 y1 y2 y3 y4 y5 y6 y7 y8 y9 y10)) ∧ (∀ y0 y1 y2 y3 y4 y5 y6 y7 y8 y9 y10 y11 y12 y13 y14 y15, LeO (spec_StepCloud.l0 k y0 y1 y2 y3 y4 y5 y6 y7 y8 y9 y10 y11 y12 y13 y14 y15) (spec_StepCloud.l0 (k + 1) y0 y1 y2 y3 y4 y5 y6 y7 y8 y9 y10 y11 y12 y13 y14 y15)) ∧ (∀ y0 y1 y2 y3 y4 y5 y6 y7 y8 y9 y10, LeO (spec_StepCloud.l1 k y0 y1 y2 y3 y4 y5 y6 y7 y8 y9 y10) (spec_StepCloud.l1 (k + 1) y0 y1 y2 y3 y4 y5 y6 y7 y8 y9 y10)) ∧ (∀ y0 y1 y2 y3 y4 y5 y6 y7 y8 y9 y10 y11, LeO (spec_StepCloud.j3 k y0 y1 y2 y3 y4 y5 y6 y7 y8 y9 y10 y11) (spec_StepCloud.j3 (k + 1) y0 y1 y2 y3 y4 y5 y6 y7 y8 y9 y10 y11))
 | 0 => ⟨fun _ _ _ _ _ _ _ _ _ _ _ r h => by simp [spec_StepCloud.j0] at h, fun _ _ _ _ _ _ _ _ _ _ _ _ _ _ _ _ r h => by simp [spec_StepCloud.l0] at h, fun _ _ _ _ _ _ _ _ _ _ _ r h => by simp [spec_StepCloud.l1] at h, fun _ _ _ _ _ _ _ _ _ _ _ _ r h => by simp [spec_StepCloud.j3] at h⟩
 | k + 1 => by
  obtain ⟨ih0, ih1, ih2, ih3⟩ := spec_StepCloud.mono_l k
  refine ⟨?_, ?_, ?_, ?_⟩
  ·intro y0 y1 y2 y3 y4 y5 y6 y7 y8 y9 y10
   unfold spec_StepCloud.j0
   repeat' first
   | (with_reducible exact ih0 _ _ _ _ _ _ _ _ _ _ _)
   | (with_reducible exact ih1 _ _ _ _ _ _ _ _ _ _ _ _ _ _ _ _)
   | (with_reducible exact ih2 _ _ _ _ _ _ _ _ _ _ _)
   | (with_reducible exact ih3 _ _ _ _ _ _ _ _ _ _ _ _)
   | (with_reducible exact spec_CosOf.mono _ _)
   | (with_reducible exact spec_FixMul.mono _ _ _)
   | (with_reducible exact spec_GoodCloud.mono _ _ _ _)
   | (with_reducible exact spec_SinOf.mono _ _)
   | (with_reducible exact LeO.refl _)
   | (with_reducible exact LeO.none _)
   | (with_reducible refine LeO.ite ?_ ?_)
   | (with_reducible refine LeO.bind ?_ (fun _ => ?_))
   | exact ih0 _ _ _ _ _ _ _ _ _ _ _
   | exact ih1 _ _ _ _ _ _ _ _ _ _ _ _ _ _ _ _
   | exact ih2 _ _ _ _ _ _ _ _ _ _ _
   | exact ih3 _ _ _ _ _ _ _ _ _ _ _ _
   | exact spec_CosOf.mono _ _
   | exact spec_FixMul.mono _ _ _
   | exact spec_GoodCloud.mono _ _ _ _
   | exact spec_SinOf.mono _ _
   | exact LeO.none _
   | refine LeO.ite ?_ ?_
   | refine LeO.bind ?_ (fun _ => ?_)
  ·intro y0 y1 y2 y3 y4 y5 y6 y7 y8 y9 y10 y11 y12 y13 y14 y15
   unfold spec_StepCloud.l0
   repeat' first
   | (with_reducible exact ih0 _ _ _ _ _ _ _ _ _ _ _)
   | (with_reducible exact ih1 _ _ _ _ _ _ _ _ _ _ _ _ _ _ _ _)
   | (with_reducible exact ih2 _ _ _ _ _ _ _ _ _ _ _)
   | (with_reducible exact ih3 _ _ _ _ _ _ _ _ _ _ _ _)
   | (with_reducible exact spec_CosOf.mono _ _)
   | (with_reducible exact spec_FixMul.mono _ _ _)
   | (with_reducible exact spec_GoodCloud.mono _ _ _ _)
   | (with_reducible exact spec_SinOf.mono _ _)
   | (with_reducible exact LeO.refl _)
   | (with_reducible exact LeO.none _)
   | (with_reducible refine LeO.ite ?_ ?_)
   | (with_reducible refine LeO.bind ?_ (fun _ => ?_))
   | exact ih0 _ _ _ _ _ _ _ _ _ _ _
   | exact ih1 _ _ _ _ _ _ _ _ _ _ _ _ _ _ _ _
   | exact ih2 _ _ _ _ _ _ _ _ _ _ _
   | exact ih3 _ _ _ _ _ _ _ _ _ _ _ _
   | exact spec_CosOf.mono _ _
   | exact spec_FixMul.mono _ _ _
   | exact spec_GoodCloud.mono _ _ _ _
   | exact spec_SinOf.mono _ _
   | exact LeO.none _
   | refine LeO.ite ?_ ?_
   | refine LeO.bind ?_ (fun _ => ?_)
  ·intro y0 y1 y2 y3 y4 y5 y6 y7 y8 y9 y10
   unfold spec_StepCloud.l1
   repeat' first
   | (with_reducible exact ih0 _ _ _ _ _ _ _ _ _ _ _)
   | (with_reducible exact ih1 _ _ _ _ _ _ _ _ _ _ _ _ _ _ _ _)
   | (with_reducible exact ih2 _ _ _ _ _ _ _ _ _ _ _)
   | (with_reducible exact ih3 _ _ _ _ _ _ _ _ _ _ _ _)
   | (with_reducible exact spec_CosOf.mono _ _)
   | (with_reducible exact spec_FixMul.mono _ _ _)
   | (with_reducible exact spec_GoodCloud.mono _ _ _ _)
   | (with_reducible exact spec_SinOf.mono _ _)
   | (with_reducible exact LeO.refl _)
   | (with_reducible exact LeO.none _)
   | (with_reducible refine LeO.ite ?_ ?_)
   | (with_reducible refine LeO.bind ?_ (fun _ => ?_))
   | exact ih0 _ _ _ _ _ _ _ _ _ _ _
   | exact ih1 _ _ _ _ _ _ _ _ _ _ _ _ _ _ _ _
   | exact ih2 _ _ _ _ _ _ _ _ _ _ _
   | exact ih3 _ _ _ _ _ _ _ _ _ _ _ _
   | exact spec_CosOf.mono _ _
   | exact spec_FixMul.mono _ _ _
   | exact spec_GoodCloud.mono _ _ _ _
   | exact spec_SinOf.mono _ _
   | exact LeO.none _
   | refine LeO.ite ?_ ?_
   | refine LeO.bind ?_ (fun _ => ?_)
  ·intro y0 y1 y2 y3 y4 y5 y6 y7 y8 y9 y10 y11
   unfold spec_StepCloud.j3
   repeat' first
   | (with_reducible exact ih0 _ _ _ _ _ _ _ _ _ _ _)
   | (with_reducible exact ih1 _ _ _ _ _ _ _ _ _ _ _ _ _ _ _ _)
   | (with_reducible exact ih2 _ _ _ _ _ _ _ _ _ _ _)
   | (with_reducible exact ih3 _ _ _ _ _ _ _ _ _ _ _ _)
   | (with_reducible exact spec_CosOf.mono _ _)
   | (with_reducible exact spec_FixMul.mono _ _ _)
   | (with_reducible exact spec_GoodCloud.mono _ _ _ _)
   | (with_reducible exact spec_SinOf.mono _ _)
   | (with_reducible exact LeO.refl _)
   | (with_reducible exact LeO.none _)
   | (with_reducible refine LeO.ite ?_ ?_)
   | (with_reducible refine LeO.bind ?_ (fun _ => ?_))
   | exact ih0 _ _ _ _ _ _ _ _ _ _ _
   | exact ih1 _ _ _ _ _ _ _ _ _ _ _ _ _ _ _ _
   | exact ih2 _ _ _ _ _ _ _ _ _ _ _
   | exact ih3 _ _ _ _ _ _ _ _ _ _ _ _
   | exact spec_CosOf.mono _ _
   | exact spec_FixMul.mono _ _ _
   | exact spec_GoodCloud.mono _ _ _ _
   | exact spec_SinOf.mono _ _
   | exact LeO.none _
   | refine LeO.ite ?_ ?_
   | refine LeO.bind ?_ (fun _ => ?_)
theorem spec_StepCloud.mono : ∀ a0 a1 a2 a3 a4 a5 a6 a7 a8 a9 k, LeO (spec_StepCloud.f k a0 a1 a2 a3 a4 a5 a6 a7 a8 a9) (spec_StepCloud.f (k + 1) a0 a1 a2 a3 a4 a5 a6 a7 a8 a9) := by
 intro a0 a1 a2 a3 a4 a5 a6 a7 a8 a9 k
 obtain ⟨ih0, ih1, ih2, ih3⟩ := spec_StepCloud.mono_l k
 unfold spec_StepCloud.f
 repeat' first
   | (with_reducible exact ih0 _ _ _ _ _ _ _ _ _ _ _)
   | (with_reducible exact ih1 _ _ _ _ _ _ _ _ _ _ _ _ _ _ _ _)
   | (with_reducible exact ih2 _ _ _ _ _ _ _ _ _ _ _)
   | (with_reducible exact ih3 _ _ _ _ _ _ _ _ _ _ _ _)
   | (with_reducible exact spec_CosOf.mono _ _)
   | (with_reducible exact spec_FixMul.mono _ _ _)
   | (with_reducible exact spec_GoodCloud.mono _ _ _ _)
   | (with_reducible exact spec_SinOf.mono _ _)
   | (with_reducible exact LeO.refl _)
   | (with_reducible exact LeO.none _)
   | (with_reducible refine LeO.ite ?_ ?_)
   | (with_reducible refine LeO.bind ?_ (fun _ => ?_))
   | exact ih0 _ _ _ _ _ _ _ _ _ _ _
   | exact ih1 _ _ _ _ _ _ _ _ _ _ _ _ _ _ _ _
   | exact ih2 _ _ _ _ _ _ _ _ _ _ _
   | exact ih3 _ _ _ _ _ _ _ _ _ _ _ _
   | exact spec_CosOf.mono _ _
   | exact spec_FixMul.mono _ _ _
   | exact spec_GoodCloud.mono _ _ _ _
   | exact spec_SinOf.mono _ _
   | exact LeO.none _
   | refine LeO.ite ?_ ?_
   | refine LeO.bind ?_ (fun _ => ?_)
def spec_StepCloud.T22 : Bool × List (List Nat × List Nat) := (true, [([], []), ([0], [0]), ([], []), ([2], [2]), ([], []), ([4], [4]), ([], []), ([], []), ([7], [7]), ([8], [8]), ([6, 9, 9], [6, 9]), ([], []), ([], []), ([12], [12]), ([13, 10], [13]), ([11, 14, 14], [11, 14]), ([], []), ([16], [16]), ([3, 5, 10, 15, 17], [3, 5, 10, 15, 17]), ([18], [18]), ([1, 19, 15], [1, 19]), ([0, 1, 2, 3, 4, 5, 6, 7, 8, 9, 10, 11, 12, 13, 14, 15, 16, 17, 18, 19, 20], []), ([21, 20, 20, 0, 1, 2, 3, 4, 5, 6, 7, 8, 9, 10, 11, 12, 13, 14, 15, 16, 17, 18, 19, 20], [20, 21])])
def spec_StepCloud.B22 : List Nat := [0, 1, 0, 4, 0, 16, 0, 0, 128, 384, 960, 0, 0, 4096, 14272, 32704, 0, 65536, 262140, 524284, 1048575, 2097151, 4194303]
theorem spec_StepCloud.tab22 : rtab .any (opsOf Try.f10 22) = spec_StepCloud.T22 := by kernel_rfl
theorem spec_StepCloud.bits22 : waitsOk spec_StepCloud.T22.2 spec_StepCloud.B22 = true := by kernel_rfl
set_option maxHeartbeats 8000000 in
set_option maxRecDepth 100000 in
theorem spec_StepCloud.calls (k : Nat) (a0_0 : Int) (a0_1 : Int) (a0_2 : Int) (a0_3 : Int) (a0_4 : Int) (a0_5 : Int) (a0_6 : Int) (a1_0 : Int) (a1_1 : Int) (A1_2 : Option Addr) (c1_2 : Nat) (l1_2 : List (S48)) (r1 : Int) (r2 : Int) (r3 : List (S48)) (r4 : Bool) (w : World) (hr1_2 : Kd.C k48 w A1_2 l1_2.length l1_2) (hc1_2 : l1_2.length ≤ c1_2) (h : spec_StepCloud.f k a0_0 a0_1 a0_2 a0_3 a0_4 a0_5 a0_6 a1_0 a1_1 l1_2 = some (r1, r2, r3, r4)) :
  Calls Try.prog 10 #[.agg #[.int .i64 a0_0, .int .i64 a0_1, .int .i64 a0_2, .int .i64 a0_3, .int .i64 a0_4, .int .i64 a0_5, .int .i64 a0_6], .agg #[.int .i64 a1_0, .int .i64 a1_1, .slice A1_2 l1_2.length c1_2]] w fun e w' => ∃ v2_ : Value, e = .returned (.tuple #[.agg #[.int .i64 r1, .int .i64 r2, v2_], .bool r4]) ∧ Kd.R k48 48 w' w.heap.size (fun _ => True) v2_ r3 ∧ Below w.heap.size w w' := by
 have hu26 := Try.underlying26
 have hu35 := Try.underlying35
 have hu48 := Try.underlying48
 have HR1_2 := Aside0.mk hr1_2
 have HC1_2 := Aside0.mk hc1_2
 clear hr1_2 hc1_2
 have HB := Aside0.mk (Below.refl w.heap.size w)
 have H : ((spec_GoodEmitter.f a0_0 a0_1 a0_2 a0_3 a0_4 a0_5 a0_6).bind fun t168 => (if t168 = true then ((spec_GoodCloud.f k a1_0 a1_1 l1_2).bind fun t169 => (if t169 = true then (spec_StepCloud.j0 k (a1_1 == 200) a0_0 a0_1 a0_2 a0_3 a0_4 a0_5 a0_6 a1_0 a1_1 l1_2) else (spec_StepCloud.j0 k true a0_0 a0_1 a0_2 a0_3 a0_4 a0_5 a0_6 a1_0 a1_1 l1_2))) else (spec_StepCloud.j0 k true a0_0 a0_1 a0_2 a0_3 a0_4 a0_5 a0_6 a1_0 a1_1 l1_2))) = some (r1, r2, r3, r4) := h
 clear h
 have HC3 := Aside0.mk H
 clear H
 go_enter Try.func10, Try.ntmps10
 go_upto_region 1 with (first | ((with_reducible refine gate_dst (N := 2) rfl ?_); (try (refine gate_guard (by rfl) ?_; dsimp only)); refine box_event rfl (N := 2) rfl (cs := #[.int .i64 a0_0, .int .i64 a0_1, .int .i64 a0_2, .int .i64 a0_3, .int .i64 a0_4, .int .i64 a0_5, .int .i64 a0_6]) (t := 26) sE ?_; intro gb165 hg w4 hbox hb; have BK165 := Aside0.mk hbox; have GW165 := gS w hg (lU); have GE165 := gS w hg (lU); replace HB := bH (lU) hb; clear hb hbox hg) | ((with_reducible refine gate_dst (N := 3) rfl ?_); (try (refine gate_guard (by rfl) ?_; dsimp only)); refine box_event rfl (N := 3) rfl (cs := #[.int .i64 a1_0, .int .i64 a1_1, .slice A1_2 l1_2.length c1_2]) (t := 35) sE ?_; intro gb166 hg w5 hbox hb; have BK166 := Aside0.mk hbox; have GW166 := gS w hg (lV1 GE165); have GE166 := gS w hg (lV1 GE165); replace HB := bH (lV1 GE165) hb; have NB165_166 := nL hg (bV BK165); have NB166_165 := nG hg (bV BK165); replace BK165 := bB (bV BK165) hb; clear hb hbox hg) | ((with_reducible refine gate_dst (N := 4) rfl ?_); (try (refine gate_guard (by rfl) ?_; dsimp only)); refine box_event rfl (N := 4) rfl (cs := #[.int .i64 0, .int .i64 0, .slice none 0 0]) (t := 35) sE ?_; intro gb167 hg w6 hbox hb; have BK167 := Aside0.mk hbox; have GW167 := gS w hg (lV2 GE165 GE166); have GE167 := gS w hg (lV2 GE165 GE166); replace HB := bH (lV2 GE165 GE166) hb; have NB165_167 := nL hg (bV BK165); have NB167_165 := nG hg (bV BK165); replace BK165 := bB (bV BK165) hb; have NB166_167 := nL hg (bV BK166); have NB167_166 := nG hg (bV BK166); replace BK166 := bB (bV BK166) hb; clear hb hbox hg))
 (try simp only [Act.put, List.setIfInBounds_toArray, List.set_cons_zero, List.set_cons_succ])
 go_cut [27] (fun v27 wc => ∃ (kq : Nat) (x27_2 : Bool), v27 = .bool x27_2 ∧ Aside0 (spec_StepCloud.j0 kq x27_2 a0_0 a0_1 a0_2 a0_3 a0_4 a0_5 a0_6 a1_0 a1_1 l1_2 = some (r1, r2, r3, r4)) ∧ Aside0 (kq ≤ k) ∧ Aside0 (wc.heap[gb165]? = some (.cells #[.int .i64 a0_0, .int .i64 a0_1, .int .i64 a0_2, .int .i64 a0_3, .int .i64 a0_4, .int .i64 a0_5, .int .i64 a0_6] 26 (0, 0))) ∧ Aside0 (wc.heap[gb166]? = some (.cells #[.int .i64 a1_0, .int .i64 a1_1, (.slice A1_2 l1_2.length c1_2)] 35 (0, 0))) ∧ Aside0 (wc.heap[gb167]? = some (.cells #[.int .i64 0, .int .i64 0, (.slice none 0 0)] 35 (0, 0))) ∧ Aside0 (Below w.heap.size w wc))
 case first =>
  have H := HC3.out
  clear HC3
  replace H := Option.bind_eq_some_iff.mp H
  obtain ⟨t168, A70, H⟩ := H
  replace H : (if t168 = true then ((spec_GoodCloud.f k a1_0 a1_1 l1_2).bind fun t169 => (if t169 = true then (spec_StepCloud.j0 k (a1_1 == 200) a0_0 a0_1 a0_2 a0_3 a0_4 a0_5 a0_6 a1_0 a1_1 l1_2) else (spec_StepCloud.j0 k true a0_0 a0_1 a0_2 a0_3 a0_4 a0_5 a0_6 a1_0 a1_1 l1_2))) else (spec_StepCloud.j0 k true a0_0 a0_1 a0_2 a0_3 a0_4 a0_5 a0_6 a1_0 a1_1 l1_2)) = some (r1, r2, r3, r4) := H
  have A7 := Aside0.mk A70
  clear A70
  by_cases c8 : t168 = true
  ·subst c8
   have H1 : ((spec_GoodCloud.f k a1_0 a1_1 l1_2).bind fun t169 => (if t169 = true then (spec_StepCloud.j0 k (a1_1 == 200) a0_0 a0_1 a0_2 a0_3 a0_4 a0_5 a0_6 a1_0 a1_1 l1_2) else (spec_StepCloud.j0 k true a0_0 a0_1 a0_2 a0_3 a0_4 a0_5 a0_6 a1_0 a1_1 l1_2))) = some (r1, r2, r3, r4) := by rw [if_pos rfl] at H; exact H
   clear H
   have H := H1
   clear H1
   replace H := Option.bind_eq_some_iff.mp H
   obtain ⟨t169, A90, H⟩ := H
   replace H : (if t169 = true then (spec_StepCloud.j0 k (a1_1 == 200) a0_0 a0_1 a0_2 a0_3 a0_4 a0_5 a0_6 a1_0 a1_1 l1_2) else (spec_StepCloud.j0 k true a0_0 a0_1 a0_2 a0_3 a0_4 a0_5 a0_6 a1_0 a1_1 l1_2)) = some (r1, r2, r3, r4) := H
   have A9 := Aside0.mk A90
   clear A90
   by_cases c10 : t169 = true
   ·subst c10
    have H1 : (spec_StepCloud.j0 k (a1_1 == 200) a0_0 a0_1 a0_2 a0_3 a0_4 a0_5 a0_6 a1_0 a1_1 l1_2) = some (r1, r2, r3, r4) := by rw [if_pos rfl] at H; exact H
    clear H
    have H := H1
    clear H1
    have H' := Aside0.mk H
    clear H
    have hnb11 := NB165_166.out
    have hnc11 := NB166_165.out
    have hnb12 := NB165_167.out
    have hnc12 := NB167_165.out
    have hcz13_0 := cz BK165 0 (.int .i64 a0_0)
    have hcz13_1 := cz BK165 1 (.int .i64 a0_1)
    have hcz13_2 := cz BK165 2 (.int .i64 a0_2)
    have hcz13_3 := cz BK165 3 (.int .i64 a0_3)
    have hcz13_4 := cz BK165 4 (.int .i64 a0_4)
    have hcz13_5 := cz BK165 5 (.int .i64 a0_5)
    have hcz13_6 := cz BK165 6 (.int .i64 a0_6)
    have hfz13_0 := fz BK165 0
    have hfz13_1 := fz BK165 1
    have hfz13_2 := fz BK165 2
    have hfz13_3 := fz BK165 3
    have hfz13_4 := fz BK165 4
    have hfz13_5 := fz BK165 5
    have hfz13_6 := fz BK165 6
    go_wp2_with (first | ((with_reducible refine gate_callee (f := 19) rfl ?_); refine goesL_ (some 16) rfl rfl Try.func19 (by kernel_rfl) rfl #[.agg #[.int .i64 a0_0, .int .i64 a0_1, .int .i64 a0_2, .int .i64 a0_3, .int .i64 a0_4, .int .i64 a0_5, .int .i64 a0_6]] rfl aE ?_; (with_reducible refine (spec_GoodEmitter.calls a0_0 a0_1 a0_2 a0_3 a0_4 a0_5 a0_6 true _ A7.out).mono ?_); rintro e w14 ⟨rfl, hb⟩; refine ⟨_, rfl, ?_⟩; replace BK165 := bB (bV BK165) hb; replace BK166 := bB (bV BK166) hb; replace BK167 := bB (bV BK167) hb; replace HB := bH (lV3 GE165 GE166 GE167) hb; (try clear hb); have hnb15 := NB166_167.out; have hnc15 := NB167_166.out; have hcz16_0 := cz BK166 0 (.int .i64 a1_0); have hcz16_1 := cz BK166 1 (.int .i64 a1_1); have hcz16_2 := cz BK166 2 (.slice A1_2 l1_2.length c1_2); have hfz16_0 := fz BK166 0; have hfz16_1 := fz BK166 1; have hfz16_2 := fz BK166 2) | (go_at_call 20; (with_reducible refine (spec_GoodCloud.calls k a1_0 a1_1 _ _ l1_2 true _ ?side1 ?side2 A9.out).mono ?_); (case side1 => exact cU (Kd.C_below HR1_2.out HB.out)); (case side2 => exact HC1_2.out); rintro e w17 ⟨rfl, hb⟩; replace BK165 := bB (bV BK165) hb; replace BK166 := bB (bV BK166) hb; replace BK167 := bB (bV BK167) hb; replace HB := bH (lV3 GE165 GE166 GE167) hb; (try clear hb); have hcz18_0 := cz BK166 0 (.int .i64 a1_0); have hcz18_1 := cz BK166 1 (.int .i64 a1_1); have hcz18_2 := cz BK166 2 (.slice A1_2 l1_2.length c1_2); have hfz18_0 := fz BK166 0; have hfz18_1 := fz BK166 1; have hfz18_2 := fz BK166 2))
    go_meet
    case rel => exact ⟨_, ((a1_1 == 200)), tE, H', ⟨by first | omega | exact Nat.le_refl _⟩, ⟨by refine bU ?_; exact BK165.out⟩, ⟨by refine bU ?_; exact BK166.out⟩, ⟨by refine bU ?_; exact BK167.out⟩, ⟨by repeat (first | (with_reducible first | exact HB.out | apply below_alloc | apply pw_below_drewN | apply below_drew1 | refine below_set ?_ GE165.out | refine below_set ?_ GE166.out | refine below_set ?_ GE167.out) | exact HB.out)⟩⟩
   ·replace c10 := Bool.eq_false_iff.mpr c10
    subst c10
    have H1 : (spec_StepCloud.j0 k true a0_0 a0_1 a0_2 a0_3 a0_4 a0_5 a0_6 a1_0 a1_1 l1_2) = some (r1, r2, r3, r4) := by rw [if_neg (show ¬ (false = true) by decide)] at H; exact H
    clear H
    have H := H1
    clear H1
    have H' := Aside0.mk H
    clear H
    have hnb19 := NB165_166.out
    have hnc19 := NB166_165.out
    have hnb20 := NB165_167.out
    have hnc20 := NB167_165.out
    have hcz21_0 := cz BK165 0 (.int .i64 a0_0)
    have hcz21_1 := cz BK165 1 (.int .i64 a0_1)
    have hcz21_2 := cz BK165 2 (.int .i64 a0_2)
    have hcz21_3 := cz BK165 3 (.int .i64 a0_3)
    have hcz21_4 := cz BK165 4 (.int .i64 a0_4)
    have hcz21_5 := cz BK165 5 (.int .i64 a0_5)
    have hcz21_6 := cz BK165 6 (.int .i64 a0_6)
    have hfz21_0 := fz BK165 0
    have hfz21_1 := fz BK165 1
    have hfz21_2 := fz BK165 2
    have hfz21_3 := fz BK165 3
    have hfz21_4 := fz BK165 4
    have hfz21_5 := fz BK165 5
    have hfz21_6 := fz BK165 6
    go_wp2_with (first | ((with_reducible refine gate_callee (f := 19) rfl ?_); refine goesL_ (some 16) rfl rfl Try.func19 (by kernel_rfl) rfl #[.agg #[.int .i64 a0_0, .int .i64 a0_1, .int .i64 a0_2, .int .i64 a0_3, .int .i64 a0_4, .int .i64 a0_5, .int .i64 a0_6]] rfl aE ?_; (with_reducible refine (spec_GoodEmitter.calls a0_0 a0_1 a0_2 a0_3 a0_4 a0_5 a0_6 true _ A7.out).mono ?_); rintro e w22 ⟨rfl, hb⟩; refine ⟨_, rfl, ?_⟩; replace BK165 := bB (bV BK165) hb; replace BK166 := bB (bV BK166) hb; replace BK167 := bB (bV BK167) hb; replace HB := bH (lV3 GE165 GE166 GE167) hb; (try clear hb); have hnb23 := NB166_167.out; have hnc23 := NB167_166.out; have hcz24_0 := cz BK166 0 (.int .i64 a1_0); have hcz24_1 := cz BK166 1 (.int .i64 a1_1); have hcz24_2 := cz BK166 2 (.slice A1_2 l1_2.length c1_2); have hfz24_0 := fz BK166 0; have hfz24_1 := fz BK166 1; have hfz24_2 := fz BK166 2) | (go_at_call 20; (with_reducible refine (spec_GoodCloud.calls k a1_0 a1_1 _ _ l1_2 false _ ?side1 ?side2 A9.out).mono ?_); (case side1 => exact cU (Kd.C_below HR1_2.out HB.out)); (case side2 => exact HC1_2.out); rintro e w25 ⟨rfl, hb⟩; replace BK165 := bB (bV BK165) hb; replace BK166 := bB (bV BK166) hb; replace BK167 := bB (bV BK167) hb; replace HB := bH (lV3 GE165 GE166 GE167) hb; (try clear hb)))
    go_meet
    case rel => exact ⟨_, (true), tE, H', ⟨by first | omega | exact Nat.le_refl _⟩, ⟨by refine bU ?_; exact BK165.out⟩, ⟨by refine bU ?_; exact BK166.out⟩, ⟨by refine bU ?_; exact BK167.out⟩, ⟨by repeat (first | (with_reducible first | exact HB.out | apply below_alloc | apply pw_below_drewN | apply below_drew1 | refine below_set ?_ GE165.out | refine below_set ?_ GE166.out | refine below_set ?_ GE167.out) | exact HB.out)⟩⟩
  ·replace c8 := Bool.eq_false_iff.mpr c8
   subst c8
   have H1 : (spec_StepCloud.j0 k true a0_0 a0_1 a0_2 a0_3 a0_4 a0_5 a0_6 a1_0 a1_1 l1_2) = some (r1, r2, r3, r4) := by rw [if_neg (show ¬ (false = true) by decide)] at H; exact H
   clear H
   have H := H1
   clear H1
   have H' := Aside0.mk H
   clear H
   have hnb26 := NB165_166.out
   have hnc26 := NB166_165.out
   have hnb27 := NB165_167.out
   have hnc27 := NB167_165.out
   have hcz28_0 := cz BK165 0 (.int .i64 a0_0)
   have hcz28_1 := cz BK165 1 (.int .i64 a0_1)
   have hcz28_2 := cz BK165 2 (.int .i64 a0_2)
   have hcz28_3 := cz BK165 3 (.int .i64 a0_3)
   have hcz28_4 := cz BK165 4 (.int .i64 a0_4)
   have hcz28_5 := cz BK165 5 (.int .i64 a0_5)
   have hcz28_6 := cz BK165 6 (.int .i64 a0_6)
   have hfz28_0 := fz BK165 0
   have hfz28_1 := fz BK165 1
   have hfz28_2 := fz BK165 2
   have hfz28_3 := fz BK165 3
   have hfz28_4 := fz BK165 4
   have hfz28_5 := fz BK165 5
   have hfz28_6 := fz BK165 6
   go_wp2_with (first | ((with_reducible refine gate_callee (f := 19) rfl ?_); refine goesL_ (some 16) rfl rfl Try.func19 (by kernel_rfl) rfl #[.agg #[.int .i64 a0_0, .int .i64 a0_1, .int .i64 a0_2, .int .i64 a0_3, .int .i64 a0_4, .int .i64 a0_5, .int .i64 a0_6]] rfl aE ?_; (with_reducible refine (spec_GoodEmitter.calls a0_0 a0_1 a0_2 a0_3 a0_4 a0_5 a0_6 false _ A7.out).mono ?_); rintro e w29 ⟨rfl, hb⟩; refine ⟨_, rfl, ?_⟩; replace BK165 := bB (bV BK165) hb; replace BK166 := bB (bV BK166) hb; replace BK167 := bB (bV BK167) hb; replace HB := bH (lV3 GE165 GE166 GE167) hb; (try clear hb)))
   go_meet
   case rel => exact ⟨_, (true), tE, H', ⟨by first | omega | exact Nat.le_refl _⟩, ⟨by refine bU ?_; exact BK165.out⟩, ⟨by refine bU ?_; exact BK166.out⟩, ⟨by refine bU ?_; exact BK167.out⟩, ⟨by repeat (first | (with_reducible first | exact HB.out | apply below_alloc | apply pw_below_drewN | apply below_drew1 | refine below_set ?_ GE165.out | refine below_set ?_ GE166.out | refine below_set ?_ GE167.out) | exact HB.out)⟩⟩
 case rest =>
  clear HC3
  try clear c1
  try clear c2
  try clear p2
  try clear c8
  try clear c10
  try clear c11
  try clear c12
  try clear c15
  try clear c19
  try clear c20
  try clear c23
  try clear c26
  try clear c27
  try clear hcz13_0
  try clear hcz13_1
  try clear hcz13_2
  try clear hcz13_3
  try clear hcz13_4
  try clear hcz13_5
  try clear hcz13_6
  try clear hcz16_0
  try clear hcz16_1
  try clear hcz16_2
  try clear hcz18_0
  try clear hcz18_1
  try clear hcz18_2
  try clear hcz21_0
  try clear hcz21_1
  try clear hcz21_2
  try clear hcz21_3
  try clear hcz21_4
  try clear hcz21_5
  try clear hcz21_6
  try clear hcz24_0
  try clear hcz24_1
  try clear hcz24_2
  try clear hcz28_0
  try clear hcz28_1
  try clear hcz28_2
  try clear hcz28_3
  try clear hcz28_4
  try clear hcz28_5
  try clear hcz28_6
  try clear hfz13_0
  try clear hfz13_1
  try clear hfz13_2
  try clear hfz13_3
  try clear hfz13_4
  try clear hfz13_5
  try clear hfz13_6
  try clear hfz16_0
  try clear hfz16_1
  try clear hfz16_2
  try clear hfz18_0
  try clear hfz18_1
  try clear hfz18_2
  try clear hfz21_0
  try clear hfz21_1
  try clear hfz21_2
  try clear hfz21_3
  try clear hfz21_4
  try clear hfz21_5
  try clear hfz21_6
  try clear hfz24_0
  try clear hfz24_1
  try clear hfz24_2
  try clear hfz28_0
  try clear hfz28_1
  try clear hfz28_2
  try clear hfz28_3
  try clear hfz28_4
  try clear hfz28_5
  try clear hfz28_6
  obtain ⟨kq, x27_2, rfl, HA, HJ2, BK165, BK166, BK167, HB⟩ := hcut
  cases kq with
  | zero => exact absurd HA.out (by simp [spec_StepCloud.j0])
  | succ kj2 =>
   have H := HA.out
   clear HA
   simp only [spec_StepCloud.j0] at H
   by_cases c30 : x27_2 = true
   ·subst c30
    have H1 : (some (0, 0, ([] : List (S48)), false)) = some (r1, r2, r3, r4) := by rw [if_pos rfl] at H; exact H
    clear H
    have H := H1
    clear H1
    simp only [Option.some.injEq, Prod.mk.injEq] at H
    obtain ⟨rfl, rfl, rfl, rfl⟩ := H
    have hnb31 := NB167_165.out
    have hnc31 := NB165_167.out
    have hnb32 := NB167_166.out
    have hnc32 := NB166_167.out
    have hcz33_0 := cz BK167 0 (.int .i64 0)
    have hcz33_1 := cz BK167 1 (.int .i64 0)
    have hcz33_2 := cz BK167 2 (.slice none 0 0)
    have hfz33_0 := fz BK167 0
    have hfz33_1 := fz BK167 1
    have hfz33_2 := fz BK167 2
    go_wp2_with (first | ((with_reducible refine gate_store (t := 35) (p := 4) rfl ?_); refine store_event (t := 35) (p := 4) (v := ?vo_w34) (w1 := (((wc.setCell ⟨gb167, 0, none⟩ (.int .i64 0)).setCell ⟨gb167, 1, none⟩ (.int .i64 0)).setCell ⟨gb167, 2, none⟩ (.slice none 0 0))) ?hg ?ho ?hn ?hr ?_; (case ho => rfl); (case hg => rfl); (case hn => rfl); (case hr => first | (go_simp; done) | (go_simp; rfl) | (have hq0_ := (blk_cell BK167.out 0).trans (show _ = some _ from rfl); have hf0_ := blk_frozen BK167.out 0; have hq1_ := (blk_cell BK167.out 1).trans (show _ = some _ from rfl); have hf1_ := blk_frozen BK167.out 1; have hq2_ := (blk_cell BK167.out 2).trans (show _ = some _ from rfl); have hf2_ := blk_frozen BK167.out 2; first | (go_simp; done) | (go_simp; rfl))); intro w34 hw; replace BK165 : Aside0 (w34.heap[gb165]? = some (.cells #[.int .i64 a0_0, .int .i64 a0_1, .int .i64 a0_2, .int .i64 a0_3, .int .i64 a0_4, .int .i64 a0_5, .int .i64 a0_6] 26 (0, 0))) := ⟨(by rw [hw]; exact (bG NB165_167 BK165))⟩; replace BK166 : Aside0 (w34.heap[gb166]? = some (.cells #[.int .i64 a1_0, .int .i64 a1_1, .slice A1_2 l1_2.length c1_2] 35 (0, 0))) := ⟨(by rw [hw]; exact (bG NB166_167 BK166))⟩; replace BK167 : Aside0 (w34.heap[gb167]? = some (.cells #[.int .i64 0, .int .i64 0, .slice none 0 0] 35 (0, 0))) := ⟨(by rw [hw]; exact (by refine bU ?_; refine blk_put (cs := #[.int .i64 0, .int .i64 0, .slice none 0 0]) ?_ 2 _ rfl; refine bU ?_; refine blk_put (cs := #[.int .i64 0, .int .i64 0, .slice none 0 0]) ?_ 1 _ rfl; refine bU ?_; refine blk_put (cs := #[.int .i64 0, .int .i64 0, .slice none 0 0]) ?_ 0 _ rfl; refine bU ?_; exact BK167.out))⟩; replace HB : Aside0 (Below w.heap.size w w34) := ⟨(by rw [hw]; exact (lV3 GE165 GE166 GE167))⟩; clear hw))
    refine bodyPost_ret (results_ct rfl _ _ gb167 35 #[.int .i64 0, .int .i64 0, .slice none 0 0] (0, 0) _ rfl (bV BK167) Try.underlying35 rfl (by kernel_rfl)) rfl ?_
    exact ⟨_, eE, by first | exact Kd.R_nil _ _ _ _ _ | exact Kd.N_nil _ _ _ _ _ | exact Kd.V_nil _ _ _ _ _ | exact Kd.Q_nil _ _ _ _ _ | exact Kd.S_nil _ _ _ _ _, lV3 GE165 GE166 GE167⟩
   ·replace c30 := Bool.eq_false_iff.mpr c30
    subst c30
    have H1 : (spec_StepCloud.l0 kj2 l1_2 (l1_2.length : Int) 0 a0_0 a0_1 a0_2 a0_3 a0_4 a0_5 a0_6 a1_0 a1_1 l1_2 a1_0 (wrap64 (a1_1 + 1)) ([] : List (S48))) = some (r1, r2, r3, r4) := by rw [if_neg (show ¬ (false = true) by decide)] at H; exact H
    clear H
    have H := H1
    clear H1
    have H' := Aside0.mk H
    clear H
    have hnb35 := NB166_165.out
    have hnc35 := NB165_166.out
    have hnb36 := NB166_167.out
    have hnc36 := NB167_166.out
    have hcz37_0 := cz BK166 0 (.int .i64 a1_0)
    have hcz37_1 := cz BK166 1 (.int .i64 a1_1)
    have hcz37_2 := cz BK166 2 (.slice A1_2 l1_2.length c1_2)
    have hfz37_0 := fz BK166 0
    have hfz37_1 := fz BK166 1
    have hfz37_2 := fz BK166 2
    go_wp2_with (first | ((with_reducible refine gate_dst (N := 6) rfl ?_); (try (refine gate_guard (by rfl) ?_; dsimp only)); refine box_event rfl (N := 6) rfl (cs := #[.int .i64 0, .int .i64 0, .slice none 0 0]) (t := 35) sE ?_; intro gb170 hg w38 hbox hb; have BK170 := Aside0.mk hbox; have GW170 := gS w hg (lV3 GE165 GE166 GE167); have GE170 := gS w hg (lV3 GE165 GE166 GE167); replace HB := bH (lV3 GE165 GE166 GE167) hb; have NB165_170 := nL hg (bV BK165); have NB170_165 := nG hg (bV BK165); replace BK165 := bB (bV BK165) hb; have NB166_170 := nL hg (bV BK166); have NB170_166 := nG hg (bV BK166); replace BK166 := bB (bV BK166) hb; have NB167_170 := nL hg (bV BK167); have NB170_167 := nG hg (bV BK167); replace BK167 := bB (bV BK167) hb; clear hb hbox hg; have hnb39 := NB170_165.out; have hnc39 := NB165_170.out; have hnb40 := NB170_166.out; have hnc40 := NB166_170.out; have hnb41 := NB170_167.out; have hnc41 := NB167_170.out; have hcz42_0 := cz BK170 0 (.int .i64 0); have hcz42_1 := cz BK170 1 (.int .i64 0); have hcz42_2 := cz BK170 2 (.slice none 0 0); have hfz42_0 := fz BK170 0; have hfz42_1 := fz BK170 1; have hfz42_2 := fz BK170 2) | ((with_reducible refine gate_store (t := 35) (p := 6) rfl ?_); refine store_event (t := 35) (p := 6) (v := ?vo_w43) (w1 := (((w38.setCell ⟨gb170, 0, none⟩ (.int .i64 a1_0)).setCell ⟨gb170, 1, none⟩ (.int .i64 (wrap64 (a1_1 + 1)))).setCell ⟨gb170, 2, none⟩ (.slice none 0 0))) ?hg ?ho ?hn ?hr ?_; (case ho => rfl); (case hg => rfl); (case hn => rfl); (case hr => first | (go_simp; done) | (go_simp; rfl) | (have hq0_ := (blk_cell BK170.out 0).trans (show _ = some _ from rfl); have hf0_ := blk_frozen BK170.out 0; have hq1_ := (blk_cell BK170.out 1).trans (show _ = some _ from rfl); have hf1_ := blk_frozen BK170.out 1; have hq2_ := (blk_cell BK170.out 2).trans (show _ = some _ from rfl); have hf2_ := blk_frozen BK170.out 2; first | (go_simp; done) | (go_simp; rfl))); intro w43 hw; replace BK165 : Aside0 (w43.heap[gb165]? = some (.cells #[.int .i64 a0_0, .int .i64 a0_1, .int .i64 a0_2, .int .i64 a0_3, .int .i64 a0_4, .int .i64 a0_5, .int .i64 a0_6] 26 (0, 0))) := ⟨(by rw [hw]; exact (bG NB165_170 BK165))⟩; replace BK166 : Aside0 (w43.heap[gb166]? = some (.cells #[.int .i64 a1_0, .int .i64 a1_1, .slice A1_2 l1_2.length c1_2] 35 (0, 0))) := ⟨(by rw [hw]; exact (bG NB166_170 BK166))⟩; replace BK167 : Aside0 (w43.heap[gb167]? = some (.cells #[.int .i64 0, .int .i64 0, .slice none 0 0] 35 (0, 0))) := ⟨(by rw [hw]; exact (bG NB167_170 BK167))⟩; replace BK170 : Aside0 (w43.heap[gb170]? = some (.cells #[.int .i64 a1_0, .int .i64 (wrap64 (a1_1 + 1)), .slice none 0 0] 35 (0, 0))) := ⟨(by rw [hw]; exact (by refine bU ?_; refine blk_put (cs := #[.int .i64 a1_0, .int .i64 (wrap64 (a1_1 + 1)), .slice none 0 0]) ?_ 2 _ rfl; refine bU ?_; refine blk_put (cs := #[.int .i64 a1_0, .int .i64 0, .slice none 0 0]) ?_ 1 _ rfl; refine bU ?_; refine blk_put (cs := #[.int .i64 0, .int .i64 0, .slice none 0 0]) ?_ 0 _ rfl; refine bU ?_; exact BK170.out))⟩; replace HB : Aside0 (Below w.heap.size w w43) := ⟨(by rw [hw]; exact (lV4 GE165 GE166 GE167 GE170))⟩; clear hw; have hcz44_0 := cz BK166 0 (.int .i64 a1_0); have hcz44_1 := cz BK166 1 (.int .i64 a1_1); have hcz44_2 := cz BK166 2 (.slice A1_2 l1_2.length c1_2); have hfz44_0 := fz BK166 0; have hfz44_1 := fz BK166 1; have hfz44_2 := fz BK166 2))
    (try simp only [Act.put, List.setIfInBounds_toArray, List.set_cons_zero, List.set_cons_succ])
    go_loopg [38] kj2 (fun kq v38 w' => ∃ (x38_2 : Int) (x171002_2 : List (S48)) (u171002 : Value), v38 = .int .i64 x38_2 ∧ Aside0 (spec_StepCloud.l0 kq l1_2 (l1_2.length : Int) x38_2 a0_0 a0_1 a0_2 a0_3 a0_4 a0_5 a0_6 a1_0 a1_1 l1_2 a1_0 (wrap64 (a1_1 + 1)) x171002_2 = some (r1, r2, r3, r4)) ∧ Aside0 (kq ≤ kj2) ∧ Aside0 (Kd.R k48 48 w' w.heap.size (fun _ => True) u171002 x171002_2) ∧ Aside0 (w'.heap[gb165]? = some (.cells #[.int .i64 a0_0, .int .i64 a0_1, .int .i64 a0_2, .int .i64 a0_3, .int .i64 a0_4, .int .i64 a0_5, .int .i64 a0_6] 26 (0, 0))) ∧ Aside0 (w'.heap[gb166]? = some (.cells #[.int .i64 a1_0, .int .i64 a1_1, (.slice A1_2 l1_2.length c1_2)] 35 (0, 0))) ∧ Aside0 (w'.heap[gb167]? = some (.cells #[.int .i64 0, .int .i64 0, (.slice none 0 0)] 35 (0, 0))) ∧ Aside0 (w'.heap[gb170]? = some (.cells #[.int .i64 a1_0, .int .i64 (wrap64 (a1_1 + 1)), u171002] 35 (0, 0))) ∧ Aside0 (Below w.heap.size w w'))
    case atStart => exact ⟨(0), (([] : List (S48))), (.slice none 0 0), tE, H', ⟨Nat.le_refl _⟩, ⟨by first | exact Kd.R_nil _ _ _ _ _ | exact Kd.N_nil _ _ _ _ _ | exact Kd.V_nil _ _ _ _ _ | exact Kd.Q_nil _ _ _ _ _ | exact Kd.S_nil _ _ _ _ _⟩, ⟨by refine bU ?_; exact BK165.out⟩, ⟨by refine bU ?_; exact BK166.out⟩, ⟨by refine bU ?_; exact BK167.out⟩, ⟨by refine bU ?_; exact BK170.out⟩, ⟨by repeat (first | (with_reducible first | exact HB.out | apply below_alloc | apply pw_below_drewN | apply below_drew1 | refine below_set ?_ GE165.out | refine below_set ?_ GE166.out | refine below_set ?_ GE167.out | refine below_set ?_ GE170.out) | exact HB.out)⟩⟩
    case round =>
     clear H'
     try clear c1
     try clear q1
     try clear c2
     try clear p2
     try clear q2
     try clear hf2
     try clear c3
     try clear c4
     try clear p6
     try clear c8
     try clear c10
     try clear c11
     try clear c12
     try clear c15
     try clear c19
     try clear c20
     try clear c23
     try clear c26
     try clear c27
     try clear c30
     try clear c31
     try clear c32
     try clear c35
     try clear c36
     try clear c39
     try clear c40
     try clear c41
     try clear hcz13_0
     try clear hcz13_1
     try clear hcz13_2
     try clear hcz13_3
     try clear hcz13_4
     try clear hcz13_5
     try clear hcz13_6
     try clear hcz16_0
     try clear hcz16_1
     try clear hcz16_2
     try clear hcz18_0
     try clear hcz18_1
     try clear hcz18_2
     try clear hcz21_0
     try clear hcz21_1
     try clear hcz21_2
     try clear hcz21_3
     try clear hcz21_4
     try clear hcz21_5
     try clear hcz21_6
     try clear hcz24_0
     try clear hcz24_1
     try clear hcz24_2
     try clear hcz28_0
     try clear hcz28_1
     try clear hcz28_2
     try clear hcz28_3
     try clear hcz28_4
     try clear hcz28_5
     try clear hcz28_6
     try clear hcz33_0
     try clear hcz33_1
     try clear hcz33_2
     try clear hcz37_0
     try clear hcz37_1
     try clear hcz37_2
     try clear hcz42_0
     try clear hcz42_1
     try clear hcz42_2
     try clear hcz44_0
     try clear hcz44_1
     try clear hcz44_2
     try clear hfz13_0
     try clear hfz13_1
     try clear hfz13_2
     try clear hfz13_3
     try clear hfz13_4
     try clear hfz13_5
     try clear hfz13_6
     try clear hfz16_0
     try clear hfz16_1
     try clear hfz16_2
     try clear hfz18_0
     try clear hfz18_1
     try clear hfz18_2
     try clear hfz21_0
     try clear hfz21_1
     try clear hfz21_2
     try clear hfz21_3
     try clear hfz21_4
     try clear hfz21_5
     try clear hfz21_6
     try clear hfz24_0
     try clear hfz24_1
     try clear hfz24_2
     try clear hfz28_0
     try clear hfz28_1
     try clear hfz28_2
     try clear hfz28_3
     try clear hfz28_4
     try clear hfz28_5
     try clear hfz28_6
     try clear hfz33_0
     try clear hfz33_1
     try clear hfz33_2
     try clear hfz37_0
     try clear hfz37_1
     try clear hfz37_2
     try clear hfz42_0
     try clear hfz42_1
     try clear hfz42_2
     try clear hfz44_0
     try clear hfz44_1
     try clear hfz44_2
     try clear p2
     obtain ⟨x38_2, x171002_2, u171002, rfl, HA, HK2, HO_171002, BK165, BK166, BK167, BK170, HB⟩ := hrel
     cases gk with
     | zero => exact absurd HA.out (by simp [spec_StepCloud.l0])
     | succ k2 =>
      have H := HA.out
      clear HA
      simp only [spec_StepCloud.l0] at H
      by_cases c45 : x38_2 < (l1_2.length : Int)
      ·rw [if_pos c45] at H
       have c45b0 : decide (x38_2 < (l1_2.length : Int)) = true := decide_eq_true c45
       clear c45
       by_cases c46 : 0 ≤ x38_2
       ·rw [if_pos c46] at H
        have c46b0 : decide (0 ≤ x38_2) = true := decide_eq_true c46
        clear c46
        by_cases c47 : x38_2 < (l1_2.length : Int)
        ·rw [if_pos c47] at H
         have c47b0 : decide (x38_2 < (l1_2.length : Int)) = true := decide_eq_true c47
         clear c47
         by_cases c48 : (wrap64 (((rd_T48 l1_2 x38_2).f4) - 1)) = 0
         ·rw [if_pos c48] at H
          have c48b0 : ((wrap64 (((rd_T48 l1_2 x38_2).f4) - 1)) == 0) = true := beq_iff_eq.mpr c48
          have c48b1 : ((wrap64 (((rd_T48 l1_2 x38_2).f4) - 1)) != 0) = false := bne_eq_false_iff_eq.mpr c48
          clear c48
          have H' := Aside0.mk H
          clear H
          have p171 : 0 ≤ (x38_2 : Int) := of_decide_eq_true hE
          have q171 : x38_2 < (l1_2.length : Int) := of_decide_eq_true hE
          obtain ⟨ad171, e171, hx171_0, hx171_1, hx171_2, hx171_3, hx171_4⟩ := at_T48 HR1_2.out x38_2 p171 q171
          cases e171
          replace hx171_0 := (HB.out.cell (World.block_lt_of_cell? w _ hx171_0)).trans hx171_0
          replace hx171_1 := (HB.out.cell (World.block_lt_of_cell? w _ hx171_1)).trans hx171_1
          replace hx171_2 := (HB.out.cell (World.block_lt_of_cell? w _ hx171_2)).trans hx171_2
          replace hx171_3 := (HB.out.cell (World.block_lt_of_cell? w _ hx171_3)).trans hx171_3
          replace hx171_4 := (HB.out.cell (World.block_lt_of_cell? w _ hx171_4)).trans hx171_4
          replace p171 := eq_true p171
          replace q171 := eq_true q171
          go_wp2_with (first | ((with_reducible refine gate_dst (N := 8) rfl ?_); (try (refine gate_guard (by rfl) ?_; dsimp only)); refine box_event rfl (N := 8) rfl (cs := #[.int .i64 0, .int .i64 0, .int .i64 0, .int .i64 0, .int .i64 0]) (t := 48) sE ?_; intro gb172 hg w49 hbox hb; replace HO_171002 := Aside0.mk (Kd.R_below (Kd.R_elderB (rU HO_171002.out) gb172 (Nat.le_of_eq hg.symm)) hb); have BK172 := Aside0.mk hbox; have GW172 := gS w hg (lV4 GE165 GE166 GE167 GE170); have GE172 := gS w hg (lV4 GE165 GE166 GE167 GE170); replace HB := bH (lV4 GE165 GE166 GE167 GE170) hb; have NB165_172 := nL hg (bV BK165); have NB172_165 := nG hg (bV BK165); replace BK165 := bB (bV BK165) hb; have NB166_172 := nL hg (bV BK166); have NB172_166 := nG hg (bV BK166); replace BK166 := bB (bV BK166) hb; have NB167_172 := nL hg (bV BK167); have NB172_167 := nG hg (bV BK167); replace BK167 := bB (bV BK167) hb; have NB170_172 := nL hg (bV BK170); have NB172_170 := nG hg (bV BK170); replace BK170 := bB (bV BK170) hb; clear hb hbox hg; have hnb50 := NB172_165.out; have hnc50 := NB165_172.out; have hnb51 := NB172_166.out; have hnc51 := NB166_172.out; have hnb52 := NB172_167.out; have hnc52 := NB167_172.out; have hnb53 := NB172_170.out; have hnc53 := NB170_172.out; have hcz54_0 := cz BK172 0 (.int .i64 0); have hcz54_1 := cz BK172 1 (.int .i64 0); have hcz54_2 := cz BK172 2 (.int .i64 0); have hcz54_3 := cz BK172 3 (.int .i64 0); have hcz54_4 := cz BK172 4 (.int .i64 0); have hfz54_0 := fz BK172 0; have hfz54_1 := fz BK172 1; have hfz54_2 := fz BK172 2; have hfz54_3 := fz BK172 3; have hfz54_4 := fz BK172 4) | ((with_reducible refine gate_store (t := 48) (p := 8) rfl ?_); refine store_event (t := 48) (p := 8) (v := ?vo_w55) (w1 := (((((w49.setCell ⟨gb172, 0, none⟩ (.int .i64 ((rd_T48 l1_2 x38_2).f0))).setCell ⟨gb172, 1, none⟩ (.int .i64 ((rd_T48 l1_2 x38_2).f1))).setCell ⟨gb172, 2, none⟩ (.int .i64 ((rd_T48 l1_2 x38_2).f2))).setCell ⟨gb172, 3, none⟩ (.int .i64 ((rd_T48 l1_2 x38_2).f3))).setCell ⟨gb172, 4, none⟩ (.int .i64 ((rd_T48 l1_2 x38_2).f4)))) ?hg ?ho ?hn ?hr ?_; (case ho => rfl); (case hg => rfl); (case hn => rfl); (case hr => first | (go_simp; done) | (go_simp; rfl) | (have hq0_ := (blk_cell BK172.out 0).trans (show _ = some _ from rfl); have hf0_ := blk_frozen BK172.out 0; have hq1_ := (blk_cell BK172.out 1).trans (show _ = some _ from rfl); have hf1_ := blk_frozen BK172.out 1; have hq2_ := (blk_cell BK172.out 2).trans (show _ = some _ from rfl); have hf2_ := blk_frozen BK172.out 2; have hq3_ := (blk_cell BK172.out 3).trans (show _ = some _ from rfl); have hf3_ := blk_frozen BK172.out 3; have hq4_ := (blk_cell BK172.out 4).trans (show _ = some _ from rfl); have hf4_ := blk_frozen BK172.out 4; first | (go_simp; done) | (go_simp; rfl))); intro w55 hw; replace HO_171002 : Aside0 (Kd.R k48 48 w55 w.heap.size (fun k_ => k_ ≠ gb172) u171002 x171002_2) := ⟨(by rw [hw]; exact (by (with_reducible repeat (first | apply Kd.R_alloc | apply Kd.R_drewN | apply Kd.R_drew)); exact Kd.R_mono (Kd.R_far (p := ⟨gb172, 4, none⟩) (Kd.R_far (p := ⟨gb172, 3, none⟩) (Kd.R_far (p := ⟨gb172, 2, none⟩) (Kd.R_far (p := ⟨gb172, 1, none⟩) (Kd.R_far (p := ⟨gb172, 0, none⟩) (Kd.R_mono HO_171002.out (fun k_ hk => (⟨hk, hk.2⟩ : _ ∧ k_ ≠ gb172))) (fun _ hk => hk.2) (.int .i64 ((rd_T48 l1_2 x38_2).f0))) (fun _ hk => hk.2) (.int .i64 ((rd_T48 l1_2 x38_2).f1))) (fun _ hk => hk.2) (.int .i64 ((rd_T48 l1_2 x38_2).f2))) (fun _ hk => hk.2) (.int .i64 ((rd_T48 l1_2 x38_2).f3))) (fun _ hk => hk.2) (.int .i64 ((rd_T48 l1_2 x38_2).f4))) (fun _ hk => hk.1.2)))⟩; replace BK165 : Aside0 (w55.heap[gb165]? = some (.cells #[.int .i64 a0_0, .int .i64 a0_1, .int .i64 a0_2, .int .i64 a0_3, .int .i64 a0_4, .int .i64 a0_5, .int .i64 a0_6] 26 (0, 0))) := ⟨(by rw [hw]; exact (bG NB165_172 BK165))⟩; replace BK166 : Aside0 (w55.heap[gb166]? = some (.cells #[.int .i64 a1_0, .int .i64 a1_1, .slice (some ad171) l1_2.length c1_2] 35 (0, 0))) := ⟨(by rw [hw]; exact (bG NB166_172 BK166))⟩; replace BK167 : Aside0 (w55.heap[gb167]? = some (.cells #[.int .i64 0, .int .i64 0, .slice none 0 0] 35 (0, 0))) := ⟨(by rw [hw]; exact (bG NB167_172 BK167))⟩; replace BK170 : Aside0 (w55.heap[gb170]? = some (.cells #[.int .i64 a1_0, .int .i64 (wrap64 (a1_1 + 1)), u171002] 35 (0, 0))) := ⟨(by rw [hw]; exact (bG NB170_172 BK170))⟩; replace BK172 : Aside0 (w55.heap[gb172]? = some (.cells #[.int .i64 ((rd_T48 l1_2 x38_2).f0), .int .i64 ((rd_T48 l1_2 x38_2).f1), .int .i64 ((rd_T48 l1_2 x38_2).f2), .int .i64 ((rd_T48 l1_2 x38_2).f3), .int .i64 ((rd_T48 l1_2 x38_2).f4)] 48 (0, 0))) := ⟨(by rw [hw]; exact (by refine bU ?_; refine blk_put (cs := #[.int .i64 ((rd_T48 l1_2 x38_2).f0), .int .i64 ((rd_T48 l1_2 x38_2).f1), .int .i64 ((rd_T48 l1_2 x38_2).f2), .int .i64 ((rd_T48 l1_2 x38_2).f3), .int .i64 0]) ?_ 4 _ rfl; refine bU ?_; refine blk_put (cs := #[.int .i64 ((rd_T48 l1_2 x38_2).f0), .int .i64 ((rd_T48 l1_2 x38_2).f1), .int .i64 ((rd_T48 l1_2 x38_2).f2), .int .i64 0, .int .i64 0]) ?_ 3 _ rfl; refine bU ?_; refine blk_put (cs := #[.int .i64 ((rd_T48 l1_2 x38_2).f0), .int .i64 ((rd_T48 l1_2 x38_2).f1), .int .i64 0, .int .i64 0, .int .i64 0]) ?_ 2 _ rfl; refine bU ?_; refine blk_put (cs := #[.int .i64 ((rd_T48 l1_2 x38_2).f0), .int .i64 0, .int .i64 0, .int .i64 0, .int .i64 0]) ?_ 1 _ rfl; refine bU ?_; refine blk_put (cs := #[.int .i64 0, .int .i64 0, .int .i64 0, .int .i64 0, .int .i64 0]) ?_ 0 _ rfl; refine bU ?_; exact BK172.out))⟩; replace HB : Aside0 (Below w.heap.size w w55) := ⟨(by rw [hw]; exact (lV5 GE165 GE166 GE167 GE170 GE172))⟩; clear hw; have hcz56_0 := cz BK172 0 (.int .i64 ((rd_T48 l1_2 x38_2).f0)); have hcz56_1 := cz BK172 1 (.int .i64 ((rd_T48 l1_2 x38_2).f1)); have hcz56_2 := cz BK172 2 (.int .i64 ((rd_T48 l1_2 x38_2).f2)); have hcz56_3 := cz BK172 3 (.int .i64 ((rd_T48 l1_2 x38_2).f3)); have hcz56_4 := cz BK172 4 (.int .i64 ((rd_T48 l1_2 x38_2).f4)); have hfz56_0 := fz BK172 0; have hfz56_1 := fz BK172 1; have hfz56_2 := fz BK172 2; have hfz56_3 := fz BK172 3; have hfz56_4 := fz BK172 4) | ((with_reducible refine gate_store (t := 3) (p := 45) rfl ?_); refine store_event (t := 3) (p := 45) (v := ?vo_w57) (w1 := (w55.setCell ⟨gb172, 4, none⟩ (.int .i64 (wrap64 (((rd_T48 l1_2 x38_2).f4) - 1))))) ?hg ?ho ?hn ?hr ?_; (case ho => rfl); (case hg => rfl); (case hn => rfl); (case hr => first | (go_simp; done) | (go_simp; rfl) | (have hq0_ := (blk_cell BK172.out 4).trans (show _ = some _ from rfl); have hf0_ := blk_frozen BK172.out 4; first | (go_simp; done) | (go_simp; rfl))); intro w57 hw; replace HO_171002 : Aside0 (Kd.R k48 48 w57 w.heap.size (fun k_ => k_ ≠ gb172) u171002 x171002_2) := ⟨(by rw [hw]; exact (by (with_reducible repeat (first | apply Kd.R_alloc | apply Kd.R_drewN | apply Kd.R_drew)); exact Kd.R_mono (Kd.R_far (p := ⟨gb172, 4, none⟩) (Kd.R_mono HO_171002.out (fun k_ hk => (⟨hk, hk⟩ : _ ∧ k_ ≠ gb172))) (fun _ hk => hk.2) (.int .i64 (wrap64 (((rd_T48 l1_2 x38_2).f4) - 1)))) (fun _ hk => hk.1)))⟩; replace BK165 : Aside0 (w57.heap[gb165]? = some (.cells #[.int .i64 a0_0, .int .i64 a0_1, .int .i64 a0_2, .int .i64 a0_3, .int .i64 a0_4, .int .i64 a0_5, .int .i64 a0_6] 26 (0, 0))) := ⟨(by rw [hw]; exact (bG NB165_172 BK165))⟩; replace BK166 : Aside0 (w57.heap[gb166]? = some (.cells #[.int .i64 a1_0, .int .i64 a1_1, .slice (some ad171) l1_2.length c1_2] 35 (0, 0))) := ⟨(by rw [hw]; exact (bG NB166_172 BK166))⟩; replace BK167 : Aside0 (w57.heap[gb167]? = some (.cells #[.int .i64 0, .int .i64 0, .slice none 0 0] 35 (0, 0))) := ⟨(by rw [hw]; exact (bG NB167_172 BK167))⟩; replace BK170 : Aside0 (w57.heap[gb170]? = some (.cells #[.int .i64 a1_0, .int .i64 (wrap64 (a1_1 + 1)), u171002] 35 (0, 0))) := ⟨(by rw [hw]; exact (bG NB170_172 BK170))⟩; replace BK172 : Aside0 (w57.heap[gb172]? = some (.cells #[.int .i64 ((rd_T48 l1_2 x38_2).f0), .int .i64 ((rd_T48 l1_2 x38_2).f1), .int .i64 ((rd_T48 l1_2 x38_2).f2), .int .i64 ((rd_T48 l1_2 x38_2).f3), .int .i64 (wrap64 (((rd_T48 l1_2 x38_2).f4) - 1))] 48 (0, 0))) := ⟨(by rw [hw]; exact (by refine bU ?_; refine blk_put (cs := #[.int .i64 ((rd_T48 l1_2 x38_2).f0), .int .i64 ((rd_T48 l1_2 x38_2).f1), .int .i64 ((rd_T48 l1_2 x38_2).f2), .int .i64 ((rd_T48 l1_2 x38_2).f3), .int .i64 ((rd_T48 l1_2 x38_2).f4)]) ?_ 4 _ rfl; refine bU ?_; exact BK172.out))⟩; replace HB : Aside0 (Below w.heap.size w w57) := ⟨(by rw [hw]; exact (lV5 GE165 GE166 GE167 GE170 GE172))⟩; clear hw; have hcz58_0 := cz BK172 0 (.int .i64 ((rd_T48 l1_2 x38_2).f0)); have hcz58_1 := cz BK172 1 (.int .i64 ((rd_T48 l1_2 x38_2).f1)); have hcz58_2 := cz BK172 2 (.int .i64 ((rd_T48 l1_2 x38_2).f2)); have hcz58_3 := cz BK172 3 (.int .i64 ((rd_T48 l1_2 x38_2).f3)); have hcz58_4 := cz BK172 4 (.int .i64 (wrap64 (((rd_T48 l1_2 x38_2).f4) - 1))); have hfz58_0 := fz BK172 0; have hfz58_1 := fz BK172 1; have hfz58_2 := fz BK172 2; have hfz58_3 := fz BK172 3; have hfz58_4 := fz BK172 4))
          go_roundg k2
          case measure => have := HJ2.out; have := HK2.out; omega
          case rel => exact ⟨(wrap64 (x38_2 + 1)), (x171002_2), (u171002), tE, H', ⟨by have := HJ2.out; have := HK2.out; omega⟩, ⟨by (with_reducible repeat (first | apply Kd.R_alloc | apply Kd.R_drewN | apply Kd.R_drew)); exact Kd.R_mono HO_171002.out (fun _ hk => trivial)⟩, ⟨by refine bU ?_; exact BK165.out⟩, ⟨by refine bU ?_; exact BK166.out⟩, ⟨by refine bU ?_; exact BK167.out⟩, ⟨by refine bU ?_; exact BK170.out⟩, ⟨by repeat (first | (with_reducible first | exact HB.out | apply below_alloc | apply pw_below_drewN | apply below_drew1 | refine below_set ?_ GE165.out | refine below_set ?_ GE166.out | refine below_set ?_ GE167.out | refine below_set ?_ GE170.out | refine below_set ?_ GE172.out) | exact HB.out)⟩⟩
         ·rw [if_neg c48] at H
          have c48b0 : ((wrap64 (((rd_T48 l1_2 x38_2).f4) - 1)) == 0) = false := beq_eq_false_iff_ne.mpr c48
          have c48b1 : ((wrap64 (((rd_T48 l1_2 x38_2).f4) - 1)) != 0) = true := bne_iff_ne.mpr c48
          by_cases c59 : x171002_2.length < 3518437208883
          ·rw [if_pos c59] at H
           have LMc59 := Aside0.mk c59
           clear c59
           obtain ⟨y173, hy173⟩ : ∃ y_ : List (S48), y_ = (x171002_2 ++ [(⟨wrap64 (((rd_T48 l1_2 x38_2).f0) + ((rd_T48 l1_2 x38_2).f2)), wrap64 (((rd_T48 l1_2 x38_2).f1) + ((rd_T48 l1_2 x38_2).f3)), (rd_T48 l1_2 x38_2).f2, wrap64 (((rd_T48 l1_2 x38_2).f3) - a0_6), wrap64 (((rd_T48 l1_2 x38_2).f4) - 1)⟩ : S48)]) := ⟨_, rfl⟩
           replace H : (spec_StepCloud.l0 k2 l1_2 (l1_2.length : Int) (wrap64 (x38_2 + 1)) a0_0 a0_1 a0_2 a0_3 a0_4 a0_5 a0_6 a1_0 a1_1 l1_2 a1_0 (wrap64 (a1_1 + 1)) y173) = some (r1, r2, r3, r4) := by first | (rw [hy173]; with_reducible exact H) | (have H2_ := (Option.bind_some _ _).symm.trans H; rw [hy173]; with_reducible exact H2_) | (have H2_ := (Option.bind_some _ _).symm.trans H; with_reducible exact H2_) | with_reducible exact H | (rw [hy173]; exact H) | exact H
           have Ny173 := Aside0.mk hy173
           clear hy173
           have H' := Aside0.mk H
           clear H
           have p171 : 0 ≤ (x38_2 : Int) := of_decide_eq_true hE
           have q171 : x38_2 < (l1_2.length : Int) := of_decide_eq_true hE
           obtain ⟨ad171, e171, hx171_0, hx171_1, hx171_2, hx171_3, hx171_4⟩ := at_T48 HR1_2.out x38_2 p171 q171
           cases e171
           replace hx171_0 := (HB.out.cell (World.block_lt_of_cell? w _ hx171_0)).trans hx171_0
           replace hx171_1 := (HB.out.cell (World.block_lt_of_cell? w _ hx171_1)).trans hx171_1
           replace hx171_2 := (HB.out.cell (World.block_lt_of_cell? w _ hx171_2)).trans hx171_2
           replace hx171_3 := (HB.out.cell (World.block_lt_of_cell? w _ hx171_3)).trans hx171_3
           replace hx171_4 := (HB.out.cell (World.block_lt_of_cell? w _ hx171_4)).trans hx171_4
           replace p171 := eq_true p171
           replace q171 := eq_true q171
           go_wp2_with (first | ((with_reducible refine gate_dst (N := 8) rfl ?_); (try (refine gate_guard (by rfl) ?_; dsimp only)); refine box_event rfl (N := 8) rfl (cs := #[.int .i64 0, .int .i64 0, .int .i64 0, .int .i64 0, .int .i64 0]) (t := 48) sE ?_; intro gb172 hg w60 hbox hb; replace HO_171002 := Aside0.mk (Kd.R_below (Kd.R_elderB (rU HO_171002.out) gb172 (Nat.le_of_eq hg.symm)) hb); have BK172 := Aside0.mk hbox; have GW172 := gS w hg (lV4 GE165 GE166 GE167 GE170); have GE172 := gS w hg (lV4 GE165 GE166 GE167 GE170); replace HB := bH (lV4 GE165 GE166 GE167 GE170) hb; have NB165_172 := nL hg (bV BK165); have NB172_165 := nG hg (bV BK165); replace BK165 := bB (bV BK165) hb; have NB166_172 := nL hg (bV BK166); have NB172_166 := nG hg (bV BK166); replace BK166 := bB (bV BK166) hb; have NB167_172 := nL hg (bV BK167); have NB172_167 := nG hg (bV BK167); replace BK167 := bB (bV BK167) hb; have NB170_172 := nL hg (bV BK170); have NB172_170 := nG hg (bV BK170); replace BK170 := bB (bV BK170) hb; clear hb hbox hg; have hnb61 := NB172_165.out; have hnc61 := NB165_172.out; have hnb62 := NB172_166.out; have hnc62 := NB166_172.out; have hnb63 := NB172_167.out; have hnc63 := NB167_172.out; have hnb64 := NB172_170.out; have hnc64 := NB170_172.out; have hcz65_0 := cz BK172 0 (.int .i64 0); have hcz65_1 := cz BK172 1 (.int .i64 0); have hcz65_2 := cz BK172 2 (.int .i64 0); have hcz65_3 := cz BK172 3 (.int .i64 0); have hcz65_4 := cz BK172 4 (.int .i64 0); have hfz65_0 := fz BK172 0; have hfz65_1 := fz BK172 1; have hfz65_2 := fz BK172 2; have hfz65_3 := fz BK172 3; have hfz65_4 := fz BK172 4) | ((with_reducible refine gate_store (t := 48) (p := 8) rfl ?_); refine store_event (t := 48) (p := 8) (v := ?vo_w66) (w1 := (((((w60.setCell ⟨gb172, 0, none⟩ (.int .i64 ((rd_T48 l1_2 x38_2).f0))).setCell ⟨gb172, 1, none⟩ (.int .i64 ((rd_T48 l1_2 x38_2).f1))).setCell ⟨gb172, 2, none⟩ (.int .i64 ((rd_T48 l1_2 x38_2).f2))).setCell ⟨gb172, 3, none⟩ (.int .i64 ((rd_T48 l1_2 x38_2).f3))).setCell ⟨gb172, 4, none⟩ (.int .i64 ((rd_T48 l1_2 x38_2).f4)))) ?hg ?ho ?hn ?hr ?_; (case ho => rfl); (case hg => rfl); (case hn => rfl); (case hr => first | (go_simp; done) | (go_simp; rfl) | (have hq0_ := (blk_cell BK172.out 0).trans (show _ = some _ from rfl); have hf0_ := blk_frozen BK172.out 0; have hq1_ := (blk_cell BK172.out 1).trans (show _ = some _ from rfl); have hf1_ := blk_frozen BK172.out 1; have hq2_ := (blk_cell BK172.out 2).trans (show _ = some _ from rfl); have hf2_ := blk_frozen BK172.out 2; have hq3_ := (blk_cell BK172.out 3).trans (show _ = some _ from rfl); have hf3_ := blk_frozen BK172.out 3; have hq4_ := (blk_cell BK172.out 4).trans (show _ = some _ from rfl); have hf4_ := blk_frozen BK172.out 4; first | (go_simp; done) | (go_simp; rfl))); intro w66 hw; replace HO_171002 : Aside0 (Kd.R k48 48 w66 w.heap.size (fun k_ => k_ ≠ gb172) u171002 x171002_2) := ⟨(by rw [hw]; exact (by (with_reducible repeat (first | apply Kd.R_alloc | apply Kd.R_drewN | apply Kd.R_drew)); exact Kd.R_mono (Kd.R_far (p := ⟨gb172, 4, none⟩) (Kd.R_far (p := ⟨gb172, 3, none⟩) (Kd.R_far (p := ⟨gb172, 2, none⟩) (Kd.R_far (p := ⟨gb172, 1, none⟩) (Kd.R_far (p := ⟨gb172, 0, none⟩) (Kd.R_mono HO_171002.out (fun k_ hk => (⟨hk, hk.2⟩ : _ ∧ k_ ≠ gb172))) (fun _ hk => hk.2) (.int .i64 ((rd_T48 l1_2 x38_2).f0))) (fun _ hk => hk.2) (.int .i64 ((rd_T48 l1_2 x38_2).f1))) (fun _ hk => hk.2) (.int .i64 ((rd_T48 l1_2 x38_2).f2))) (fun _ hk => hk.2) (.int .i64 ((rd_T48 l1_2 x38_2).f3))) (fun _ hk => hk.2) (.int .i64 ((rd_T48 l1_2 x38_2).f4))) (fun _ hk => hk.1.2)))⟩; replace BK165 : Aside0 (w66.heap[gb165]? = some (.cells #[.int .i64 a0_0, .int .i64 a0_1, .int .i64 a0_2, .int .i64 a0_3, .int .i64 a0_4, .int .i64 a0_5, .int .i64 a0_6] 26 (0, 0))) := ⟨(by rw [hw]; exact (bG NB165_172 BK165))⟩; replace BK166 : Aside0 (w66.heap[gb166]? = some (.cells #[.int .i64 a1_0, .int .i64 a1_1, .slice (some ad171) l1_2.length c1_2] 35 (0, 0))) := ⟨(by rw [hw]; exact (bG NB166_172 BK166))⟩; replace BK167 : Aside0 (w66.heap[gb167]? = some (.cells #[.int .i64 0, .int .i64 0, .slice none 0 0] 35 (0, 0))) := ⟨(by rw [hw]; exact (bG NB167_172 BK167))⟩; replace BK170 : Aside0 (w66.heap[gb170]? = some (.cells #[.int .i64 a1_0, .int .i64 (wrap64 (a1_1 + 1)), u171002] 35 (0, 0))) := ⟨(by rw [hw]; exact (bG NB170_172 BK170))⟩; replace BK172 : Aside0 (w66.heap[gb172]? = some (.cells #[.int .i64 ((rd_T48 l1_2 x38_2).f0), .int .i64 ((rd_T48 l1_2 x38_2).f1), .int .i64 ((rd_T48 l1_2 x38_2).f2), .int .i64 ((rd_T48 l1_2 x38_2).f3), .int .i64 ((rd_T48 l1_2 x38_2).f4)] 48 (0, 0))) := ⟨(by rw [hw]; exact (by refine bU ?_; refine blk_put (cs := #[.int .i64 ((rd_T48 l1_2 x38_2).f0), .int .i64 ((rd_T48 l1_2 x38_2).f1), .int .i64 ((rd_T48 l1_2 x38_2).f2), .int .i64 ((rd_T48 l1_2 x38_2).f3), .int .i64 0]) ?_ 4 _ rfl; refine bU ?_; refine blk_put (cs := #[.int .i64 ((rd_T48 l1_2 x38_2).f0), .int .i64 ((rd_T48 l1_2 x38_2).f1), .int .i64 ((rd_T48 l1_2 x38_2).f2), .int .i64 0, .int .i64 0]) ?_ 3 _ rfl; refine bU ?_; refine blk_put (cs := #[.int .i64 ((rd_T48 l1_2 x38_2).f0), .int .i64 ((rd_T48 l1_2 x38_2).f1), .int .i64 0, .int .i64 0, .int .i64 0]) ?_ 2 _ rfl; refine bU ?_; refine blk_put (cs := #[.int .i64 ((rd_T48 l1_2 x38_2).f0), .int .i64 0, .int .i64 0, .int .i64 0, .int .i64 0]) ?_ 1 _ rfl; refine bU ?_; refine blk_put (cs := #[.int .i64 0, .int .i64 0, .int .i64 0, .int .i64 0, .int .i64 0]) ?_ 0 _ rfl; refine bU ?_; exact BK172.out))⟩; replace HB : Aside0 (Below w.heap.size w w66) := ⟨(by rw [hw]; exact (lV5 GE165 GE166 GE167 GE170 GE172))⟩; clear hw; have hcz67_0 := cz BK172 0 (.int .i64 ((rd_T48 l1_2 x38_2).f0)); have hcz67_1 := cz BK172 1 (.int .i64 ((rd_T48 l1_2 x38_2).f1)); have hcz67_2 := cz BK172 2 (.int .i64 ((rd_T48 l1_2 x38_2).f2)); have hcz67_3 := cz BK172 3 (.int .i64 ((rd_T48 l1_2 x38_2).f3)); have hcz67_4 := cz BK172 4 (.int .i64 ((rd_T48 l1_2 x38_2).f4)); have hfz67_0 := fz BK172 0; have hfz67_1 := fz BK172 1; have hfz67_2 := fz BK172 2; have hfz67_3 := fz BK172 3; have hfz67_4 := fz BK172 4) | ((with_reducible refine gate_store (t := 3) (p := 45) rfl ?_); refine store_event (t := 3) (p := 45) (v := ?vo_w68) (w1 := (w66.setCell ⟨gb172, 4, none⟩ (.int .i64 (wrap64 (((rd_T48 l1_2 x38_2).f4) - 1))))) ?hg ?ho ?hn ?hr ?_; (case ho => rfl); (case hg => rfl); (case hn => rfl); (case hr => first | (go_simp; done) | (go_simp; rfl) | (have hq0_ := (blk_cell BK172.out 4).trans (show _ = some _ from rfl); have hf0_ := blk_frozen BK172.out 4; first | (go_simp; done) | (go_simp; rfl))); intro w68 hw; replace HO_171002 : Aside0 (Kd.R k48 48 w68 w.heap.size (fun k_ => k_ ≠ gb172) u171002 x171002_2) := ⟨(by rw [hw]; exact (by (with_reducible repeat (first | apply Kd.R_alloc | apply Kd.R_drewN | apply Kd.R_drew)); exact Kd.R_mono (Kd.R_far (p := ⟨gb172, 4, none⟩) (Kd.R_mono HO_171002.out (fun k_ hk => (⟨hk, hk⟩ : _ ∧ k_ ≠ gb172))) (fun _ hk => hk.2) (.int .i64 (wrap64 (((rd_T48 l1_2 x38_2).f4) - 1)))) (fun _ hk => hk.1)))⟩; replace BK165 : Aside0 (w68.heap[gb165]? = some (.cells #[.int .i64 a0_0, .int .i64 a0_1, .int .i64 a0_2, .int .i64 a0_3, .int .i64 a0_4, .int .i64 a0_5, .int .i64 a0_6] 26 (0, 0))) := ⟨(by rw [hw]; exact (bG NB165_172 BK165))⟩; replace BK166 : Aside0 (w68.heap[gb166]? = some (.cells #[.int .i64 a1_0, .int .i64 a1_1, .slice (some ad171) l1_2.length c1_2] 35 (0, 0))) := ⟨(by rw [hw]; exact (bG NB166_172 BK166))⟩; replace BK167 : Aside0 (w68.heap[gb167]? = some (.cells #[.int .i64 0, .int .i64 0, .slice none 0 0] 35 (0, 0))) := ⟨(by rw [hw]; exact (bG NB167_172 BK167))⟩; replace BK170 : Aside0 (w68.heap[gb170]? = some (.cells #[.int .i64 a1_0, .int .i64 (wrap64 (a1_1 + 1)), u171002] 35 (0, 0))) := ⟨(by rw [hw]; exact (bG NB170_172 BK170))⟩; replace BK172 : Aside0 (w68.heap[gb172]? = some (.cells #[.int .i64 ((rd_T48 l1_2 x38_2).f0), .int .i64 ((rd_T48 l1_2 x38_2).f1), .int .i64 ((rd_T48 l1_2 x38_2).f2), .int .i64 ((rd_T48 l1_2 x38_2).f3), .int .i64 (wrap64 (((rd_T48 l1_2 x38_2).f4) - 1))] 48 (0, 0))) := ⟨(by rw [hw]; exact (by refine bU ?_; refine blk_put (cs := #[.int .i64 ((rd_T48 l1_2 x38_2).f0), .int .i64 ((rd_T48 l1_2 x38_2).f1), .int .i64 ((rd_T48 l1_2 x38_2).f2), .int .i64 ((rd_T48 l1_2 x38_2).f3), .int .i64 ((rd_T48 l1_2 x38_2).f4)]) ?_ 4 _ rfl; refine bU ?_; exact BK172.out))⟩; replace HB : Aside0 (Below w.heap.size w w68) := ⟨(by rw [hw]; exact (lV5 GE165 GE166 GE167 GE170 GE172))⟩; clear hw; have hcz69_0 := cz BK172 0 (.int .i64 ((rd_T48 l1_2 x38_2).f0)); have hcz69_1 := cz BK172 1 (.int .i64 ((rd_T48 l1_2 x38_2).f1)); have hcz69_2 := cz BK172 2 (.int .i64 ((rd_T48 l1_2 x38_2).f2)); have hcz69_3 := cz BK172 3 (.int .i64 ((rd_T48 l1_2 x38_2).f3)); have hcz69_4 := cz BK172 4 (.int .i64 (wrap64 (((rd_T48 l1_2 x38_2).f4) - 1))); have hfz69_0 := fz BK172 0; have hfz69_1 := fz BK172 1; have hfz69_2 := fz BK172 2; have hfz69_3 := fz BK172 3; have hfz69_4 := fz BK172 4) | ((with_reducible refine gate_store (t := 3) (p := 54) rfl ?_); refine store_event (t := 3) (p := 54) (v := ?vo_w70) (w1 := (w68.setCell ⟨gb172, 0, none⟩ (.int .i64 (wrap64 (((rd_T48 l1_2 x38_2).f0) + ((rd_T48 l1_2 x38_2).f2)))))) ?hg ?ho ?hn ?hr ?_; (case ho => rfl); (case hg => rfl); (case hn => rfl); (case hr => first | (go_simp; done) | (go_simp; rfl) | (have hq0_ := (blk_cell BK172.out 0).trans (show _ = some _ from rfl); have hf0_ := blk_frozen BK172.out 0; first | (go_simp; done) | (go_simp; rfl))); intro w70 hw; replace HO_171002 : Aside0 (Kd.R k48 48 w70 w.heap.size (fun k_ => k_ ≠ gb172) u171002 x171002_2) := ⟨(by rw [hw]; exact (by (with_reducible repeat (first | apply Kd.R_alloc | apply Kd.R_drewN | apply Kd.R_drew)); exact Kd.R_mono (Kd.R_far (p := ⟨gb172, 0, none⟩) (Kd.R_mono HO_171002.out (fun k_ hk => (⟨hk, hk⟩ : _ ∧ k_ ≠ gb172))) (fun _ hk => hk.2) (.int .i64 (wrap64 (((rd_T48 l1_2 x38_2).f0) + ((rd_T48 l1_2 x38_2).f2))))) (fun _ hk => hk.1)))⟩; replace BK165 : Aside0 (w70.heap[gb165]? = some (.cells #[.int .i64 a0_0, .int .i64 a0_1, .int .i64 a0_2, .int .i64 a0_3, .int .i64 a0_4, .int .i64 a0_5, .int .i64 a0_6] 26 (0, 0))) := ⟨(by rw [hw]; exact (bG NB165_172 BK165))⟩; replace BK166 : Aside0 (w70.heap[gb166]? = some (.cells #[.int .i64 a1_0, .int .i64 a1_1, .slice (some ad171) l1_2.length c1_2] 35 (0, 0))) := ⟨(by rw [hw]; exact (bG NB166_172 BK166))⟩; replace BK167 : Aside0 (w70.heap[gb167]? = some (.cells #[.int .i64 0, .int .i64 0, .slice none 0 0] 35 (0, 0))) := ⟨(by rw [hw]; exact (bG NB167_172 BK167))⟩; replace BK170 : Aside0 (w70.heap[gb170]? = some (.cells #[.int .i64 a1_0, .int .i64 (wrap64 (a1_1 + 1)), u171002] 35 (0, 0))) := ⟨(by rw [hw]; exact (bG NB170_172 BK170))⟩; replace BK172 : Aside0 (w70.heap[gb172]? = some (.cells #[.int .i64 (wrap64 (((rd_T48 l1_2 x38_2).f0) + ((rd_T48 l1_2 x38_2).f2))), .int .i64 ((rd_T48 l1_2 x38_2).f1), .int .i64 ((rd_T48 l1_2 x38_2).f2), .int .i64 ((rd_T48 l1_2 x38_2).f3), .int .i64 (wrap64 (((rd_T48 l1_2 x38_2).f4) - 1))] 48 (0, 0))) := ⟨(by rw [hw]; exact (by refine bU ?_; refine blk_put (cs := #[.int .i64 ((rd_T48 l1_2 x38_2).f0), .int .i64 ((rd_T48 l1_2 x38_2).f1), .int .i64 ((rd_T48 l1_2 x38_2).f2), .int .i64 ((rd_T48 l1_2 x38_2).f3), .int .i64 (wrap64 (((rd_T48 l1_2 x38_2).f4) - 1))]) ?_ 0 _ rfl; refine bU ?_; exact BK172.out))⟩; replace HB : Aside0 (Below w.heap.size w w70) := ⟨(by rw [hw]; exact (lV5 GE165 GE166 GE167 GE170 GE172))⟩; clear hw; have hcz71_0 := cz BK172 0 (.int .i64 (wrap64 (((rd_T48 l1_2 x38_2).f0) + ((rd_T48 l1_2 x38_2).f2)))); have hcz71_1 := cz BK172 1 (.int .i64 ((rd_T48 l1_2 x38_2).f1)); have hcz71_2 := cz BK172 2 (.int .i64 ((rd_T48 l1_2 x38_2).f2)); have hcz71_3 := cz BK172 3 (.int .i64 ((rd_T48 l1_2 x38_2).f3)); have hcz71_4 := cz BK172 4 (.int .i64 (wrap64 (((rd_T48 l1_2 x38_2).f4) - 1))); have hfz71_0 := fz BK172 0; have hfz71_1 := fz BK172 1; have hfz71_2 := fz BK172 2; have hfz71_3 := fz BK172 3; have hfz71_4 := fz BK172 4) | ((with_reducible refine gate_store (t := 3) (p := 60) rfl ?_); refine store_event (t := 3) (p := 60) (v := ?vo_w72) (w1 := (w70.setCell ⟨gb172, 1, none⟩ (.int .i64 (wrap64 (((rd_T48 l1_2 x38_2).f1) + ((rd_T48 l1_2 x38_2).f3)))))) ?hg ?ho ?hn ?hr ?_; (case ho => rfl); (case hg => rfl); (case hn => rfl); (case hr => first | (go_simp; done) | (go_simp; rfl) | (have hq0_ := (blk_cell BK172.out 1).trans (show _ = some _ from rfl); have hf0_ := blk_frozen BK172.out 1; first | (go_simp; done) | (go_simp; rfl))); intro w72 hw; replace HO_171002 : Aside0 (Kd.R k48 48 w72 w.heap.size (fun k_ => k_ ≠ gb172) u171002 x171002_2) := ⟨(by rw [hw]; exact (by (with_reducible repeat (first | apply Kd.R_alloc | apply Kd.R_drewN | apply Kd.R_drew)); exact Kd.R_mono (Kd.R_far (p := ⟨gb172, 1, none⟩) (Kd.R_mono HO_171002.out (fun k_ hk => (⟨hk, hk⟩ : _ ∧ k_ ≠ gb172))) (fun _ hk => hk.2) (.int .i64 (wrap64 (((rd_T48 l1_2 x38_2).f1) + ((rd_T48 l1_2 x38_2).f3))))) (fun _ hk => hk.1)))⟩; replace BK165 : Aside0 (w72.heap[gb165]? = some (.cells #[.int .i64 a0_0, .int .i64 a0_1, .int .i64 a0_2, .int .i64 a0_3, .int .i64 a0_4, .int .i64 a0_5, .int .i64 a0_6] 26 (0, 0))) := ⟨(by rw [hw]; exact (bG NB165_172 BK165))⟩; replace BK166 : Aside0 (w72.heap[gb166]? = some (.cells #[.int .i64 a1_0, .int .i64 a1_1, .slice (some ad171) l1_2.length c1_2] 35 (0, 0))) := ⟨(by rw [hw]; exact (bG NB166_172 BK166))⟩; replace BK167 : Aside0 (w72.heap[gb167]? = some (.cells #[.int .i64 0, .int .i64 0, .slice none 0 0] 35 (0, 0))) := ⟨(by rw [hw]; exact (bG NB167_172 BK167))⟩; replace BK170 : Aside0 (w72.heap[gb170]? = some (.cells #[.int .i64 a1_0, .int .i64 (wrap64 (a1_1 + 1)), u171002] 35 (0, 0))) := ⟨(by rw [hw]; exact (bG NB170_172 BK170))⟩; replace BK172 : Aside0 (w72.heap[gb172]? = some (.cells #[.int .i64 (wrap64 (((rd_T48 l1_2 x38_2).f0) + ((rd_T48 l1_2 x38_2).f2))), .int .i64 (wrap64 (((rd_T48 l1_2 x38_2).f1) + ((rd_T48 l1_2 x38_2).f3))), .int .i64 ((rd_T48 l1_2 x38_2).f2), .int .i64 ((rd_T48 l1_2 x38_2).f3), .int .i64 (wrap64 (((rd_T48 l1_2 x38_2).f4) - 1))] 48 (0, 0))) := ⟨(by rw [hw]; exact (by refine bU ?_; refine blk_put (cs := #[.int .i64 (wrap64 (((rd_T48 l1_2 x38_2).f0) + ((rd_T48 l1_2 x38_2).f2))), .int .i64 ((rd_T48 l1_2 x38_2).f1), .int .i64 ((rd_T48 l1_2 x38_2).f2), .int .i64 ((rd_T48 l1_2 x38_2).f3), .int .i64 (wrap64 (((rd_T48 l1_2 x38_2).f4) - 1))]) ?_ 1 _ rfl; refine bU ?_; exact BK172.out))⟩; replace HB : Aside0 (Below w.heap.size w w72) := ⟨(by rw [hw]; exact (lV5 GE165 GE166 GE167 GE170 GE172))⟩; clear hw; have hcz73_0 := cz BK172 0 (.int .i64 (wrap64 (((rd_T48 l1_2 x38_2).f0) + ((rd_T48 l1_2 x38_2).f2)))); have hcz73_1 := cz BK172 1 (.int .i64 (wrap64 (((rd_T48 l1_2 x38_2).f1) + ((rd_T48 l1_2 x38_2).f3)))); have hcz73_2 := cz BK172 2 (.int .i64 ((rd_T48 l1_2 x38_2).f2)); have hcz73_3 := cz BK172 3 (.int .i64 ((rd_T48 l1_2 x38_2).f3)); have hcz73_4 := cz BK172 4 (.int .i64 (wrap64 (((rd_T48 l1_2 x38_2).f4) - 1))); have hfz73_0 := fz BK172 0; have hfz73_1 := fz BK172 1; have hfz73_2 := fz BK172 2; have hfz73_3 := fz BK172 3; have hfz73_4 := fz BK172 4; have hnb74 := NB165_166.out; have hnc74 := NB166_165.out; have hnb75 := NB165_167.out; have hnc75 := NB167_165.out; have hnb76 := NB165_170.out; have hnc76 := NB170_165.out; have hcz77_0 := cz BK165 0 (.int .i64 a0_0); have hcz77_1 := cz BK165 1 (.int .i64 a0_1); have hcz77_2 := cz BK165 2 (.int .i64 a0_2); have hcz77_3 := cz BK165 3 (.int .i64 a0_3); have hcz77_4 := cz BK165 4 (.int .i64 a0_4); have hcz77_5 := cz BK165 5 (.int .i64 a0_5); have hcz77_6 := cz BK165 6 (.int .i64 a0_6); have hfz77_0 := fz BK165 0; have hfz77_1 := fz BK165 1; have hfz77_2 := fz BK165 2; have hfz77_3 := fz BK165 3; have hfz77_4 := fz BK165 4; have hfz77_5 := fz BK165 5; have hfz77_6 := fz BK165 6) | ((with_reducible refine gate_store (t := 3) (p := 66) rfl ?_); refine store_event (t := 3) (p := 66) (v := ?vo_w78) (w1 := (w72.setCell ⟨gb172, 3, none⟩ (.int .i64 (wrap64 (((rd_T48 l1_2 x38_2).f3) - a0_6))))) ?hg ?ho ?hn ?hr ?_; (case ho => rfl); (case hg => rfl); (case hn => rfl); (case hr => first | (go_simp; done) | (go_simp; rfl) | (have hq0_ := (blk_cell BK172.out 3).trans (show _ = some _ from rfl); have hf0_ := blk_frozen BK172.out 3; first | (go_simp; done) | (go_simp; rfl))); intro w78 hw; replace HO_171002 : Aside0 (Kd.R k48 48 w78 w.heap.size (fun k_ => k_ ≠ gb172) u171002 x171002_2) := ⟨(by rw [hw]; exact (by (with_reducible repeat (first | apply Kd.R_alloc | apply Kd.R_drewN | apply Kd.R_drew)); exact Kd.R_mono (Kd.R_far (p := ⟨gb172, 3, none⟩) (Kd.R_mono HO_171002.out (fun k_ hk => (⟨hk, hk⟩ : _ ∧ k_ ≠ gb172))) (fun _ hk => hk.2) (.int .i64 (wrap64 (((rd_T48 l1_2 x38_2).f3) - a0_6)))) (fun _ hk => hk.1)))⟩; replace BK165 : Aside0 (w78.heap[gb165]? = some (.cells #[.int .i64 a0_0, .int .i64 a0_1, .int .i64 a0_2, .int .i64 a0_3, .int .i64 a0_4, .int .i64 a0_5, .int .i64 a0_6] 26 (0, 0))) := ⟨(by rw [hw]; exact (bG NB165_172 BK165))⟩; replace BK166 : Aside0 (w78.heap[gb166]? = some (.cells #[.int .i64 a1_0, .int .i64 a1_1, .slice (some ad171) l1_2.length c1_2] 35 (0, 0))) := ⟨(by rw [hw]; exact (bG NB166_172 BK166))⟩; replace BK167 : Aside0 (w78.heap[gb167]? = some (.cells #[.int .i64 0, .int .i64 0, .slice none 0 0] 35 (0, 0))) := ⟨(by rw [hw]; exact (bG NB167_172 BK167))⟩; replace BK170 : Aside0 (w78.heap[gb170]? = some (.cells #[.int .i64 a1_0, .int .i64 (wrap64 (a1_1 + 1)), u171002] 35 (0, 0))) := ⟨(by rw [hw]; exact (bG NB170_172 BK170))⟩; replace BK172 : Aside0 (w78.heap[gb172]? = some (.cells #[.int .i64 (wrap64 (((rd_T48 l1_2 x38_2).f0) + ((rd_T48 l1_2 x38_2).f2))), .int .i64 (wrap64 (((rd_T48 l1_2 x38_2).f1) + ((rd_T48 l1_2 x38_2).f3))), .int .i64 ((rd_T48 l1_2 x38_2).f2), .int .i64 (wrap64 (((rd_T48 l1_2 x38_2).f3) - a0_6)), .int .i64 (wrap64 (((rd_T48 l1_2 x38_2).f4) - 1))] 48 (0, 0))) := ⟨(by rw [hw]; exact (by refine bU ?_; refine blk_put (cs := #[.int .i64 (wrap64 (((rd_T48 l1_2 x38_2).f0) + ((rd_T48 l1_2 x38_2).f2))), .int .i64 (wrap64 (((rd_T48 l1_2 x38_2).f1) + ((rd_T48 l1_2 x38_2).f3))), .int .i64 ((rd_T48 l1_2 x38_2).f2), .int .i64 ((rd_T48 l1_2 x38_2).f3), .int .i64 (wrap64 (((rd_T48 l1_2 x38_2).f4) - 1))]) ?_ 3 _ rfl; refine bU ?_; exact BK172.out))⟩; replace HB : Aside0 (Below w.heap.size w w78) := ⟨(by rw [hw]; exact (lV5 GE165 GE166 GE167 GE170 GE172))⟩; clear hw; have hnb79 := NB170_166.out; have hnc79 := NB166_170.out; have hnb80 := NB170_167.out; have hnc80 := NB167_170.out; have hcz81_0 := cz BK170 0 (.int .i64 a1_0); have hcz81_1 := cz BK170 1 (.int .i64 (wrap64 (a1_1 + 1))); have hcz81_2 := cz BK170 2 (u171002); have hfz81_0 := fz BK170 0; have hfz81_1 := fz BK170 1; have hfz81_2 := fz BK170 2; have hcz82_0 := cz BK172 0 (.int .i64 (wrap64 (((rd_T48 l1_2 x38_2).f0) + ((rd_T48 l1_2 x38_2).f2)))); have hcz82_1 := cz BK172 1 (.int .i64 (wrap64 (((rd_T48 l1_2 x38_2).f1) + ((rd_T48 l1_2 x38_2).f3)))); have hcz82_2 := cz BK172 2 (.int .i64 ((rd_T48 l1_2 x38_2).f2)); have hcz82_3 := cz BK172 3 (.int .i64 (wrap64 (((rd_T48 l1_2 x38_2).f3) - a0_6))); have hcz82_4 := cz BK172 4 (.int .i64 (wrap64 (((rd_T48 l1_2 x38_2).f4) - 1))); have hfz82_0 := fz BK172 0; have hfz82_1 := fz BK172 1; have hfz82_2 := fz BK172 2; have hfz82_3 := fz BK172 3; have hfz82_4 := fz BK172 4) | ((with_reducible refine gate_builtin (b := .append) (xs := #[.tmp 68, .tmp 70]) rfl ?_); (try (refine gate_guard (by rfl) ?_; dsimp only)); at_builtin; refine Kd.R_append k48 (w0 := w) w.heap.size rfl (.tmp 68) (.tmp 70) 33 48 (.agg #[(.int .i64 0), (.int .i64 0), (.int .i64 0), (.int .i64 0), (.int .i64 0)]) 40 rfl Try.underlying33 info48 rfl (by decide) (by omega) u171002 x171002_2 (⟨wrap64 (((rd_T48 l1_2 x38_2).f0) + ((rd_T48 l1_2 x38_2).f2)), wrap64 (((rd_T48 l1_2 x38_2).f1) + ((rd_T48 l1_2 x38_2).f3)), (rd_T48 l1_2 x38_2).f2, wrap64 (((rd_T48 l1_2 x38_2).f3) - a0_6), wrap64 (((rd_T48 l1_2 x38_2).f4) - 1)⟩ : S48) [.int .i64 (wrap64 (((rd_T48 l1_2 x38_2).f0) + ((rd_T48 l1_2 x38_2).f2))), .int .i64 (wrap64 (((rd_T48 l1_2 x38_2).f1) + ((rd_T48 l1_2 x38_2).f3))), .int .i64 ((rd_T48 l1_2 x38_2).f2), .int .i64 (wrap64 (((rd_T48 l1_2 x38_2).f3) - a0_6)), .int .i64 (wrap64 (((rd_T48 l1_2 x38_2).f4) - 1))] (fun k_ => k_ ≠ gb172) (fun _ => False) rfl rfl ?aP (fun _ hk => hk.elim) ?aF ?aO ?aB ?aS ?aL ?_; (case aP => exact k48_mkM _ _ _ (⟨wrap64 (((rd_T48 l1_2 x38_2).f0) + ((rd_T48 l1_2 x38_2).f2)), wrap64 (((rd_T48 l1_2 x38_2).f1) + ((rd_T48 l1_2 x38_2).f3)), (rd_T48 l1_2 x38_2).f2, wrap64 (((rd_T48 l1_2 x38_2).f3) - a0_6), wrap64 (((rd_T48 l1_2 x38_2).f4) - 1)⟩ : S48)); (case aB => exact (lV5 GE165 GE166 GE167 GE170 GE172)); (case aF => exact (fun k_ hk => Kd.freshB (g := gb172) (o := .cells #[.int .i64 (wrap64 (((rd_T48 l1_2 x38_2).f0) + ((rd_T48 l1_2 x38_2).f2))), .int .i64 (wrap64 (((rd_T48 l1_2 x38_2).f1) + ((rd_T48 l1_2 x38_2).f3))), .int .i64 ((rd_T48 l1_2 x38_2).f2), .int .i64 (wrap64 (((rd_T48 l1_2 x38_2).f3) - a0_6)), .int .i64 (wrap64 (((rd_T48 l1_2 x38_2).f4) - 1))] 48 (0, 0)) (bV BK172) k_ hk)); (case aO => exact (rU HO_171002.out)); (case aS => exact (below_size (lV5 GE165 GE166 GE167 GE170 GE172))); (case aL => have := LMc59.out; omega); intro v174 w83 ho hb hg hat; rw [← Ny173.out] at ho; replace BK165 := Aside0.mk (blk_grown (g := gb165) (o := .cells #[.int .i64 a0_0, .int .i64 a0_1, .int .i64 a0_2, .int .i64 a0_3, .int .i64 a0_4, .int .i64 a0_5, .int .i64 a0_6] 26 (0, 0)) (bV BK165) hg (Kd.R_ne HO_171002.out BK165.out (by decide))); replace BK166 := Aside0.mk (blk_grown (g := gb166) (o := .cells #[.int .i64 a1_0, .int .i64 a1_1, .slice (some ad171) l1_2.length c1_2] 35 (0, 0)) (bV BK166) hg (Kd.R_ne HO_171002.out BK166.out (by decide))); replace BK167 := Aside0.mk (blk_grown (g := gb167) (o := .cells #[.int .i64 0, .int .i64 0, .slice none 0 0] 35 (0, 0)) (bV BK167) hg (Kd.R_ne HO_171002.out BK167.out (by decide))); replace BK170 := Aside0.mk (blk_grown (g := gb170) (o := .cells #[.int .i64 a1_0, .int .i64 (wrap64 (a1_1 + 1)), u171002] 35 (0, 0)) (bV BK170) hg (Kd.R_ne HO_171002.out BK170.out (by decide))); replace BK172 := Aside0.mk (blk_grown (g := gb172) (o := .cells #[.int .i64 (wrap64 (((rd_T48 l1_2 x38_2).f0) + ((rd_T48 l1_2 x38_2).f2))), .int .i64 (wrap64 (((rd_T48 l1_2 x38_2).f1) + ((rd_T48 l1_2 x38_2).f3))), .int .i64 ((rd_T48 l1_2 x38_2).f2), .int .i64 (wrap64 (((rd_T48 l1_2 x38_2).f3) - a0_6)), .int .i64 (wrap64 (((rd_T48 l1_2 x38_2).f4) - 1))] 48 (0, 0)) (bV BK172) hg (Kd.R_away HO_171002.out (fun _ hk => hk))); replace HB := Aside0.mk hb; have HO175 := Aside0.mk ho; clear HO_171002; clear ho hb hg hat; obtain ⟨Ao84, co84, eo84⟩ := Kd.R_slice HO175.out; subst eo84; have hcz85_0 := cz BK170 0 (.int .i64 a1_0); have hcz85_1 := cz BK170 1 (.int .i64 (wrap64 (a1_1 + 1))); have hcz85_2 := cz BK170 2 (u171002); have hfz85_0 := fz BK170 0; have hfz85_1 := fz BK170 1; have hfz85_2 := fz BK170 2) | ((with_reducible refine gate_store (t := 33) (p := 72) rfl ?_); refine store_event (t := 33) (p := 72) (v := ?vo_w86) (w1 := (w83.setCell ⟨gb170, 2, none⟩ (.slice Ao84 y173.length co84))) ?hg ?ho ?hn ?hr ?_; (case ho => rfl); (case hg => rfl); (case hn => rfl); (case hr => first | (go_simp; done) | (go_simp; rfl) | (have hq0_ := (blk_cell BK170.out 2).trans (show _ = some _ from rfl); have hf0_ := blk_frozen BK170.out 2; first | (go_simp; done) | (go_simp; rfl))); intro w86 hw; replace HO175 : Aside0 (Kd.R k48 48 w86 w.heap.size (fun k_ => k_ ≠ gb172) (.slice Ao84 y173.length co84) y173) := ⟨(by rw [hw]; exact (by (with_reducible repeat (first | apply Kd.R_alloc | apply Kd.R_drewN | apply Kd.R_drew)); exact Kd.R_mono (Kd.R_far (p := ⟨gb170, 2, none⟩) (Kd.R_types HO175.out BK170.out (by decide)) (fun _ hk => hk.2) (.slice Ao84 y173.length co84)) (fun _ hk => hk.1)))⟩; replace BK165 : Aside0 (w86.heap[gb165]? = some (.cells #[.int .i64 a0_0, .int .i64 a0_1, .int .i64 a0_2, .int .i64 a0_3, .int .i64 a0_4, .int .i64 a0_5, .int .i64 a0_6] 26 (0, 0))) := ⟨(by rw [hw]; exact (bG NB165_170 BK165))⟩; replace BK166 : Aside0 (w86.heap[gb166]? = some (.cells #[.int .i64 a1_0, .int .i64 a1_1, .slice (some ad171) l1_2.length c1_2] 35 (0, 0))) := ⟨(by rw [hw]; exact (bG NB166_170 BK166))⟩; replace BK167 : Aside0 (w86.heap[gb167]? = some (.cells #[.int .i64 0, .int .i64 0, .slice none 0 0] 35 (0, 0))) := ⟨(by rw [hw]; exact (bG NB167_170 BK167))⟩; replace BK170 : Aside0 (w86.heap[gb170]? = some (.cells #[.int .i64 a1_0, .int .i64 (wrap64 (a1_1 + 1)), .slice Ao84 y173.length co84] 35 (0, 0))) := ⟨(by rw [hw]; exact (by refine bU ?_; refine blk_put (cs := #[.int .i64 a1_0, .int .i64 (wrap64 (a1_1 + 1)), u171002]) ?_ 2 _ rfl; refine bU ?_; exact BK170.out))⟩; replace BK172 : Aside0 (w86.heap[gb172]? = some (.cells #[.int .i64 (wrap64 (((rd_T48 l1_2 x38_2).f0) + ((rd_T48 l1_2 x38_2).f2))), .int .i64 (wrap64 (((rd_T48 l1_2 x38_2).f1) + ((rd_T48 l1_2 x38_2).f3))), .int .i64 ((rd_T48 l1_2 x38_2).f2), .int .i64 (wrap64 (((rd_T48 l1_2 x38_2).f3) - a0_6)), .int .i64 (wrap64 (((rd_T48 l1_2 x38_2).f4) - 1))] 48 (0, 0))) := ⟨(by rw [hw]; exact (bG NB172_170 BK172))⟩; replace HB : Aside0 (Below w.heap.size w w86) := ⟨(by rw [hw]; exact (lV5 GE165 GE166 GE167 GE170 GE172))⟩; clear hw))
           go_roundg k2
           case measure => have := HJ2.out; have := HK2.out; omega
           case rel => exact ⟨(wrap64 (x38_2 + 1)), (y173), (.slice Ao84 y173.length co84), tE, H', ⟨by have := HJ2.out; have := HK2.out; omega⟩, ⟨by (with_reducible repeat (first | apply Kd.R_alloc | apply Kd.R_drewN | apply Kd.R_drew)); exact Kd.R_mono HO175.out (fun _ hk => trivial)⟩, ⟨by refine bU ?_; exact BK165.out⟩, ⟨by refine bU ?_; exact BK166.out⟩, ⟨by refine bU ?_; exact BK167.out⟩, ⟨by refine bU ?_; exact BK170.out⟩, ⟨by repeat (first | (with_reducible first | exact HB.out | apply below_alloc | apply pw_below_drewN | apply below_drew1 | refine below_set ?_ GE165.out | refine below_set ?_ GE166.out | refine below_set ?_ GE167.out | refine below_set ?_ GE170.out | refine below_set ?_ GE172.out) | exact HB.out)⟩⟩
          ·rw [if_neg c59] at H
           exact absurd H (by simp)
        ·rw [if_neg c47] at H
         exact absurd H (by simp)
       ·rw [if_neg c46] at H
        exact absurd H (by simp)
      ·rw [if_neg c45] at H
       have c45b0 : decide (x38_2 < (l1_2.length : Int)) = false := decide_eq_false c45
       clear c45
       by_cases c87 : a0_2 = 0
       ·rw [if_pos c87] at H
        exact absurd H (by simp)
       ·rw [if_neg c87] at H
        have c87b0 : (a0_2 == 0) = false := beq_eq_false_iff_ne.mpr c87
        have c87b1 : (a0_2 != 0) = true := bne_iff_ne.mpr c87
        by_cases c88 : (Int.tmod a1_1 a0_2) = 0
        ·rw [if_pos c88] at H
         have c88b0 : ((Int.tmod a1_1 a0_2) == 0) = true := beq_iff_eq.mpr c88
         have c88b1 : ((Int.tmod a1_1 a0_2) != 0) = false := bne_eq_false_iff_eq.mpr c88
         clear c88
         have H' := Aside0.mk H
         clear H
         have hnb89 := NB166_165.out
         have hnc89 := NB165_166.out
         have hnb90 := NB166_167.out
         have hnc90 := NB167_166.out
         have hnb91 := NB166_170.out
         have hnc91 := NB170_166.out
         have hcz92_0 := cz BK166 0 (.int .i64 a1_0)
         have hcz92_1 := cz BK166 1 (.int .i64 a1_1)
         have hcz92_2 := cz BK166 2 (.slice A1_2 l1_2.length c1_2)
         have hfz92_0 := fz BK166 0
         have hfz92_1 := fz BK166 1
         have hfz92_2 := fz BK166 2
         have hnb93 := NB165_167.out
         have hnc93 := NB167_165.out
         have hnb94 := NB165_170.out
         have hnc94 := NB170_165.out
         have hcz95_0 := cz BK165 0 (.int .i64 a0_0)
         have hcz95_1 := cz BK165 1 (.int .i64 a0_1)
         have hcz95_2 := cz BK165 2 (.int .i64 a0_2)
         have hcz95_3 := cz BK165 3 (.int .i64 a0_3)
         have hcz95_4 := cz BK165 4 (.int .i64 a0_4)
         have hcz95_5 := cz BK165 5 (.int .i64 a0_5)
         have hcz95_6 := cz BK165 6 (.int .i64 a0_6)
         have hfz95_0 := fz BK165 0
         have hfz95_1 := fz BK165 1
         have hfz95_2 := fz BK165 2
         have hfz95_3 := fz BK165 3
         have hfz95_4 := fz BK165 4
         have hfz95_5 := fz BK165 5
         have hfz95_6 := fz BK165 6
         go_wp2
         go_loopg [9] k2 (fun kq v9 w' => ∃ (x9_3 : Int) (x171000_3 : Int) (x171002_3 : List (S48)) (u171002 : Value), v9 = .int .i64 x9_3 ∧ Aside0 (spec_StepCloud.l1 kq x9_3 a0_0 a0_1 a0_2 a0_3 a0_4 a0_5 a0_6 x171000_3 (wrap64 (a1_1 + 1)) x171002_3 = some (r1, r2, r3, r4)) ∧ Aside0 (kq ≤ k2) ∧ Aside0 (Kd.R k48 48 w' w.heap.size (fun _ => True) u171002 x171002_3) ∧ Aside0 (w'.heap[gb165]? = some (.cells #[.int .i64 a0_0, .int .i64 a0_1, .int .i64 a0_2, .int .i64 a0_3, .int .i64 a0_4, .int .i64 a0_5, .int .i64 a0_6] 26 (0, 0))) ∧ Aside0 (w'.heap[gb166]? = some (.cells #[.int .i64 a1_0, .int .i64 a1_1, (.slice A1_2 l1_2.length c1_2)] 35 (0, 0))) ∧ Aside0 (w'.heap[gb167]? = some (.cells #[.int .i64 0, .int .i64 0, (.slice none 0 0)] 35 (0, 0))) ∧ Aside0 (w'.heap[gb170]? = some (.cells #[.int .i64 x171000_3, .int .i64 (wrap64 (a1_1 + 1)), u171002] 35 (0, 0))) ∧ Aside0 (Below w.heap.size w w'))
         case atStart => exact ⟨(0), (a1_0), (x171002_2), (u171002), tE, H', ⟨Nat.le_refl _⟩, ⟨by (with_reducible repeat (first | apply Kd.R_alloc | apply Kd.R_drewN | apply Kd.R_drew)); exact HO_171002.out⟩, ⟨by refine bU ?_; exact BK165.out⟩, ⟨by refine bU ?_; exact BK166.out⟩, ⟨by refine bU ?_; exact BK167.out⟩, ⟨by refine bU ?_; exact BK170.out⟩, ⟨by repeat (first | (with_reducible first | exact HB.out | apply below_alloc | apply pw_below_drewN | apply below_drew1 | refine below_set ?_ GE165.out | refine below_set ?_ GE166.out | refine below_set ?_ GE167.out | refine below_set ?_ GE170.out) | exact HB.out)⟩⟩
         case round =>
          clear H'
          try clear c1
          try clear p1
          try clear q1
          try clear hx1
          try clear c2
          try clear p2
          try clear q2
          try clear hf2
          try clear c3
          try clear q3
          try clear hf3
          try clear c4
          try clear q4
          try clear hf4
          try clear c5
          try clear c6
          try clear p6
          try clear c7
          try clear c8
          try clear c9
          try clear c10
          try clear c11
          try clear c12
          try clear c15
          try clear p17
          try clear q17
          try clear hx17
          try clear c19
          try clear c20
          try clear c23
          try clear c26
          try clear c27
          try clear c30
          try clear c31
          try clear c32
          try clear c35
          try clear c36
          try clear c39
          try clear c40
          try clear c41
          try clear c45
          try clear c45b0
          try clear c46
          try clear c46b0
          try clear c47
          try clear c47b0
          try clear c48
          try clear c48b0
          try clear c48b1
          try clear c50
          try clear c51
          try clear c52
          try clear c53
          try clear c59
          try clear c61
          try clear c62
          try clear c63
          try clear c64
          try clear p64
          try clear c74
          try clear c75
          try clear c76
          try clear c79
          try clear c80
          try clear c87
          try clear c87b0
          try clear c87b1
          try clear c88
          try clear c88b0
          try clear c88b1
          try clear c89
          try clear c90
          try clear c91
          try clear c93
          try clear c94
          try clear hcz13_0
          try clear hcz13_1
          try clear hcz13_2
          try clear hcz13_3
          try clear hcz13_4
          try clear hcz13_5
          try clear hcz13_6
          try clear hcz16_0
          try clear hcz16_1
          try clear hcz16_2
          try clear hcz18_0
          try clear hcz18_1
          try clear hcz18_2
          try clear hcz21_0
          try clear hcz21_1
          try clear hcz21_2
          try clear hcz21_3
          try clear hcz21_4
          try clear hcz21_5
          try clear hcz21_6
          try clear hcz24_0
          try clear hcz24_1
          try clear hcz24_2
          try clear hcz28_0
          try clear hcz28_1
          try clear hcz28_2
          try clear hcz28_3
          try clear hcz28_4
          try clear hcz28_5
          try clear hcz28_6
          try clear hcz33_0
          try clear hcz33_1
          try clear hcz33_2
          try clear hcz37_0
          try clear hcz37_1
          try clear hcz37_2
          try clear hcz42_0
          try clear hcz42_1
          try clear hcz42_2
          try clear hcz44_0
          try clear hcz44_1
          try clear hcz44_2
          try clear hcz54_0
          try clear hcz54_1
          try clear hcz54_2
          try clear hcz54_3
          try clear hcz54_4
          try clear hcz56_0
          try clear hcz56_1
          try clear hcz56_2
          try clear hcz56_3
          try clear hcz56_4
          try clear hcz58_0
          try clear hcz58_1
          try clear hcz58_2
          try clear hcz58_3
          try clear hcz58_4
          try clear hcz65_0
          try clear hcz65_1
          try clear hcz65_2
          try clear hcz65_3
          try clear hcz65_4
          try clear hcz67_0
          try clear hcz67_1
          try clear hcz67_2
          try clear hcz67_3
          try clear hcz67_4
          try clear hcz69_0
          try clear hcz69_1
          try clear hcz69_2
          try clear hcz69_3
          try clear hcz69_4
          try clear hcz71_0
          try clear hcz71_1
          try clear hcz71_2
          try clear hcz71_3
          try clear hcz71_4
          try clear hcz73_0
          try clear hcz73_1
          try clear hcz73_2
          try clear hcz73_3
          try clear hcz73_4
          try clear hcz77_0
          try clear hcz77_1
          try clear hcz77_2
          try clear hcz77_3
          try clear hcz77_4
          try clear hcz77_5
          try clear hcz77_6
          try clear hcz81_0
          try clear hcz81_1
          try clear hcz81_2
          try clear hcz82_0
          try clear hcz82_1
          try clear hcz82_2
          try clear hcz82_3
          try clear hcz82_4
          try clear hcz85_0
          try clear hcz85_1
          try clear hcz85_2
          try clear hcz92_0
          try clear hcz92_1
          try clear hcz92_2
          try clear hcz95_0
          try clear hcz95_1
          try clear hcz95_2
          try clear hcz95_3
          try clear hcz95_4
          try clear hcz95_5
          try clear hcz95_6
          try clear hfz13_0
          try clear hfz13_1
          try clear hfz13_2
          try clear hfz13_3
          try clear hfz13_4
          try clear hfz13_5
          try clear hfz13_6
          try clear hfz16_0
          try clear hfz16_1
          try clear hfz16_2
          try clear hfz18_0
          try clear hfz18_1
          try clear hfz18_2
          try clear hfz21_0
          try clear hfz21_1
          try clear hfz21_2
          try clear hfz21_3
          try clear hfz21_4
          try clear hfz21_5
          try clear hfz21_6
          try clear hfz24_0
          try clear hfz24_1
          try clear hfz24_2
          try clear hfz28_0
          try clear hfz28_1
          try clear hfz28_2
          try clear hfz28_3
          try clear hfz28_4
          try clear hfz28_5
          try clear hfz28_6
          try clear hfz33_0
          try clear hfz33_1
          try clear hfz33_2
          try clear hfz37_0
          try clear hfz37_1
          try clear hfz37_2
          try clear hfz42_0
          try clear hfz42_1
          try clear hfz42_2
          try clear hfz44_0
          try clear hfz44_1
          try clear hfz44_2
          try clear hfz54_0
          try clear hfz54_1
          try clear hfz54_2
          try clear hfz54_3
          try clear hfz54_4
          try clear hfz56_0
          try clear hfz56_1
          try clear hfz56_2
          try clear hfz56_3
          try clear hfz56_4
          try clear hfz58_0
          try clear hfz58_1
          try clear hfz58_2
          try clear hfz58_3
          try clear hfz58_4
          try clear hfz65_0
          try clear hfz65_1
          try clear hfz65_2
          try clear hfz65_3
          try clear hfz65_4
          try clear hfz67_0
          try clear hfz67_1
          try clear hfz67_2
          try clear hfz67_3
          try clear hfz67_4
          try clear hfz69_0
          try clear hfz69_1
          try clear hfz69_2
          try clear hfz69_3
          try clear hfz69_4
          try clear hfz71_0
          try clear hfz71_1
          try clear hfz71_2
          try clear hfz71_3
          try clear hfz71_4
          try clear hfz73_0
          try clear hfz73_1
          try clear hfz73_2
          try clear hfz73_3
          try clear hfz73_4
          try clear hfz77_0
          try clear hfz77_1
          try clear hfz77_2
          try clear hfz77_3
          try clear hfz77_4
          try clear hfz77_5
          try clear hfz77_6
          try clear hfz81_0
          try clear hfz81_1
          try clear hfz81_2
          try clear hfz82_0
          try clear hfz82_1
          try clear hfz82_2
          try clear hfz82_3
          try clear hfz82_4
          try clear hfz85_0
          try clear hfz85_1
          try clear hfz85_2
          try clear hfz92_0
          try clear hfz92_1
          try clear hfz92_2
          try clear hfz95_0
          try clear hfz95_1
          try clear hfz95_2
          try clear hfz95_3
          try clear hfz95_4
          try clear hfz95_5
          try clear hfz95_6
          try clear hx171_0
          try clear hx171_1
          try clear hx171_2
          try clear hx171_3
          try clear hx171_4
          try clear p171
          try clear p2
          try clear p6
          try clear q1
          try clear q171
          try clear q2
          obtain ⟨x9_3, x171000_3, x171002_3, u171002, rfl, HA, HK3, HO_171002, BK165, BK166, BK167, BK170, HB⟩ := hrel
          cases gk with
          | zero => exact absurd HA.out (by simp [spec_StepCloud.l1])
          | succ k3 =>
           have H := HA.out
           clear HA
           simp only [spec_StepCloud.l1] at H
           have HC96 := Aside0.mk H
           clear H
           go_upto_region 16 with (fail)
           go_cut [89] (fun v89 wc => ∃ (kq : Nat) (x89_95 : Bool), v89 = .bool x89_95 ∧ Aside0 (spec_StepCloud.j3 kq x9_3 x89_95 a0_0 a0_1 a0_2 a0_3 a0_4 a0_5 a0_6 x171000_3 (wrap64 (a1_1 + 1)) x171002_3 = some (r1, r2, r3, r4)) ∧ Aside0 (kq ≤ k3) ∧ Aside0 (Kd.R k48 48 wc w.heap.size (fun _ => True) u171002 x171002_3) ∧ Aside0 (wc.heap[gb165]? = some (.cells #[.int .i64 a0_0, .int .i64 a0_1, .int .i64 a0_2, .int .i64 a0_3, .int .i64 a0_4, .int .i64 a0_5, .int .i64 a0_6] 26 (0, 0))) ∧ Aside0 (wc.heap[gb166]? = some (.cells #[.int .i64 a1_0, .int .i64 a1_1, (.slice A1_2 l1_2.length c1_2)] 35 (0, 0))) ∧ Aside0 (wc.heap[gb167]? = some (.cells #[.int .i64 0, .int .i64 0, (.slice none 0 0)] 35 (0, 0))) ∧ Aside0 (wc.heap[gb170]? = some (.cells #[.int .i64 x171000_3, .int .i64 (wrap64 (a1_1 + 1)), u171002] 35 (0, 0))) ∧ Aside0 (Below w.heap.size w wc))
           case first =>
            have H := HC96.out
            clear HC96
            by_cases c97 : x9_3 < a0_3
            ·rw [if_pos c97] at H
             have c97b0 : decide (x9_3 < a0_3) = true := decide_eq_true c97
             clear c97
             (first | rw [c97b0] | (simp only [i64_w, i32_w]; rw [c97b0]) | (rw [c97b2]; simp only [Bool.not_false, Bool.not_true]) | skip)
             have H' := Aside0.mk H
             clear H
             have hnb98 := NB165_166.out
             have hnc98 := NB166_165.out
             have hnb99 := NB165_167.out
             have hnc99 := NB167_165.out
             have hnb100 := NB165_170.out
             have hnc100 := NB170_165.out
             have hcz101_0 := cz BK165 0 (.int .i64 a0_0)
             have hcz101_1 := cz BK165 1 (.int .i64 a0_1)
             have hcz101_2 := cz BK165 2 (.int .i64 a0_2)
             have hcz101_3 := cz BK165 3 (.int .i64 a0_3)
             have hcz101_4 := cz BK165 4 (.int .i64 a0_4)
             have hcz101_5 := cz BK165 5 (.int .i64 a0_5)
             have hcz101_6 := cz BK165 6 (.int .i64 a0_6)
             have hfz101_0 := fz BK165 0
             have hfz101_1 := fz BK165 1
             have hfz101_2 := fz BK165 2
             have hfz101_3 := fz BK165 3
             have hfz101_4 := fz BK165 4
             have hfz101_5 := fz BK165 5
             have hfz101_6 := fz BK165 6
             have hnb102 := NB170_166.out
             have hnc102 := NB166_170.out
             have hnb103 := NB170_167.out
             have hnc103 := NB167_170.out
             have hcz104_0 := cz BK170 0 (.int .i64 x171000_3)
             have hcz104_1 := cz BK170 1 (.int .i64 (wrap64 (a1_1 + 1)))
             have hcz104_2 := cz BK170 2 (u171002)
             have hfz104_0 := fz BK170 0
             have hfz104_1 := fz BK170 1
             have hfz104_2 := fz BK170 2
             obtain ⟨Ao105, co105, eo105⟩ := Kd.R_slice HO_171002.out
             subst eo105
             go_wp2
             go_meet
             case rel => exact ⟨_, (decide ((x171002_3.length : Int) < 60)), tE, H', ⟨by have := HJ2.out; have := HK2.out; have := HK3.out; first | omega | exact Nat.le_refl _⟩, ⟨by (with_reducible repeat (first | apply Kd.R_alloc | apply Kd.R_drewN | apply Kd.R_drew)); exact HO_171002.out⟩, ⟨by refine bU ?_; exact BK165.out⟩, ⟨by refine bU ?_; exact BK166.out⟩, ⟨by refine bU ?_; exact BK167.out⟩, ⟨by refine bU ?_; exact BK170.out⟩, ⟨by repeat (first | (with_reducible first | exact HB.out | apply below_alloc | apply pw_below_drewN | apply below_drew1 | refine below_set ?_ GE165.out | refine below_set ?_ GE166.out | refine below_set ?_ GE167.out | refine below_set ?_ GE170.out) | exact HB.out)⟩⟩
            ·rw [if_neg c97] at H
             have c97b0 : decide (x9_3 < a0_3) = false := decide_eq_false c97
             clear c97
             (first | rw [c97b0] | (simp only [i64_w, i32_w]; rw [c97b0]) | (rw [c97b2]; simp only [Bool.not_false, Bool.not_true]) | skip)
             have H' := Aside0.mk H
             clear H
             have hnb106 := NB165_166.out
             have hnc106 := NB166_165.out
             have hnb107 := NB165_167.out
             have hnc107 := NB167_165.out
             have hnb108 := NB165_170.out
             have hnc108 := NB170_165.out
             have hcz109_0 := cz BK165 0 (.int .i64 a0_0)
             have hcz109_1 := cz BK165 1 (.int .i64 a0_1)
             have hcz109_2 := cz BK165 2 (.int .i64 a0_2)
             have hcz109_3 := cz BK165 3 (.int .i64 a0_3)
             have hcz109_4 := cz BK165 4 (.int .i64 a0_4)
             have hcz109_5 := cz BK165 5 (.int .i64 a0_5)
             have hcz109_6 := cz BK165 6 (.int .i64 a0_6)
             have hfz109_0 := fz BK165 0
             have hfz109_1 := fz BK165 1
             have hfz109_2 := fz BK165 2
             have hfz109_3 := fz BK165 3
             have hfz109_4 := fz BK165 4
             have hfz109_5 := fz BK165 5
             have hfz109_6 := fz BK165 6
             go_wp2
             go_meet
             case rel => exact ⟨_, (false), tE, H', ⟨by have := HJ2.out; have := HK2.out; have := HK3.out; first | omega | exact Nat.le_refl _⟩, ⟨by (with_reducible repeat (first | apply Kd.R_alloc | apply Kd.R_drewN | apply Kd.R_drew)); exact HO_171002.out⟩, ⟨by refine bU ?_; exact BK165.out⟩, ⟨by refine bU ?_; exact BK166.out⟩, ⟨by refine bU ?_; exact BK167.out⟩, ⟨by refine bU ?_; exact BK170.out⟩, ⟨by repeat (first | (with_reducible first | exact HB.out | apply below_alloc | apply pw_below_drewN | apply below_drew1 | refine below_set ?_ GE165.out | refine below_set ?_ GE166.out | refine below_set ?_ GE167.out | refine below_set ?_ GE170.out) | exact HB.out)⟩⟩
           case rest =>
            clear HC96
            try clear c1
            try clear p1
            try clear q1
            try clear hx1
            try clear c2
            try clear p2
            try clear q2
            try clear hf2
            try clear c3
            try clear q3
            try clear hf3
            try clear c4
            try clear q4
            try clear hf4
            try clear c5
            try clear c6
            try clear p6
            try clear c7
            try clear c8
            try clear c9
            try clear c10
            try clear c11
            try clear c12
            try clear c15
            try clear p17
            try clear q17
            try clear hx17
            try clear c19
            try clear c20
            try clear c23
            try clear c26
            try clear c27
            try clear c30
            try clear c31
            try clear c32
            try clear c35
            try clear c36
            try clear c39
            try clear c40
            try clear c41
            try clear c45
            try clear c45b0
            try clear c46
            try clear c46b0
            try clear c47
            try clear c47b0
            try clear c48
            try clear c48b0
            try clear c48b1
            try clear c50
            try clear c51
            try clear c52
            try clear c53
            try clear c59
            try clear c61
            try clear c62
            try clear c63
            try clear c64
            try clear p64
            try clear c74
            try clear c75
            try clear c76
            try clear c79
            try clear c80
            try clear c87
            try clear c87b0
            try clear c87b1
            try clear c88
            try clear c88b0
            try clear c88b1
            try clear c89
            try clear c90
            try clear c91
            try clear c93
            try clear c94
            try clear c97
            try clear c97b0
            try clear c97b2
            try clear c98
            try clear c99
            try clear c100
            try clear c102
            try clear c103
            try clear c106
            try clear c107
            try clear c108
            try clear hcz101_0
            try clear hcz101_1
            try clear hcz101_2
            try clear hcz101_3
            try clear hcz101_4
            try clear hcz101_5
            try clear hcz101_6
            try clear hcz104_0
            try clear hcz104_1
            try clear hcz104_2
            try clear hcz109_0
            try clear hcz109_1
            try clear hcz109_2
            try clear hcz109_3
            try clear hcz109_4
            try clear hcz109_5
            try clear hcz109_6
            try clear hcz13_0
            try clear hcz13_1
            try clear hcz13_2
            try clear hcz13_3
            try clear hcz13_4
            try clear hcz13_5
            try clear hcz13_6
            try clear hcz16_0
            try clear hcz16_1
            try clear hcz16_2
            try clear hcz18_0
            try clear hcz18_1
            try clear hcz18_2
            try clear hcz21_0
            try clear hcz21_1
            try clear hcz21_2
            try clear hcz21_3
            try clear hcz21_4
            try clear hcz21_5
            try clear hcz21_6
            try clear hcz24_0
            try clear hcz24_1
            try clear hcz24_2
            try clear hcz28_0
            try clear hcz28_1
            try clear hcz28_2
            try clear hcz28_3
            try clear hcz28_4
            try clear hcz28_5
            try clear hcz28_6
            try clear hcz33_0
            try clear hcz33_1
            try clear hcz33_2
            try clear hcz37_0
            try clear hcz37_1
            try clear hcz37_2
            try clear hcz42_0
            try clear hcz42_1
            try clear hcz42_2
            try clear hcz44_0
            try clear hcz44_1
            try clear hcz44_2
            try clear hcz54_0
            try clear hcz54_1
            try clear hcz54_2
            try clear hcz54_3
            try clear hcz54_4
            try clear hcz56_0
            try clear hcz56_1
            try clear hcz56_2
            try clear hcz56_3
            try clear hcz56_4
            try clear hcz58_0
            try clear hcz58_1
            try clear hcz58_2
            try clear hcz58_3
            try clear hcz58_4
            try clear hcz65_0
            try clear hcz65_1
            try clear hcz65_2
            try clear hcz65_3
            try clear hcz65_4
            try clear hcz67_0
            try clear hcz67_1
            try clear hcz67_2
            try clear hcz67_3
            try clear hcz67_4
            try clear hcz69_0
            try clear hcz69_1
            try clear hcz69_2
            try clear hcz69_3
            try clear hcz69_4
            try clear hcz71_0
            try clear hcz71_1
            try clear hcz71_2
            try clear hcz71_3
            try clear hcz71_4
            try clear hcz73_0
            try clear hcz73_1
            try clear hcz73_2
            try clear hcz73_3
            try clear hcz73_4
            try clear hcz77_0
            try clear hcz77_1
            try clear hcz77_2
            try clear hcz77_3
            try clear hcz77_4
            try clear hcz77_5
            try clear hcz77_6
            try clear hcz81_0
            try clear hcz81_1
            try clear hcz81_2
            try clear hcz82_0
            try clear hcz82_1
            try clear hcz82_2
            try clear hcz82_3
            try clear hcz82_4
            try clear hcz85_0
            try clear hcz85_1
            try clear hcz85_2
            try clear hcz92_0
            try clear hcz92_1
            try clear hcz92_2
            try clear hcz95_0
            try clear hcz95_1
            try clear hcz95_2
            try clear hcz95_3
            try clear hcz95_4
            try clear hcz95_5
            try clear hcz95_6
            try clear hfz101_0
            try clear hfz101_1
            try clear hfz101_2
            try clear hfz101_3
            try clear hfz101_4
            try clear hfz101_5
            try clear hfz101_6
            try clear hfz104_0
            try clear hfz104_1
            try clear hfz104_2
            try clear hfz109_0
            try clear hfz109_1
            try clear hfz109_2
            try clear hfz109_3
            try clear hfz109_4
            try clear hfz109_5
            try clear hfz109_6
            try clear hfz13_0
            try clear hfz13_1
            try clear hfz13_2
            try clear hfz13_3
            try clear hfz13_4
            try clear hfz13_5
            try clear hfz13_6
            try clear hfz16_0
            try clear hfz16_1
            try clear hfz16_2
            try clear hfz18_0
            try clear hfz18_1
            try clear hfz18_2
            try clear hfz21_0
            try clear hfz21_1
            try clear hfz21_2
            try clear hfz21_3
            try clear hfz21_4
            try clear hfz21_5
            try clear hfz21_6
            try clear hfz24_0
            try clear hfz24_1
            try clear hfz24_2
            try clear hfz28_0
            try clear hfz28_1
            try clear hfz28_2
            try clear hfz28_3
            try clear hfz28_4
            try clear hfz28_5
            try clear hfz28_6
            try clear hfz33_0
            try clear hfz33_1
            try clear hfz33_2
            try clear hfz37_0
            try clear hfz37_1
            try clear hfz37_2
            try clear hfz42_0
            try clear hfz42_1
            try clear hfz42_2
            try clear hfz44_0
            try clear hfz44_1
            try clear hfz44_2
            try clear hfz54_0
            try clear hfz54_1
            try clear hfz54_2
            try clear hfz54_3
            try clear hfz54_4
            try clear hfz56_0
            try clear hfz56_1
            try clear hfz56_2
            try clear hfz56_3
            try clear hfz56_4
            try clear hfz58_0
            try clear hfz58_1
            try clear hfz58_2
            try clear hfz58_3
            try clear hfz58_4
            try clear hfz65_0
            try clear hfz65_1
            try clear hfz65_2
            try clear hfz65_3
            try clear hfz65_4
            try clear hfz67_0
            try clear hfz67_1
            try clear hfz67_2
            try clear hfz67_3
            try clear hfz67_4
            try clear hfz69_0
            try clear hfz69_1
            try clear hfz69_2
            try clear hfz69_3
            try clear hfz69_4
            try clear hfz71_0
            try clear hfz71_1
            try clear hfz71_2
            try clear hfz71_3
            try clear hfz71_4
            try clear hfz73_0
            try clear hfz73_1
            try clear hfz73_2
            try clear hfz73_3
            try clear hfz73_4
            try clear hfz77_0
            try clear hfz77_1
            try clear hfz77_2
            try clear hfz77_3
            try clear hfz77_4
            try clear hfz77_5
            try clear hfz77_6
            try clear hfz81_0
            try clear hfz81_1
            try clear hfz81_2
            try clear hfz82_0
            try clear hfz82_1
            try clear hfz82_2
            try clear hfz82_3
            try clear hfz82_4
            try clear hfz85_0
            try clear hfz85_1
            try clear hfz85_2
            try clear hfz92_0
            try clear hfz92_1
            try clear hfz92_2
            try clear hfz95_0
            try clear hfz95_1
            try clear hfz95_2
            try clear hfz95_3
            try clear hfz95_4
            try clear hfz95_5
            try clear hfz95_6
            try clear hx171_0
            try clear hx171_1
            try clear hx171_2
            try clear hx171_3
            try clear hx171_4
            try clear p1
            try clear p17
            try clear p171
            try clear p2
            try clear p6
            try clear p64
            try clear q1
            try clear q17
            try clear q171
            try clear q2
            try clear q3
            try clear q4
            obtain ⟨kq, x89_95, rfl, HA, HJ95, HO_171002, BK165, BK166, BK167, BK170, HB⟩ := hcut
            cases kq with
            | zero => exact absurd HA.out (by simp [spec_StepCloud.j3])
            | succ kj95 =>
             have H := HA.out
             clear HA
             simp only [spec_StepCloud.j3] at H
             by_cases c110 : x89_95 = true
             ·subst c110
              have H1 : ((spec_l1Coin.f x171000_3).bind fun bt177 => ((spec_l1Coin.f bt177.1).bind fun bt179 => ((spec_CosOf.f kj95 (Int.tmod bt177.2 4096)).bind fun t181 => ((spec_FixMul.f kj95 (wrap64 (Int.tdiv (wrap64 (a0_5 * bt179.2)) 32768)) t181).bind fun t182 => ((spec_SinOf.f kj95 (Int.tmod bt177.2 4096)).bind fun t183 => ((spec_FixMul.f kj95 (wrap64 (Int.tdiv (wrap64 (a0_5 * bt179.2)) 32768)) t183).bind fun t184 => (if x171002_3.length < 3518437208883 then (spec_StepCloud.l1 kj95 (wrap64 (x9_3 + 1)) a0_0 a0_1 a0_2 a0_3 a0_4 a0_5 a0_6 bt179.1 (wrap64 (a1_1 + 1)) (x171002_3 ++ [(⟨a0_0, a0_1, t182, t184, a0_4⟩ : S48)])) else (none)))))))) = some (r1, r2, r3, r4) := by rw [if_pos rfl] at H; exact H
              clear H
              have H := H1
              clear H1
              replace H := Option.bind_eq_some_iff.mp H
              obtain ⟨⟨t177, t178⟩, A1110, H⟩ := H
              replace H : ((spec_l1Coin.f t177).bind fun bt179 => ((spec_CosOf.f kj95 (Int.tmod t178 4096)).bind fun t181 => ((spec_FixMul.f kj95 (wrap64 (Int.tdiv (wrap64 (a0_5 * bt179.2)) 32768)) t181).bind fun t182 => ((spec_SinOf.f kj95 (Int.tmod t178 4096)).bind fun t183 => ((spec_FixMul.f kj95 (wrap64 (Int.tdiv (wrap64 (a0_5 * bt179.2)) 32768)) t183).bind fun t184 => (if x171002_3.length < 3518437208883 then (spec_StepCloud.l1 kj95 (wrap64 (x9_3 + 1)) a0_0 a0_1 a0_2 a0_3 a0_4 a0_5 a0_6 bt179.1 (wrap64 (a1_1 + 1)) (x171002_3 ++ [(⟨a0_0, a0_1, t182, t184, a0_4⟩ : S48)])) else (none))))))) = some (r1, r2, r3, r4) := H
              have A111 := Aside0.mk A1110
              clear A1110
              replace H := Option.bind_eq_some_iff.mp H
              obtain ⟨⟨t179, t180⟩, A1120, H⟩ := H
              replace H : ((spec_CosOf.f kj95 (Int.tmod t178 4096)).bind fun t181 => ((spec_FixMul.f kj95 (wrap64 (Int.tdiv (wrap64 (a0_5 * t180)) 32768)) t181).bind fun t182 => ((spec_SinOf.f kj95 (Int.tmod t178 4096)).bind fun t183 => ((spec_FixMul.f kj95 (wrap64 (Int.tdiv (wrap64 (a0_5 * t180)) 32768)) t183).bind fun t184 => (if x171002_3.length < 3518437208883 then (spec_StepCloud.l1 kj95 (wrap64 (x9_3 + 1)) a0_0 a0_1 a0_2 a0_3 a0_4 a0_5 a0_6 t179 (wrap64 (a1_1 + 1)) (x171002_3 ++ [(⟨a0_0, a0_1, t182, t184, a0_4⟩ : S48)])) else (none)))))) = some (r1, r2, r3, r4) := H
              have A112 := Aside0.mk A1120
              clear A1120
              replace H := Option.bind_eq_some_iff.mp H
              obtain ⟨t181, A1130, H⟩ := H
              replace H : ((spec_FixMul.f kj95 (wrap64 (Int.tdiv (wrap64 (a0_5 * t180)) 32768)) t181).bind fun t182 => ((spec_SinOf.f kj95 (Int.tmod t178 4096)).bind fun t183 => ((spec_FixMul.f kj95 (wrap64 (Int.tdiv (wrap64 (a0_5 * t180)) 32768)) t183).bind fun t184 => (if x171002_3.length < 3518437208883 then (spec_StepCloud.l1 kj95 (wrap64 (x9_3 + 1)) a0_0 a0_1 a0_2 a0_3 a0_4 a0_5 a0_6 t179 (wrap64 (a1_1 + 1)) (x171002_3 ++ [(⟨a0_0, a0_1, t182, t184, a0_4⟩ : S48)])) else (none))))) = some (r1, r2, r3, r4) := H
              have A113 := Aside0.mk A1130
              clear A1130
              replace H := Option.bind_eq_some_iff.mp H
              obtain ⟨t182, A1140, H⟩ := H
              replace H : ((spec_SinOf.f kj95 (Int.tmod t178 4096)).bind fun t183 => ((spec_FixMul.f kj95 (wrap64 (Int.tdiv (wrap64 (a0_5 * t180)) 32768)) t183).bind fun t184 => (if x171002_3.length < 3518437208883 then (spec_StepCloud.l1 kj95 (wrap64 (x9_3 + 1)) a0_0 a0_1 a0_2 a0_3 a0_4 a0_5 a0_6 t179 (wrap64 (a1_1 + 1)) (x171002_3 ++ [(⟨a0_0, a0_1, t182, t184, a0_4⟩ : S48)])) else (none)))) = some (r1, r2, r3, r4) := H
              have A114 := Aside0.mk A1140
              clear A1140
              replace H := Option.bind_eq_some_iff.mp H
              obtain ⟨t183, A1150, H⟩ := H
              replace H : ((spec_FixMul.f kj95 (wrap64 (Int.tdiv (wrap64 (a0_5 * t180)) 32768)) t183).bind fun t184 => (if x171002_3.length < 3518437208883 then (spec_StepCloud.l1 kj95 (wrap64 (x9_3 + 1)) a0_0 a0_1 a0_2 a0_3 a0_4 a0_5 a0_6 t179 (wrap64 (a1_1 + 1)) (x171002_3 ++ [(⟨a0_0, a0_1, t182, t184, a0_4⟩ : S48)])) else (none))) = some (r1, r2, r3, r4) := H
              have A115 := Aside0.mk A1150
              clear A1150
              replace H := Option.bind_eq_some_iff.mp H
              obtain ⟨t184, A1160, H⟩ := H
              replace H : (if x171002_3.length < 3518437208883 then (spec_StepCloud.l1 kj95 (wrap64 (x9_3 + 1)) a0_0 a0_1 a0_2 a0_3 a0_4 a0_5 a0_6 t179 (wrap64 (a1_1 + 1)) (x171002_3 ++ [(⟨a0_0, a0_1, t182, t184, a0_4⟩ : S48)])) else (none)) = some (r1, r2, r3, r4) := H
              have A116 := Aside0.mk A1160
              clear A1160
              by_cases c117 : x171002_3.length < 3518437208883
              ·rw [if_pos c117] at H
               have LMc117 := Aside0.mk c117
               clear c117
               obtain ⟨y185, hy185⟩ : ∃ y_ : List (S48), y_ = (x171002_3 ++ [(⟨a0_0, a0_1, t182, t184, a0_4⟩ : S48)]) := ⟨_, rfl⟩
               replace H : (spec_StepCloud.l1 kj95 (wrap64 (x9_3 + 1)) a0_0 a0_1 a0_2 a0_3 a0_4 a0_5 a0_6 t179 (wrap64 (a1_1 + 1)) y185) = some (r1, r2, r3, r4) := by first | (rw [hy185]; with_reducible exact H) | (have H2_ := (Option.bind_some _ _).symm.trans H; rw [hy185]; with_reducible exact H2_) | (have H2_ := (Option.bind_some _ _).symm.trans H; with_reducible exact H2_) | with_reducible exact H | (rw [hy185]; exact H) | exact H
               have Ny185 := Aside0.mk hy185
               clear hy185
               have H' := Aside0.mk H
               clear H
               have hnb118 := NB170_165.out
               have hnc118 := NB165_170.out
               have hnb119 := NB170_166.out
               have hnc119 := NB166_170.out
               have hnb120 := NB170_167.out
               have hnc120 := NB167_170.out
               have hcz121_0 := cz BK170 0 (.int .i64 x171000_3)
               have hcz121_1 := cz BK170 1 (.int .i64 (wrap64 (a1_1 + 1)))
               have hcz121_2 := cz BK170 2 (u171002)
               have hfz121_0 := fz BK170 0
               have hfz121_1 := fz BK170 1
               have hfz121_2 := fz BK170 2
               try go_wp2_with (first | ((with_reducible refine gate_callee (f := 21) rfl ?_); refine goesL_ (some 95) rfl rfl Try.func21 (by kernel_rfl) rfl #[.int .i64 x171000_3] rfl aE ?_; (with_reducible refine (spec_l1Coin.calls x171000_3 t177 t178 _ A111.out).mono ?_); rintro e w' ⟨rfl, ⟨nd, rfl⟩⟩; refine ⟨_, rfl, ?_⟩; (try (rw [drewN_self wc]; generalize hq_ : World.drewN wc _ = wc; replace HO_171002 : Aside0 (Kd.R k48 48 wc w.heap.size (fun _ => True) u171002 x171002_3) := ⟨by rw [← hq_]; exact (rU HO_171002.out)⟩; replace BK165 : Aside0 (wc.heap[gb165]? = some (.cells #[.int .i64 a0_0, .int .i64 a0_1, .int .i64 a0_2, .int .i64 a0_3, .int .i64 a0_4, .int .i64 a0_5, .int .i64 a0_6] 26 (0, 0))) := ⟨by rw [← hq_]; exact (bV BK165)⟩; replace BK166 : Aside0 (wc.heap[gb166]? = some (.cells #[.int .i64 a1_0, .int .i64 a1_1, .slice A1_2 l1_2.length c1_2] 35 (0, 0))) := ⟨by rw [← hq_]; exact (bV BK166)⟩; replace BK167 : Aside0 (wc.heap[gb167]? = some (.cells #[.int .i64 0, .int .i64 0, .slice none 0 0] 35 (0, 0))) := ⟨by rw [← hq_]; exact (bV BK167)⟩; replace BK170 : Aside0 (wc.heap[gb170]? = some (.cells #[.int .i64 x171000_3, .int .i64 (wrap64 (a1_1 + 1)), u171002] 35 (0, 0))) := ⟨by rw [← hq_]; exact (bV BK170)⟩; replace HB : Aside0 (Below w.heap.size w wc) := ⟨by rw [← hq_]; exact (lV4 GE165 GE166 GE167 GE170)⟩; clear hq_))) | ((with_reducible refine gate_callee (f := 21) rfl ?_); refine goesL_ (some 100) rfl rfl Try.func21 (by kernel_rfl) rfl #[.int .i64 t177] rfl aE ?_; (with_reducible refine (spec_l1Coin.calls t177 t179 t180 _ A112.out).mono ?_); rintro e w' ⟨rfl, ⟨nd, rfl⟩⟩; refine ⟨_, rfl, ?_⟩; (try (rw [drewN_self wc]; generalize hq_ : World.drewN wc _ = wc; replace HO_171002 : Aside0 (Kd.R k48 48 wc w.heap.size (fun _ => True) u171002 x171002_3) := ⟨by rw [← hq_]; exact (rU HO_171002.out)⟩; replace BK165 : Aside0 (wc.heap[gb165]? = some (.cells #[.int .i64 a0_0, .int .i64 a0_1, .int .i64 a0_2, .int .i64 a0_3, .int .i64 a0_4, .int .i64 a0_5, .int .i64 a0_6] 26 (0, 0))) := ⟨by rw [← hq_]; exact (bV BK165)⟩; replace BK166 : Aside0 (wc.heap[gb166]? = some (.cells #[.int .i64 a1_0, .int .i64 a1_1, .slice A1_2 l1_2.length c1_2] 35 (0, 0))) := ⟨by rw [← hq_]; exact (bV BK166)⟩; replace BK167 : Aside0 (wc.heap[gb167]? = some (.cells #[.int .i64 0, .int .i64 0, .slice none 0 0] 35 (0, 0))) := ⟨by rw [← hq_]; exact (bV BK167)⟩; replace BK170 : Aside0 (wc.heap[gb170]? = some (.cells #[.int .i64 x171000_3, .int .i64 (wrap64 (a1_1 + 1)), u171002] 35 (0, 0))) := ⟨by rw [← hq_]; exact (bV BK170)⟩; replace HB : Aside0 (Below w.heap.size w wc) := ⟨by rw [← hq_]; exact (lV4 GE165 GE166 GE167 GE170)⟩; clear hq_))) | ((with_reducible refine gate_store (t := 3) (p := 104) rfl ?_); refine store_event (t := 3) (p := 104) (v := ?vo_w122) (w1 := (wc.setCell ⟨gb170, 0, none⟩ (.int .i64 t179))) ?hg ?ho ?hn ?hr ?_; (case ho => rfl); (case hg => rfl); (case hn => rfl); (case hr => first | (go_simp; done) | (go_simp; rfl) | (have hq0_ := (blk_cell BK170.out 0).trans (show _ = some _ from rfl); have hf0_ := blk_frozen BK170.out 0; first | (go_simp; done) | (go_simp; rfl))); intro w122 hw; replace HO_171002 : Aside0 (Kd.R k48 48 w122 w.heap.size (fun _ => True) u171002 x171002_3) := ⟨(by rw [hw]; exact (by (with_reducible repeat (first | apply Kd.R_alloc | apply Kd.R_drewN | apply Kd.R_drew)); exact Kd.R_mono (Kd.R_far (p := ⟨gb170, 0, none⟩) (Kd.R_types HO_171002.out BK170.out (by decide)) (fun _ hk => hk.2) (.int .i64 t179)) (fun _ hk => trivial)))⟩; replace BK165 : Aside0 (w122.heap[gb165]? = some (.cells #[.int .i64 a0_0, .int .i64 a0_1, .int .i64 a0_2, .int .i64 a0_3, .int .i64 a0_4, .int .i64 a0_5, .int .i64 a0_6] 26 (0, 0))) := ⟨(by rw [hw]; exact (bG NB165_170 BK165))⟩; replace BK166 : Aside0 (w122.heap[gb166]? = some (.cells #[.int .i64 a1_0, .int .i64 a1_1, .slice A1_2 l1_2.length c1_2] 35 (0, 0))) := ⟨(by rw [hw]; exact (bG NB166_170 BK166))⟩; replace BK167 : Aside0 (w122.heap[gb167]? = some (.cells #[.int .i64 0, .int .i64 0, .slice none 0 0] 35 (0, 0))) := ⟨(by rw [hw]; exact (bG NB167_170 BK167))⟩; replace BK170 : Aside0 (w122.heap[gb170]? = some (.cells #[.int .i64 t179, .int .i64 (wrap64 (a1_1 + 1)), u171002] 35 (0, 0))) := ⟨(by rw [hw]; exact (by refine bU ?_; refine blk_put (cs := #[.int .i64 x171000_3, .int .i64 (wrap64 (a1_1 + 1)), u171002]) ?_ 0 _ rfl; refine bU ?_; exact BK170.out))⟩; replace HB : Aside0 (Below w.heap.size w w122) := ⟨(by rw [hw]; exact (lV4 GE165 GE166 GE167 GE170))⟩; clear hw; have hnb123 := NB165_166.out; have hnc123 := NB166_165.out; have hnb124 := NB165_167.out; have hnc124 := NB167_165.out; have hcz125_0 := cz BK165 0 (.int .i64 a0_0); have hcz125_1 := cz BK165 1 (.int .i64 a0_1); have hcz125_2 := cz BK165 2 (.int .i64 a0_2); have hcz125_3 := cz BK165 3 (.int .i64 a0_3); have hcz125_4 := cz BK165 4 (.int .i64 a0_4); have hcz125_5 := cz BK165 5 (.int .i64 a0_5); have hcz125_6 := cz BK165 6 (.int .i64 a0_6); have hfz125_0 := fz BK165 0; have hfz125_1 := fz BK165 1; have hfz125_2 := fz BK165 2; have hfz125_3 := fz BK165 3; have hfz125_4 := fz BK165 4; have hfz125_5 := fz BK165 5; have hfz125_6 := fz BK165 6))
               replace HO_171002 := Aside0.mk (Kd.R_drew HO_171002.out)
               replace BK165 := Aside0.mk (blk_drew BK165.out)
               replace BK166 := Aside0.mk (blk_drew BK166.out)
               replace BK167 := Aside0.mk (blk_drew BK167.out)
               replace BK170 := Aside0.mk (blk_drew BK170.out)
               replace HB := Aside0.mk (below_drew1 HB.out)
               refine start_ (n := 23) (S := fun w' => w'.cell? ⟨gb170, 0, none⟩ = some (.int .i64 t179) ∧ w'.cell? ⟨gb170, 1, none⟩ = some (.int .i64 (wrap64 (a1_1 + 1))) ∧ w'.cell? ⟨gb170, 2, none⟩ = some (u171002) ∧ w'.cell? ⟨gb165, 0, none⟩ = some (.int .i64 a0_0) ∧ w'.cell? ⟨gb165, 1, none⟩ = some (.int .i64 a0_1) ∧ w'.cell? ⟨gb165, 2, none⟩ = some (.int .i64 a0_2) ∧ w'.cell? ⟨gb165, 3, none⟩ = some (.int .i64 a0_3) ∧ w'.cell? ⟨gb165, 4, none⟩ = some (.int .i64 a0_4) ∧ w'.cell? ⟨gb165, 5, none⟩ = some (.int .i64 a0_5) ∧ w'.cell? ⟨gb165, 6, none⟩ = some (.int .i64 a0_6)) (ds := [22]) #[false, false, false, false, false, false, false, false, false, false, false, false, false, false, false, false, false, false, false, false, false, false, false] (by kernel_rfl) rfl rfl ⟨cz BK170 0 _, cz BK170 1 _, cz BK170 2 _, cz BK165 0 _, cz BK165 1 _, cz BK165 2 _, cz BK165 3 _, cz BK165 4 _, cz BK165 5 _, cz BK165 6 _⟩ (fun hHeld => ?_); refine with_tabW spec_StepCloud.tab22 spec_StepCloud.bits22 (fun HT_ HW_ => ?_)
               generalize w122.drew = w126 at HO_171002 BK165 BK166 BK167 BK170 HB hHeld ⊢
               refine pureA 0 110 (bz 23 1) rfl rfl (any_of HT_.out (by kernel_rfl)) ?_
               refine pureA 2 112 (bz 23 5) rfl rfl (any_of HT_.out (by kernel_rfl)) ?_
               refine pureA 4 114 (bz 23 21) rfl rfl (any_of HT_.out (by kernel_rfl)) ?_
               refine pureA 6 116 (bz 23 85) rfl rfl (any_of HT_.out (by kernel_rfl)) ?_
               refine pureA 7 117 (bz 23 213) rfl rfl (any_of HT_.out (by kernel_rfl)) ?_
               refine pureA 8 118 (bz 23 469) rfl rfl (any_of HT_.out (by kernel_rfl)) ?_
               refine pureA 11 121 (bz 23 2517) rfl rfl (any_of HT_.out (by kernel_rfl)) ?_
               refine pureA 12 122 (bz 23 6613) rfl rfl (any_of HT_.out (by kernel_rfl)) ?_
               refine pureA 13 123 (bz 23 14805) rfl rfl (any_of HT_.out (by kernel_rfl)) ?_
               refine pureA 16 126 (bz 23 80341) rfl rfl (any_of HT_.out (by kernel_rfl)) ?_
               refine takeA 1 111 (bz 23 80343) rfl rfl (take_ofW HT_.out HW_.out (by kernel_rfl)) hHeld (by rintro w' ⟨s0, s1, s2, s3, s4, s5, s6, s7, s8, s9⟩; go_simp; with_reducible rfl) ?_
               refine takeA 3 113 (bz 23 80351) rfl rfl (take_ofW HT_.out HW_.out (by kernel_rfl)) hHeld (by rintro w' ⟨s0, s1, s2, s3, s4, s5, s6, s7, s8, s9⟩; go_simp; with_reducible rfl) ?_
               refine takeA 5 115 (bz 23 80383) rfl rfl (take_ofW HT_.out HW_.out (by kernel_rfl)) hHeld (by rintro w' ⟨s0, s1, s2, s3, s4, s5, s6, s7, s8, s9⟩; go_simp; with_reducible rfl) ?_
               refine takeA 17 127 (bz 23 211455) rfl rfl (take_ofW HT_.out HW_.out (by kernel_rfl)) hHeld (by rintro w' ⟨s0, s1, s2, s3, s4, s5, s6, s7, s8, s9⟩; go_simp; with_reducible rfl) ?_
               refine one_ (i := 9) (N := some 119) (bz 23 211967) rfl rfl (one_of HT_.out (by kernel_rfl)) (by decide) (fun K hK => ?_)
               refine goes_ Try.func23 (by kernel_rfl) rfl #[.int .i64 (Int.tmod t178 4096)] (by rfl) rfl rfl aE ?_
               with_reducible refine (spec_CosOf.calls kj95 (Int.tmod t178 4096) t181 _ A113.out).mono ?_
               rintro e w127 ⟨rfl, hb⟩
               refine ⟨_, rfl, ?_⟩
               replace HO_171002 := Aside0.mk (Kd.R_below (rU HO_171002.out) hb)
               replace BK165 := bB (bV BK165) hb
               replace BK166 := bB (bV BK166) hb
               replace BK167 := bB (bV BK167) hb
               replace BK170 := bB (bV BK170) hb
               replace HB := bH (lV4 GE165 GE166 GE167 GE170) hb
               (try clear hb)
               (try clear hb2)
               (try clear hk)
               (try clear hi)
               refine hK.out _ _ ⟨cz BK170 0 _, cz BK170 1 _, cz BK170 2 _, cz BK165 0 _, cz BK165 1 _, cz BK165 2 _, cz BK165 3 _, cz BK165 4 _, cz BK165 5 _, cz BK165 6 _⟩ (fun hHeld => ?_)
               clear hK K
               refine norm_ (a' := ?_) ?_ ?_
               rotate_left
               ·show Act.put _ (some 119) _ = _
                simp only [Act.put, List.setIfInBounds_toArray, List.set_cons_zero, List.set_cons_succ, i64_w, i32_w]
                rfl
               refine one_ (i := 10) (N := some 120) (bz 23 212991) rfl rfl (one_of HT_.out (by kernel_rfl)) (by decide) (fun K hK => ?_)
               refine goes_ Try.func22 (by kernel_rfl) rfl #[.int .i64 (wrap64 (Int.tdiv (wrap64 (a0_5 * t180)) 32768)), .int .i64 t181] (by rfl) rfl rfl aE ?_
               with_reducible refine (spec_FixMul.calls kj95 (wrap64 (Int.tdiv (wrap64 (a0_5 * t180)) 32768)) t181 t182 _ A114.out).mono ?_
               rintro e w128 ⟨rfl, hb⟩
               refine ⟨_, rfl, ?_⟩
               replace HO_171002 := Aside0.mk (Kd.R_below (rU HO_171002.out) hb)
               replace BK165 := bB (bV BK165) hb
               replace BK166 := bB (bV BK166) hb
               replace BK167 := bB (bV BK167) hb
               replace BK170 := bB (bV BK170) hb
               replace HB := bH (lV4 GE165 GE166 GE167 GE170) hb
               (try clear hb)
               (try clear hb2)
               (try clear hk)
               (try clear hi)
               refine hK.out _ _ ⟨cz BK170 0 _, cz BK170 1 _, cz BK170 2 _, cz BK165 0 _, cz BK165 1 _, cz BK165 2 _, cz BK165 3 _, cz BK165 4 _, cz BK165 5 _, cz BK165 6 _⟩ (fun hHeld => ?_)
               clear hK K
               refine norm_ (a' := ?_) ?_ ?_
               rotate_left
               ·show Act.put _ (some 120) _ = _
                simp only [Act.put, List.setIfInBounds_toArray, List.set_cons_zero, List.set_cons_succ, i64_w, i32_w]
                rfl
               refine one_ (i := 14) (N := some 124) (bz 23 229375) rfl rfl (one_of HT_.out (by kernel_rfl)) (by decide) (fun K hK => ?_)
               refine goes_ Try.func24 (by kernel_rfl) rfl #[.int .i64 (Int.tmod t178 4096)] (by rfl) rfl rfl aE ?_
               with_reducible refine (spec_SinOf.calls kj95 (Int.tmod t178 4096) t183 _ A115.out).mono ?_
               rintro e w129 ⟨rfl, hb⟩
               refine ⟨_, rfl, ?_⟩
               replace HO_171002 := Aside0.mk (Kd.R_below (rU HO_171002.out) hb)
               replace BK165 := bB (bV BK165) hb
               replace BK166 := bB (bV BK166) hb
               replace BK167 := bB (bV BK167) hb
               replace BK170 := bB (bV BK170) hb
               replace HB := bH (lV4 GE165 GE166 GE167 GE170) hb
               (try clear hb)
               (try clear hb2)
               (try clear hk)
               (try clear hi)
               refine hK.out _ _ ⟨cz BK170 0 _, cz BK170 1 _, cz BK170 2 _, cz BK165 0 _, cz BK165 1 _, cz BK165 2 _, cz BK165 3 _, cz BK165 4 _, cz BK165 5 _, cz BK165 6 _⟩ (fun hHeld => ?_)
               clear hK K
               refine norm_ (a' := ?_) ?_ ?_
               rotate_left
               ·show Act.put _ (some 124) _ = _
                simp only [Act.put, List.setIfInBounds_toArray, List.set_cons_zero, List.set_cons_succ, i64_w, i32_w]
                rfl
               refine one_ (i := 15) (N := some 125) (bz 23 262143) rfl rfl (one_of HT_.out (by kernel_rfl)) (by decide) (fun K hK => ?_)
               refine goes_ Try.func22 (by kernel_rfl) rfl #[.int .i64 (wrap64 (Int.tdiv (wrap64 (a0_5 * t180)) 32768)), .int .i64 t183] (by rfl) rfl rfl aE ?_
               with_reducible refine (spec_FixMul.calls kj95 (wrap64 (Int.tdiv (wrap64 (a0_5 * t180)) 32768)) t183 t184 _ A116.out).mono ?_
               rintro e w130 ⟨rfl, hb⟩
               refine ⟨_, rfl, ?_⟩
               replace HO_171002 := Aside0.mk (Kd.R_below (rU HO_171002.out) hb)
               replace BK165 := bB (bV BK165) hb
               replace BK166 := bB (bV BK166) hb
               replace BK167 := bB (bV BK167) hb
               replace BK170 := bB (bV BK170) hb
               replace HB := bH (lV4 GE165 GE166 GE167 GE170) hb
               (try clear hb)
               (try clear hb2)
               (try clear hk)
               (try clear hi)
               refine hK.out _ _ ⟨cz BK170 0 _, cz BK170 1 _, cz BK170 2 _, cz BK165 0 _, cz BK165 1 _, cz BK165 2 _, cz BK165 3 _, cz BK165 4 _, cz BK165 5 _, cz BK165 6 _⟩ (fun hHeld => ?_)
               clear hK K
               refine norm_ (a' := ?_) ?_ ?_
               rotate_left
               ·show Act.put _ (some 125) _ = _
                simp only [Act.put, List.setIfInBounds_toArray, List.set_cons_zero, List.set_cons_succ, i64_w, i32_w]
                rfl
               refine pureA 18 128 (bz 23 524287) rfl rfl (any_of HT_.out (by kernel_rfl)) ?_
               refine one_ (i := 19) (N := some 129) (bz 23 1048575) rfl rfl (one_of HT_.out (by kernel_rfl)) (by decide) (fun K hK => ?_)
               refine value_ (w1 := ?_) (v := ?_) (by rfl) rfl ?_ ?_
               rotate_left 2
               ·go_simp
                constructor
                ·rfl
                ·rfl
               refine hK.out _ _ ⟨(blk_cell (blk_alloc BK170.out _) 0).trans rfl, (blk_cell (blk_alloc BK170.out _) 1).trans rfl, (blk_cell (blk_alloc BK170.out _) 2).trans rfl, (blk_cell (blk_alloc BK165.out _) 0).trans rfl, (blk_cell (blk_alloc BK165.out _) 1).trans rfl, (blk_cell (blk_alloc BK165.out _) 2).trans rfl, (blk_cell (blk_alloc BK165.out _) 3).trans rfl, (blk_cell (blk_alloc BK165.out _) 4).trans rfl, (blk_cell (blk_alloc BK165.out _) 5).trans rfl, (blk_cell (blk_alloc BK165.out _) 6).trans rfl⟩ (fun hHeld => ?_)
               clear hK K
               refine norm_ (a' := ?_) ?_ ?_
               rotate_left
               ·show Act.put _ (some 129) _ = _
                simp only [Act.put, List.setIfInBounds_toArray, List.set_cons_zero, List.set_cons_succ, i64_w, i32_w]
                rfl
               refine one_ (i := 20) (N := some 130) (bz 23 2097151) rfl rfl (one_of HT_.out (by kernel_rfl)) (by decide) (fun K hK => ?_)
               refine Kd.R_append_step k48 (w0 := w) w.heap.size (by rfl) (.tmp 111) (.tmp 129) 33 48 (.agg #[(.int .i64 0), (.int .i64 0), (.int .i64 0), (.int .i64 0), (.int .i64 0)]) 40 rfl Try.underlying33 info48 rfl (by decide) (by omega) u171002 x171002_3 (⟨a0_0, a0_1, t182, t184, a0_4⟩ : S48) [.int .i64 a0_0, .int .i64 a0_1, .int .i64 t182, .int .i64 t184, .int .i64 a0_4] (fun _ => True) (fun _ => False) rfl rfl ?aP (fun _ hk => hk.elim) ?aF ?aO ?aB ?aS ?aL ?_
               (case aP => exact k48_mkM _ _ _ (⟨a0_0, a0_1, t182, t184, a0_4⟩ : S48))
               (case aB => exact (lV4 GE165 GE166 GE167 GE170))
               (case aF => exact (fun _ _ => trivial))
               (case aO => exact (rU HO_171002.out))
               (case aS => exact (below_size (lV4 GE165 GE166 GE167 GE170)))
               (case aL => have := LMc117.out; omega)
               intro v186 w131 ho hb hg hat
               rw [← Ny185.out] at ho
               replace BK165 := Aside0.mk (blk_grown (g := gb165) (o := .cells #[.int .i64 a0_0, .int .i64 a0_1, .int .i64 a0_2, .int .i64 a0_3, .int .i64 a0_4, .int .i64 a0_5, .int .i64 a0_6] 26 (0, 0)) (bV BK165) hg (Kd.R_ne HO_171002.out BK165.out (by decide)))
               replace BK166 := Aside0.mk (blk_grown (g := gb166) (o := .cells #[.int .i64 a1_0, .int .i64 a1_1, .slice A1_2 l1_2.length c1_2] 35 (0, 0)) (bV BK166) hg (Kd.R_ne HO_171002.out BK166.out (by decide)))
               replace BK167 := Aside0.mk (blk_grown (g := gb167) (o := .cells #[.int .i64 0, .int .i64 0, .slice none 0 0] 35 (0, 0)) (bV BK167) hg (Kd.R_ne HO_171002.out BK167.out (by decide)))
               replace BK170 := Aside0.mk (blk_grown (g := gb170) (o := .cells #[.int .i64 t179, .int .i64 (wrap64 (a1_1 + 1)), u171002] 35 (0, 0)) (bV BK170) hg (Kd.R_ne HO_171002.out BK170.out (by decide)))
               replace HB := Aside0.mk hb
               have HO187 := Aside0.mk ho
               clear HO_171002
               clear ho hb hg hat
               obtain ⟨Ao132, co132, eo132⟩ := Kd.R_slice HO187.out
               (first | subst eo132 | (injection eo132 with f1_ f2_ f3_; have f4_ := f1_.symm; have f5_ := f3_.symm; clear f1_ f2_ f3_; subst f4_; subst f5_))
               refine hK.out _ _ ⟨cz BK170 0 _, cz BK170 1 _, cz BK170 2 _, cz BK165 0 _, cz BK165 1 _, cz BK165 2 _, cz BK165 3 _, cz BK165 4 _, cz BK165 5 _, cz BK165 6 _⟩ (fun hHeld => ?_)
               clear hK K
               refine norm_ (a' := ?_) ?_ ?_
               rotate_left
               ·show Act.put _ (some 130) _ = _
                simp only [Act.put, List.setIfInBounds_toArray, List.set_cons_zero, List.set_cons_succ, i64_w, i32_w]
                rfl
               refine pureA 21 131 (bz 23 4194303) rfl rfl (any_of HT_.out (by kernel_rfl)) ?_
               refine last_ (i := 22) (N := none) (bz 23 8388607) rfl rfl (one_of HT_.out (by kernel_rfl)) (by decide) (fun K hK => ?_)
               have hs133 : w131.cell? ⟨gb170, 2, none⟩ = some (u171002) := (blk_cell BK170.out 2).trans rfl
               have hfs133 := blk_frozen BK170.out 2
               have hns133_0 := NB165_170.out
               have hns133_1 := NB166_170.out
               have hns133_2 := NB167_170.out
               have hms133_0 := NB170_165.out
               have hms133_1 := NB170_166.out
               have hms133_2 := NB170_167.out
               refine skip_ (w1 := ?_) (by rfl) rfl ?_ ?_
               rotate_left
               ·go_simp
                rfl
               refine hK.out _ _ ?_
               clear hK K
               refine done_ (done_of HT_.out (by kernel_rfl)) ?_
               try go_wp2
               go_roundg kj95
               case measure => have := HJ2.out; have := HK2.out; have := HK3.out; have := HJ95.out; omega
               case rel => exact ⟨(wrap64 (x9_3 + 1)), (t179), (y185), (.slice Ao132 y185.length co132), tE, H', ⟨by have := HJ2.out; have := HK2.out; have := HK3.out; have := HJ95.out; omega⟩, ⟨by (with_reducible repeat (first | apply Kd.R_alloc | apply Kd.R_drewN | apply Kd.R_drew)); exact Kd.R_mono (Kd.R_far (p := ⟨gb170, 2, none⟩) (Kd.R_types HO187.out BK170.out (by decide)) (fun _ hk => hk.2) (.slice Ao132 y185.length co132)) (fun _ hk => trivial)⟩, ⟨by refine bU ?_; refine blk_far ?_ NB165_170.out _; refine bU ?_; exact BK165.out⟩, ⟨by refine bU ?_; refine blk_far ?_ NB166_170.out _; refine bU ?_; exact BK166.out⟩, ⟨by refine bU ?_; refine blk_far ?_ NB167_170.out _; refine bU ?_; exact BK167.out⟩, ⟨by refine bU ?_; refine blk_put (cs := #[.int .i64 t179, .int .i64 (wrap64 (a1_1 + 1)), u171002]) ?_ 2 _ rfl; refine bU ?_; exact BK170.out⟩, ⟨by repeat (first | (with_reducible first | exact HB.out | apply below_alloc | apply pw_below_drewN | apply below_drew1 | refine below_set ?_ GE165.out | refine below_set ?_ GE166.out | refine below_set ?_ GE167.out | refine below_set ?_ GE170.out) | exact HB.out)⟩⟩
              ·rw [if_neg c117] at H
               exact absurd H (by simp)
             ·replace c110 := Bool.eq_false_iff.mpr c110
              subst c110
              have H1 : ((spec_GoodCloud.f kj95 x171000_3 (wrap64 (a1_1 + 1)) x171002_3).bind fun t176 => (if t176 = true then (some (x171000_3, (wrap64 (a1_1 + 1)), x171002_3, true)) else (some (0, 0, ([] : List (S48)), false)))) = some (r1, r2, r3, r4) := by rw [if_neg (show ¬ (false = true) by decide)] at H; exact H
              clear H
              have H := H1
              clear H1
              replace H := Option.bind_eq_some_iff.mp H
              obtain ⟨t176, A1340, H⟩ := H
              replace H : (if t176 = true then (some (x171000_3, (wrap64 (a1_1 + 1)), x171002_3, true)) else (some (0, 0, ([] : List (S48)), false))) = some (r1, r2, r3, r4) := H
              have A134 := Aside0.mk A1340
              clear A1340
              by_cases c135 : t176 = true
              ·subst c135
               have H1 : (some (x171000_3, (wrap64 (a1_1 + 1)), x171002_3, true)) = some (r1, r2, r3, r4) := by rw [if_pos rfl] at H; exact H
               clear H
               have H := H1
               clear H1
               simp only [Option.some.injEq, Prod.mk.injEq] at H
               obtain ⟨rfl, rfl, rfl, rfl⟩ := H
               have hnb136 := NB170_165.out
               have hnc136 := NB165_170.out
               have hnb137 := NB170_166.out
               have hnc137 := NB166_170.out
               have hnb138 := NB170_167.out
               have hnc138 := NB167_170.out
               have hcz139_0 := cz BK170 0 (.int .i64 x171000_3)
               have hcz139_1 := cz BK170 1 (.int .i64 (wrap64 (a1_1 + 1)))
               have hcz139_2 := cz BK170 2 (u171002)
               have hfz139_0 := fz BK170 0
               have hfz139_1 := fz BK170 1
               have hfz139_2 := fz BK170 2
               obtain ⟨Ao140, co140, eo140⟩ := Kd.R_slice HO_171002.out
               subst eo140
               go_wp2_with (first | ((with_reducible refine gate_callee (f := 20) rfl ?_); refine goesL_ (some 133) rfl rfl Try.func20 (by kernel_rfl) rfl #[.agg #[.int .i64 x171000_3, .int .i64 (wrap64 (a1_1 + 1)), .slice Ao140 x171002_3.length co140]] rfl aE ?_; (with_reducible refine (spec_GoodCloud.calls kj95 x171000_3 (wrap64 (a1_1 + 1)) _ _ x171002_3 true _ ?side1 ?side2 A134.out).mono ?_); (case side1 => exact cU (Kd.R_reads' HO_171002.out).2.2); (case side2 => exact (Kd.R_reads' HO_171002.out).2.1); rintro e w141 ⟨rfl, hb⟩; refine ⟨_, rfl, ?_⟩; replace HO_171002 := Aside0.mk (Kd.R_below (rU HO_171002.out) hb); replace BK165 := bB (bV BK165) hb; replace BK166 := bB (bV BK166) hb; replace BK167 := bB (bV BK167) hb; replace BK170 := bB (bV BK170) hb; replace HB := bH (lV4 GE165 GE166 GE167 GE170) hb; (try clear hb); have hcz142_0 := cz BK170 0 (.int .i64 x171000_3); have hcz142_1 := cz BK170 1 (.int .i64 (wrap64 (a1_1 + 1))); have hcz142_2 := cz BK170 2 (.slice Ao140 x171002_3.length co140); have hfz142_0 := fz BK170 0; have hfz142_1 := fz BK170 1; have hfz142_2 := fz BK170 2; have hnb143 := NB167_165.out; have hnc143 := NB165_167.out; have hnb144 := NB167_166.out; have hnc144 := NB166_167.out; have hcz145_0 := cz BK167 0 (.int .i64 0); have hcz145_1 := cz BK167 1 (.int .i64 0); have hcz145_2 := cz BK167 2 (.slice none 0 0); have hfz145_0 := fz BK167 0; have hfz145_1 := fz BK167 1; have hfz145_2 := fz BK167 2) | ((with_reducible refine gate_store (t := 35) (p := 4) rfl ?_); refine store_event (t := 35) (p := 4) (v := ?vo_w146) (w1 := (((w141.setCell ⟨gb167, 0, none⟩ (.int .i64 x171000_3)).setCell ⟨gb167, 1, none⟩ (.int .i64 (wrap64 (a1_1 + 1)))).setCell ⟨gb167, 2, none⟩ (.slice Ao140 x171002_3.length co140))) ?hg ?ho ?hn ?hr ?_; (case ho => rfl); (case hg => rfl); (case hn => rfl); (case hr => first | (go_simp; done) | (go_simp; rfl) | (have hq0_ := (blk_cell BK167.out 0).trans (show _ = some _ from rfl); have hf0_ := blk_frozen BK167.out 0; have hq1_ := (blk_cell BK167.out 1).trans (show _ = some _ from rfl); have hf1_ := blk_frozen BK167.out 1; have hq2_ := (blk_cell BK167.out 2).trans (show _ = some _ from rfl); have hf2_ := blk_frozen BK167.out 2; first | (go_simp; done) | (go_simp; rfl))); intro w146 hw; replace HO_171002 : Aside0 (Kd.R k48 48 w146 w.heap.size (fun _ => True) (.slice Ao140 x171002_3.length co140) x171002_3) := ⟨(by rw [hw]; exact (by (with_reducible repeat (first | apply Kd.R_alloc | apply Kd.R_drewN | apply Kd.R_drew)); exact Kd.R_mono (Kd.R_far (p := ⟨gb167, 2, none⟩) (Kd.R_far (p := ⟨gb167, 1, none⟩) (Kd.R_far (p := ⟨gb167, 0, none⟩) (Kd.R_types HO_171002.out BK167.out (by decide)) (fun _ hk => hk.2) (.int .i64 x171000_3)) (fun _ hk => hk.2) (.int .i64 (wrap64 (a1_1 + 1)))) (fun _ hk => hk.2) (.slice Ao140 x171002_3.length co140)) (fun _ hk => trivial)))⟩; replace BK165 : Aside0 (w146.heap[gb165]? = some (.cells #[.int .i64 a0_0, .int .i64 a0_1, .int .i64 a0_2, .int .i64 a0_3, .int .i64 a0_4, .int .i64 a0_5, .int .i64 a0_6] 26 (0, 0))) := ⟨(by rw [hw]; exact (bG NB165_167 BK165))⟩; replace BK166 : Aside0 (w146.heap[gb166]? = some (.cells #[.int .i64 a1_0, .int .i64 a1_1, .slice A1_2 l1_2.length c1_2] 35 (0, 0))) := ⟨(by rw [hw]; exact (bG NB166_167 BK166))⟩; replace BK167 : Aside0 (w146.heap[gb167]? = some (.cells #[.int .i64 x171000_3, .int .i64 (wrap64 (a1_1 + 1)), .slice Ao140 x171002_3.length co140] 35 (0, 0))) := ⟨(by rw [hw]; exact (by refine bU ?_; refine blk_put (cs := #[.int .i64 x171000_3, .int .i64 (wrap64 (a1_1 + 1)), .slice none 0 0]) ?_ 2 _ rfl; refine bU ?_; refine blk_put (cs := #[.int .i64 x171000_3, .int .i64 0, .slice none 0 0]) ?_ 1 _ rfl; refine bU ?_; refine blk_put (cs := #[.int .i64 0, .int .i64 0, .slice none 0 0]) ?_ 0 _ rfl; refine bU ?_; exact BK167.out))⟩; replace BK170 : Aside0 (w146.heap[gb170]? = some (.cells #[.int .i64 x171000_3, .int .i64 (wrap64 (a1_1 + 1)), .slice Ao140 x171002_3.length co140] 35 (0, 0))) := ⟨(by rw [hw]; exact (bG NB170_167 BK170))⟩; replace HB : Aside0 (Below w.heap.size w w146) := ⟨(by rw [hw]; exact (lV4 GE165 GE166 GE167 GE170))⟩; clear hw))
               refine bodyPost_ret (results_ct rfl _ _ gb167 35 #[.int .i64 x171000_3, .int .i64 (wrap64 (a1_1 + 1)), .slice Ao140 x171002_3.length co140] (0, 0) _ rfl (bV BK167) Try.underlying35 rfl (by kernel_rfl)) rfl ?_
               exact ⟨_, eE, by (with_reducible repeat (first | apply Kd.R_alloc | apply Kd.R_drewN | apply Kd.R_drew)); exact HO_171002.out, lV4 GE165 GE166 GE167 GE170⟩
              ·replace c135 := Bool.eq_false_iff.mpr c135
               subst c135
               have H1 : (some (0, 0, ([] : List (S48)), false)) = some (r1, r2, r3, r4) := by rw [if_neg (show ¬ (false = true) by decide)] at H; exact H
               clear H
               have H := H1
               clear H1
               simp only [Option.some.injEq, Prod.mk.injEq] at H
               obtain ⟨rfl, rfl, rfl, rfl⟩ := H
               have hnb147 := NB170_165.out
               have hnc147 := NB165_170.out
               have hnb148 := NB170_166.out
               have hnc148 := NB166_170.out
               have hnb149 := NB170_167.out
               have hnc149 := NB167_170.out
               have hcz150_0 := cz BK170 0 (.int .i64 x171000_3)
               have hcz150_1 := cz BK170 1 (.int .i64 (wrap64 (a1_1 + 1)))
               have hcz150_2 := cz BK170 2 (u171002)
               have hfz150_0 := fz BK170 0
               have hfz150_1 := fz BK170 1
               have hfz150_2 := fz BK170 2
               obtain ⟨Ao151, co151, eo151⟩ := Kd.R_slice HO_171002.out
               subst eo151
               go_wp2_with (first | ((with_reducible refine gate_callee (f := 20) rfl ?_); refine goesL_ (some 133) rfl rfl Try.func20 (by kernel_rfl) rfl #[.agg #[.int .i64 x171000_3, .int .i64 (wrap64 (a1_1 + 1)), .slice Ao151 x171002_3.length co151]] rfl aE ?_; (with_reducible refine (spec_GoodCloud.calls kj95 x171000_3 (wrap64 (a1_1 + 1)) _ _ x171002_3 false _ ?side1 ?side2 A134.out).mono ?_); (case side1 => exact cU (Kd.R_reads' HO_171002.out).2.2); (case side2 => exact (Kd.R_reads' HO_171002.out).2.1); rintro e w152 ⟨rfl, hb⟩; refine ⟨_, rfl, ?_⟩; replace HO_171002 := Aside0.mk (Kd.R_below (rU HO_171002.out) hb); replace BK165 := bB (bV BK165) hb; replace BK166 := bB (bV BK166) hb; replace BK167 := bB (bV BK167) hb; replace BK170 := bB (bV BK170) hb; replace HB := bH (lV4 GE165 GE166 GE167 GE170) hb; (try clear hb); have hnb153 := NB167_165.out; have hnc153 := NB165_167.out; have hnb154 := NB167_166.out; have hnc154 := NB166_167.out; have hcz155_0 := cz BK167 0 (.int .i64 0); have hcz155_1 := cz BK167 1 (.int .i64 0); have hcz155_2 := cz BK167 2 (.slice none 0 0); have hfz155_0 := fz BK167 0; have hfz155_1 := fz BK167 1; have hfz155_2 := fz BK167 2) | ((with_reducible refine gate_store (t := 35) (p := 4) rfl ?_); refine store_event (t := 35) (p := 4) (v := ?vo_w156) (w1 := (((w152.setCell ⟨gb167, 0, none⟩ (.int .i64 0)).setCell ⟨gb167, 1, none⟩ (.int .i64 0)).setCell ⟨gb167, 2, none⟩ (.slice none 0 0))) ?hg ?ho ?hn ?hr ?_; (case ho => rfl); (case hg => rfl); (case hn => rfl); (case hr => first | (go_simp; done) | (go_simp; rfl) | (have hq0_ := (blk_cell BK167.out 0).trans (show _ = some _ from rfl); have hf0_ := blk_frozen BK167.out 0; have hq1_ := (blk_cell BK167.out 1).trans (show _ = some _ from rfl); have hf1_ := blk_frozen BK167.out 1; have hq2_ := (blk_cell BK167.out 2).trans (show _ = some _ from rfl); have hf2_ := blk_frozen BK167.out 2; first | (go_simp; done) | (go_simp; rfl))); intro w156 hw; replace HO_171002 : Aside0 (Kd.R k48 48 w156 w.heap.size (fun _ => True) (.slice Ao151 x171002_3.length co151) x171002_3) := ⟨(by rw [hw]; exact (by (with_reducible repeat (first | apply Kd.R_alloc | apply Kd.R_drewN | apply Kd.R_drew)); exact Kd.R_mono (Kd.R_far (p := ⟨gb167, 2, none⟩) (Kd.R_far (p := ⟨gb167, 1, none⟩) (Kd.R_far (p := ⟨gb167, 0, none⟩) (Kd.R_types HO_171002.out BK167.out (by decide)) (fun _ hk => hk.2) (.int .i64 0)) (fun _ hk => hk.2) (.int .i64 0)) (fun _ hk => hk.2) (.slice none 0 0)) (fun _ hk => trivial)))⟩; replace BK165 : Aside0 (w156.heap[gb165]? = some (.cells #[.int .i64 a0_0, .int .i64 a0_1, .int .i64 a0_2, .int .i64 a0_3, .int .i64 a0_4, .int .i64 a0_5, .int .i64 a0_6] 26 (0, 0))) := ⟨(by rw [hw]; exact (bG NB165_167 BK165))⟩; replace BK166 : Aside0 (w156.heap[gb166]? = some (.cells #[.int .i64 a1_0, .int .i64 a1_1, .slice A1_2 l1_2.length c1_2] 35 (0, 0))) := ⟨(by rw [hw]; exact (bG NB166_167 BK166))⟩; replace BK167 : Aside0 (w156.heap[gb167]? = some (.cells #[.int .i64 0, .int .i64 0, .slice none 0 0] 35 (0, 0))) := ⟨(by rw [hw]; exact (by refine bU ?_; refine blk_put (cs := #[.int .i64 0, .int .i64 0, .slice none 0 0]) ?_ 2 _ rfl; refine bU ?_; refine blk_put (cs := #[.int .i64 0, .int .i64 0, .slice none 0 0]) ?_ 1 _ rfl; refine bU ?_; refine blk_put (cs := #[.int .i64 0, .int .i64 0, .slice none 0 0]) ?_ 0 _ rfl; refine bU ?_; exact BK167.out))⟩; replace BK170 : Aside0 (w156.heap[gb170]? = some (.cells #[.int .i64 x171000_3, .int .i64 (wrap64 (a1_1 + 1)), .slice Ao151 x171002_3.length co151] 35 (0, 0))) := ⟨(by rw [hw]; exact (bG NB170_167 BK170))⟩; replace HB : Aside0 (Below w.heap.size w w156) := ⟨(by rw [hw]; exact (lV4 GE165 GE166 GE167 GE170))⟩; clear hw))
               refine bodyPost_ret (results_ct rfl _ _ gb167 35 #[.int .i64 0, .int .i64 0, .slice none 0 0] (0, 0) _ rfl (bV BK167) Try.underlying35 rfl (by kernel_rfl)) rfl ?_
               exact ⟨_, eE, by first | exact Kd.R_nil _ _ _ _ _ | exact Kd.N_nil _ _ _ _ _ | exact Kd.V_nil _ _ _ _ _ | exact Kd.Q_nil _ _ _ _ _ | exact Kd.S_nil _ _ _ _ _, lV4 GE165 GE166 GE167 GE170⟩
        ·rw [if_neg c88] at H
         have c88b0 : ((Int.tmod a1_1 a0_2) == 0) = false := beq_eq_false_iff_ne.mpr c88
         have c88b1 : ((Int.tmod a1_1 a0_2) != 0) = true := bne_iff_ne.mpr c88
         replace H := Option.bind_eq_some_iff.mp H
         obtain ⟨t188, A1570, H⟩ := H
         replace H : (if t188 = true then (some (a1_0, (wrap64 (a1_1 + 1)), x171002_2, true)) else (some (0, 0, ([] : List (S48)), false))) = some (r1, r2, r3, r4) := H
         have A157 := Aside0.mk A1570
         clear A1570
         by_cases c158 : t188 = true
         ·subst c158
          have H1 : (some (a1_0, (wrap64 (a1_1 + 1)), x171002_2, true)) = some (r1, r2, r3, r4) := by rw [if_pos rfl] at H; exact H
          clear H
          have H := H1
          clear H1
          simp only [Option.some.injEq, Prod.mk.injEq] at H
          obtain ⟨rfl, rfl, rfl, rfl⟩ := H
          have hnb159 := NB166_165.out
          have hnc159 := NB165_166.out
          have hnb160 := NB166_167.out
          have hnc160 := NB167_166.out
          have hnb161 := NB166_170.out
          have hnc161 := NB170_166.out
          have hcz162_0 := cz BK166 0 (.int .i64 a1_0)
          have hcz162_1 := cz BK166 1 (.int .i64 a1_1)
          have hcz162_2 := cz BK166 2 (.slice A1_2 l1_2.length c1_2)
          have hfz162_0 := fz BK166 0
          have hfz162_1 := fz BK166 1
          have hfz162_2 := fz BK166 2
          have hnb163 := NB165_167.out
          have hnc163 := NB167_165.out
          have hnb164 := NB165_170.out
          have hnc164 := NB170_165.out
          have hcz165_0 := cz BK165 0 (.int .i64 a0_0)
          have hcz165_1 := cz BK165 1 (.int .i64 a0_1)
          have hcz165_2 := cz BK165 2 (.int .i64 a0_2)
          have hcz165_3 := cz BK165 3 (.int .i64 a0_3)
          have hcz165_4 := cz BK165 4 (.int .i64 a0_4)
          have hcz165_5 := cz BK165 5 (.int .i64 a0_5)
          have hcz165_6 := cz BK165 6 (.int .i64 a0_6)
          have hfz165_0 := fz BK165 0
          have hfz165_1 := fz BK165 1
          have hfz165_2 := fz BK165 2
          have hfz165_3 := fz BK165 3
          have hfz165_4 := fz BK165 4
          have hfz165_5 := fz BK165 5
          have hfz165_6 := fz BK165 6
          have hnb166 := NB170_167.out
          have hnc166 := NB167_170.out
          have hcz167_0 := cz BK170 0 (.int .i64 a1_0)
          have hcz167_1 := cz BK170 1 (.int .i64 (wrap64 (a1_1 + 1)))
          have hcz167_2 := cz BK170 2 (u171002)
          have hfz167_0 := fz BK170 0
          have hfz167_1 := fz BK170 1
          have hfz167_2 := fz BK170 2
          obtain ⟨Ao168, co168, eo168⟩ := Kd.R_slice HO_171002.out
          subst eo168
          go_wp2_with (first | ((with_reducible refine gate_callee (f := 20) rfl ?_); refine goesL_ (some 133) rfl rfl Try.func20 (by kernel_rfl) rfl #[.agg #[.int .i64 a1_0, .int .i64 (wrap64 (a1_1 + 1)), .slice Ao168 x171002_2.length co168]] rfl aE ?_; (with_reducible refine (spec_GoodCloud.calls k2 a1_0 (wrap64 (a1_1 + 1)) _ _ x171002_2 true _ ?side1 ?side2 A157.out).mono ?_); (case side1 => exact cU (Kd.R_reads' HO_171002.out).2.2); (case side2 => exact (Kd.R_reads' HO_171002.out).2.1); rintro e w169 ⟨rfl, hb⟩; refine ⟨_, rfl, ?_⟩; replace HO_171002 := Aside0.mk (Kd.R_below (rU HO_171002.out) hb); replace BK165 := bB (bV BK165) hb; replace BK166 := bB (bV BK166) hb; replace BK167 := bB (bV BK167) hb; replace BK170 := bB (bV BK170) hb; replace HB := bH (lV4 GE165 GE166 GE167 GE170) hb; (try clear hb); have hcz170_0 := cz BK170 0 (.int .i64 a1_0); have hcz170_1 := cz BK170 1 (.int .i64 (wrap64 (a1_1 + 1))); have hcz170_2 := cz BK170 2 (.slice Ao168 x171002_2.length co168); have hfz170_0 := fz BK170 0; have hfz170_1 := fz BK170 1; have hfz170_2 := fz BK170 2; have hcz171_0 := cz BK167 0 (.int .i64 0); have hcz171_1 := cz BK167 1 (.int .i64 0); have hcz171_2 := cz BK167 2 (.slice none 0 0); have hfz171_0 := fz BK167 0; have hfz171_1 := fz BK167 1; have hfz171_2 := fz BK167 2) | ((with_reducible refine gate_store (t := 35) (p := 4) rfl ?_); refine store_event (t := 35) (p := 4) (v := ?vo_w172) (w1 := (((w169.setCell ⟨gb167, 0, none⟩ (.int .i64 a1_0)).setCell ⟨gb167, 1, none⟩ (.int .i64 (wrap64 (a1_1 + 1)))).setCell ⟨gb167, 2, none⟩ (.slice Ao168 x171002_2.length co168))) ?hg ?ho ?hn ?hr ?_; (case ho => rfl); (case hg => rfl); (case hn => rfl); (case hr => first | (go_simp; done) | (go_simp; rfl) | (have hq0_ := (blk_cell BK167.out 0).trans (show _ = some _ from rfl); have hf0_ := blk_frozen BK167.out 0; have hq1_ := (blk_cell BK167.out 1).trans (show _ = some _ from rfl); have hf1_ := blk_frozen BK167.out 1; have hq2_ := (blk_cell BK167.out 2).trans (show _ = some _ from rfl); have hf2_ := blk_frozen BK167.out 2; first | (go_simp; done) | (go_simp; rfl))); intro w172 hw; replace HO_171002 : Aside0 (Kd.R k48 48 w172 w.heap.size (fun _ => True) (.slice Ao168 x171002_2.length co168) x171002_2) := ⟨(by rw [hw]; exact (by (with_reducible repeat (first | apply Kd.R_alloc | apply Kd.R_drewN | apply Kd.R_drew)); exact Kd.R_mono (Kd.R_far (p := ⟨gb167, 2, none⟩) (Kd.R_far (p := ⟨gb167, 1, none⟩) (Kd.R_far (p := ⟨gb167, 0, none⟩) (Kd.R_types HO_171002.out BK167.out (by decide)) (fun _ hk => hk.2) (.int .i64 a1_0)) (fun _ hk => hk.2) (.int .i64 (wrap64 (a1_1 + 1)))) (fun _ hk => hk.2) (.slice Ao168 x171002_2.length co168)) (fun _ hk => trivial)))⟩; replace BK165 : Aside0 (w172.heap[gb165]? = some (.cells #[.int .i64 a0_0, .int .i64 a0_1, .int .i64 a0_2, .int .i64 a0_3, .int .i64 a0_4, .int .i64 a0_5, .int .i64 a0_6] 26 (0, 0))) := ⟨(by rw [hw]; exact (bG NB165_167 BK165))⟩; replace BK166 : Aside0 (w172.heap[gb166]? = some (.cells #[.int .i64 a1_0, .int .i64 a1_1, .slice A1_2 l1_2.length c1_2] 35 (0, 0))) := ⟨(by rw [hw]; exact (bG NB166_167 BK166))⟩; replace BK167 : Aside0 (w172.heap[gb167]? = some (.cells #[.int .i64 a1_0, .int .i64 (wrap64 (a1_1 + 1)), .slice Ao168 x171002_2.length co168] 35 (0, 0))) := ⟨(by rw [hw]; exact (by refine bU ?_; refine blk_put (cs := #[.int .i64 a1_0, .int .i64 (wrap64 (a1_1 + 1)), .slice none 0 0]) ?_ 2 _ rfl; refine bU ?_; refine blk_put (cs := #[.int .i64 a1_0, .int .i64 0, .slice none 0 0]) ?_ 1 _ rfl; refine bU ?_; refine blk_put (cs := #[.int .i64 0, .int .i64 0, .slice none 0 0]) ?_ 0 _ rfl; refine bU ?_; exact BK167.out))⟩; replace BK170 : Aside0 (w172.heap[gb170]? = some (.cells #[.int .i64 a1_0, .int .i64 (wrap64 (a1_1 + 1)), .slice Ao168 x171002_2.length co168] 35 (0, 0))) := ⟨(by rw [hw]; exact (bG NB170_167 BK170))⟩; replace HB : Aside0 (Below w.heap.size w w172) := ⟨(by rw [hw]; exact (lV4 GE165 GE166 GE167 GE170))⟩; clear hw))
          refine bodyPost_ret (results_ct rfl _ _ gb167 35 #[.int .i64 a1_0, .int .i64 (wrap64 (a1_1 + 1)), .slice Ao168 x171002_2.length co168] (0, 0) _ rfl (bV BK167) Try.underlying35 rfl (by kernel_rfl)) rfl ?_
          exact ⟨_, eE, by (with_reducible repeat (first | apply Kd.R_alloc | apply Kd.R_drewN | apply Kd.R_drew)); exact HO_171002.out, lV4 GE165 GE166 GE167 GE170⟩
         ·replace c158 := Bool.eq_false_iff.mpr c158
          subst c158
          have H1 : (some (0, 0, ([] : List (S48)), false)) = some (r1, r2, r3, r4) := by rw [if_neg (show ¬ (false = true) by decide)] at H; exact H
          clear H
          have H := H1
          clear H1
          simp only [Option.some.injEq, Prod.mk.injEq] at H
          obtain ⟨rfl, rfl, rfl, rfl⟩ := H
          have hnb173 := NB166_165.out
          have hnc173 := NB165_166.out
          have hnb174 := NB166_167.out
          have hnc174 := NB167_166.out
          have hnb175 := NB166_170.out
          have hnc175 := NB170_166.out
          have hcz176_0 := cz BK166 0 (.int .i64 a1_0)
          have hcz176_1 := cz BK166 1 (.int .i64 a1_1)
          have hcz176_2 := cz BK166 2 (.slice A1_2 l1_2.length c1_2)
          have hfz176_0 := fz BK166 0
          have hfz176_1 := fz BK166 1
          have hfz176_2 := fz BK166 2
          have hnb177 := NB165_167.out
          have hnc177 := NB167_165.out
          have hnb178 := NB165_170.out
          have hnc178 := NB170_165.out
          have hcz179_0 := cz BK165 0 (.int .i64 a0_0)
          have hcz179_1 := cz BK165 1 (.int .i64 a0_1)
          have hcz179_2 := cz BK165 2 (.int .i64 a0_2)
          have hcz179_3 := cz BK165 3 (.int .i64 a0_3)
          have hcz179_4 := cz BK165 4 (.int .i64 a0_4)
          have hcz179_5 := cz BK165 5 (.int .i64 a0_5)
          have hcz179_6 := cz BK165 6 (.int .i64 a0_6)
          have hfz179_0 := fz BK165 0
          have hfz179_1 := fz BK165 1
          have hfz179_2 := fz BK165 2
          have hfz179_3 := fz BK165 3
          have hfz179_4 := fz BK165 4
          have hfz179_5 := fz BK165 5
          have hfz179_6 := fz BK165 6
          have hnb180 := NB170_167.out
          have hnc180 := NB167_170.out
          have hcz181_0 := cz BK170 0 (.int .i64 a1_0)
          have hcz181_1 := cz BK170 1 (.int .i64 (wrap64 (a1_1 + 1)))
          have hcz181_2 := cz BK170 2 (u171002)
          have hfz181_0 := fz BK170 0
          have hfz181_1 := fz BK170 1
          have hfz181_2 := fz BK170 2
          obtain ⟨Ao182, co182, eo182⟩ := Kd.R_slice HO_171002.out
          subst eo182
          go_wp2_with (first | ((with_reducible refine gate_callee (f := 20) rfl ?_); refine goesL_ (some 133) rfl rfl Try.func20 (by kernel_rfl) rfl #[.agg #[.int .i64 a1_0, .int .i64 (wrap64 (a1_1 + 1)), .slice Ao182 x171002_2.length co182]] rfl aE ?_; (with_reducible refine (spec_GoodCloud.calls k2 a1_0 (wrap64 (a1_1 + 1)) _ _ x171002_2 false _ ?side1 ?side2 A157.out).mono ?_); (case side1 => exact cU (Kd.R_reads' HO_171002.out).2.2); (case side2 => exact (Kd.R_reads' HO_171002.out).2.1); rintro e w183 ⟨rfl, hb⟩; refine ⟨_, rfl, ?_⟩; replace HO_171002 := Aside0.mk (Kd.R_below (rU HO_171002.out) hb); replace BK165 := bB (bV BK165) hb; replace BK166 := bB (bV BK166) hb; replace BK167 := bB (bV BK167) hb; replace BK170 := bB (bV BK170) hb; replace HB := bH (lV4 GE165 GE166 GE167 GE170) hb; (try clear hb); have hcz184_0 := cz BK167 0 (.int .i64 0); have hcz184_1 := cz BK167 1 (.int .i64 0); have hcz184_2 := cz BK167 2 (.slice none 0 0); have hfz184_0 := fz BK167 0; have hfz184_1 := fz BK167 1; have hfz184_2 := fz BK167 2) | ((with_reducible refine gate_store (t := 35) (p := 4) rfl ?_); refine store_event (t := 35) (p := 4) (v := ?vo_w185) (w1 := (((w183.setCell ⟨gb167, 0, none⟩ (.int .i64 0)).setCell ⟨gb167, 1, none⟩ (.int .i64 0)).setCell ⟨gb167, 2, none⟩ (.slice none 0 0))) ?hg ?ho ?hn ?hr ?_; (case ho => rfl); (case hg => rfl); (case hn => rfl); (case hr => first | (go_simp; done) | (go_simp; rfl) | (have hq0_ := (blk_cell BK167.out 0).trans (show _ = some _ from rfl); have hf0_ := blk_frozen BK167.out 0; have hq1_ := (blk_cell BK167.out 1).trans (show _ = some _ from rfl); have hf1_ := blk_frozen BK167.out 1; have hq2_ := (blk_cell BK167.out 2).trans (show _ = some _ from rfl); have hf2_ := blk_frozen BK167.out 2; first | (go_simp; done) | (go_simp; rfl))); intro w185 hw; replace HO_171002 : Aside0 (Kd.R k48 48 w185 w.heap.size (fun _ => True) (.slice Ao182 x171002_2.length co182) x171002_2) := ⟨(by rw [hw]; exact (by (with_reducible repeat (first | apply Kd.R_alloc | apply Kd.R_drewN | apply Kd.R_drew)); exact Kd.R_mono (Kd.R_far (p := ⟨gb167, 2, none⟩) (Kd.R_far (p := ⟨gb167, 1, none⟩) (Kd.R_far (p := ⟨gb167, 0, none⟩) (Kd.R_types HO_171002.out BK167.out (by decide)) (fun _ hk => hk.2) (.int .i64 0)) (fun _ hk => hk.2) (.int .i64 0)) (fun _ hk => hk.2) (.slice none 0 0)) (fun _ hk => trivial)))⟩; replace BK165 : Aside0 (w185.heap[gb165]? = some (.cells #[.int .i64 a0_0, .int .i64 a0_1, .int .i64 a0_2, .int .i64 a0_3, .int .i64 a0_4, .int .i64 a0_5, .int .i64 a0_6] 26 (0, 0))) := ⟨(by rw [hw]; exact (bG NB165_167 BK165))⟩; replace BK166 : Aside0 (w185.heap[gb166]? = some (.cells #[.int .i64 a1_0, .int .i64 a1_1, .slice A1_2 l1_2.length c1_2] 35 (0, 0))) := ⟨(by rw [hw]; exact (bG NB166_167 BK166))⟩; replace BK167 : Aside0 (w185.heap[gb167]? = some (.cells #[.int .i64 0, .int .i64 0, .slice none 0 0] 35 (0, 0))) := ⟨(by rw [hw]; exact (by refine bU ?_; refine blk_put (cs := #[.int .i64 0, .int .i64 0, .slice none 0 0]) ?_ 2 _ rfl; refine bU ?_; refine blk_put (cs := #[.int .i64 0, .int .i64 0, .slice none 0 0]) ?_ 1 _ rfl; refine bU ?_; refine blk_put (cs := #[.int .i64 0, .int .i64 0, .slice none 0 0]) ?_ 0 _ rfl; refine bU ?_; exact BK167.out))⟩; replace BK170 : Aside0 (w185.heap[gb170]? = some (.cells #[.int .i64 a1_0, .int .i64 (wrap64 (a1_1 + 1)), .slice Ao182 x171002_2.length co182] 35 (0, 0))) := ⟨(by rw [hw]; exact (bG NB170_167 BK170))⟩; replace HB : Aside0 (Below w.heap.size w w185) := ⟨(by rw [hw]; exact (lV4 GE165 GE166 GE167 GE170))⟩; clear hw))
          refine bodyPost_ret (results_ct rfl _ _ gb167 35 #[.int .i64 0, .int .i64 0, .slice none 0 0] (0, 0) _ rfl (bV BK167) Try.underlying35 rfl (by kernel_rfl)) rfl ?_
          exact ⟨_, eE, by first | exact Kd.R_nil _ _ _ _ _ | exact Kd.N_nil _ _ _ _ _ | exact Kd.V_nil _ _ _ _ _ | exact Kd.Q_nil _ _ _ _ _ | exact Kd.S_nil _ _ _ _ _, lV4 GE165 GE166 GE167 GE170⟩
end Go.Proofs.Ythgfobcckoedaaa.PFnExactSparksAt
namespace Go.Proofs.Ythgfobcckoedaaa.PFnExactSparksAt
open Go.RowKit Go.Proofs.YthgfobcckoedaaaW.PrintWords Go.Proofs.YthgfobcckoedaaaW.PrintLast Go.Proofs.YthgfobcckoedaaaW.PrintMore
attribute [local go_sem] max2_int min2_int max_two min_two max_three min_three max_four min_four   -- for this text's walks alone
set_option linter.unusedVariables false
set_option linter.unusedSimpArgs false
mutual
def spec_RunCloud.j0 : Nat → Int → Bool → Int → Int → Int → Int → Int → Int → Int → Int → Int → List (S48) → Option (Int × Int × (List (S48)) × Bool)
 | 0, _, _, _, _, _, _, _, _, _, _, _, _ => none
 | k + 1, x2, x22, x190000, x190001, x190002, x190003, x190004, x190005, x190006, x191000, x191001, x191002 => if x22 = true then (some (0, 0, ([] : List (S48)), false)) else ((some (([] : List (S48)) : List (S48))).bind fun y195 => (if y195.length + x191002.length < 3518437208883 then (spec_RunCloud.l0 k x2 x190000 x190001 x190002 x190003 x190004 x190005 x190006 x191000 x191001 (y195 ++ x191002)) else (none)))
def spec_RunCloud.l0 : Nat → Int → Int → Int → Int → Int → Int → Int → Int → Int → Int → List (S48) → Option (Int × Int × (List (S48)) × Bool)
 | 0, _, _, _, _, _, _, _, _, _, _, _ => none
 | k + 1, x2, x190000, x190001, x190002, x190003, x190004, x190005, x190006, x191000, x191001, x191002 => if x2 > 0 then ((spec_StepCloud.f k x190000 x190001 x190002 x190003 x190004 x190005 x190006 x191000 x191001 x191002).bind fun bt201 => (if bt201.2.2.2 = true then (spec_RunCloud.l0 k (wrap64 (x2 - 1)) x190000 x190001 x190002 x190003 x190004 x190005 x190006 bt201.1 bt201.2.1 bt201.2.2.1) else (some (0, 0, ([] : List (S48)), false)))) else (some (x191000, x191001, x191002, true))
end
def spec_RunCloud.f (k : Nat) (a0_0 : Int) (a0_1 : Int) (a0_2 : Int) (a0_3 : Int) (a0_4 : Int) (a0_5 : Int) (a0_6 : Int) (a1_0 : Int) (a1_1 : Int) (l1_2 : List (S48)) (a2 : Int) : Option (Int × Int × (List (S48)) × Bool) := (spec_GoodEmitter.f a0_0 a0_1 a0_2 a0_3 a0_4 a0_5 a0_6).bind fun t192 => (if t192 = true then ((spec_GoodCloud.f k a1_0 a1_1 l1_2).bind fun t193 => (if t193 = true then ((spec_l1In.f a2 0 200).bind fun t194 => (spec_RunCloud.j0 k a2 (!t194) a0_0 a0_1 a0_2 a0_3 a0_4 a0_5 a0_6 a1_0 a1_1 l1_2)) else (spec_RunCloud.j0 k a2 true a0_0 a0_1 a0_2 a0_3 a0_4 a0_5 a0_6 a1_0 a1_1 l1_2))) else (spec_RunCloud.j0 k a2 true a0_0 a0_1 a0_2 a0_3 a0_4 a0_5 a0_6 a1_0 a1_1 l1_2))
theorem spec_RunCloud.mono_l : ∀ k, (∀ y0 y1 y2 y3 y4 y5 y6 y7 y8 y9 y10 y11, LeO (spec_RunCloud.j0 k y0 y1 y2 y3 y4 y5 y6 y7 y8 y9 y10 y11) (spec_RunCloud.j0 (k + 1) y0 y1 y2 y3 y4 y5 y6 y7 y8 y9 y10 y11)) ∧ (∀ y0 y1 y2 y3 y4 y5 y6 y7 y8 y9 y10, LeO (spec_RunCloud.l0 k y0 y1 y2 y3 y4 y5 y6 y7 y8 y9 y10) (spec_RunCloud.l0 (k + 1) y0 y1 y2 y3 y4 y5 y6 y7 y8 y9 y10))
 | 0 => ⟨fun _ _ _ _ _ _ _ _ _ _ _ _ r h => by simp [spec_RunCloud.j0] at h, fun _ _ _ _ _ _ _ _ _ _ _ r h => by simp [spec_RunCloud.l0] at h⟩
 | k + 1 => by
  obtain ⟨ih0, ih1⟩ := spec_RunCloud.mono_l k
  refine ⟨?_, ?_⟩
  ·intro y0 y1 y2 y3 y4 y5 y6 y7 y8 y9 y10 y11
   unfold spec_RunCloud.j0
   repeat' first
   | (with_reducible exact ih0 _ _ _ _ _ _ _ _ _ _ _ _)
   | (with_reducible exact ih1 _ _ _ _ _ _ _ _ _ _ _)
   | (with_reducible exact spec_GoodCloud.mono _ _ _ _)
   | (with_reducible exact spec_StepCloud.mono _ _ _ _ _ _ _ _ _ _ _)
   | (with_reducible exact LeO.refl _)
   | (with_reducible exact LeO.none _)
   | (with_reducible refine LeO.ite ?_ ?_)
   | (with_reducible refine LeO.bind ?_ (fun _ => ?_))
   | exact ih0 _ _ _ _ _ _ _ _ _ _ _ _
   | exact ih1 _ _ _ _ _ _ _ _ _ _ _
   | exact spec_GoodCloud.mono _ _ _ _
   | exact spec_StepCloud.mono _ _ _ _ _ _ _ _ _ _ _
   | exact LeO.none _
   | refine LeO.ite ?_ ?_
   | refine LeO.bind ?_ (fun _ => ?_)
  ·intro y0 y1 y2 y3 y4 y5 y6 y7 y8 y9 y10
   unfold spec_RunCloud.l0
   repeat' first
   | (with_reducible exact ih0 _ _ _ _ _ _ _ _ _ _ _ _)
   | (with_reducible exact ih1 _ _ _ _ _ _ _ _ _ _ _)
   | (with_reducible exact spec_GoodCloud.mono _ _ _ _)
   | (with_reducible exact spec_StepCloud.mono _ _ _ _ _ _ _ _ _ _ _)
   | (with_reducible exact LeO.refl _)
   | (with_reducible exact LeO.none _)
   | (with_reducible refine LeO.ite ?_ ?_)
   | (with_reducible refine LeO.bind ?_ (fun _ => ?_))
   | exact ih0 _ _ _ _ _ _ _ _ _ _ _ _
   | exact ih1 _ _ _ _ _ _ _ _ _ _ _
   | exact spec_GoodCloud.mono _ _ _ _
   | exact spec_StepCloud.mono _ _ _ _ _ _ _ _ _ _ _
   | exact LeO.none _
   | refine LeO.ite ?_ ?_
   | refine LeO.bind ?_ (fun _ => ?_)
theorem spec_RunCloud.mono : ∀ a0 a1 a2 a3 a4 a5 a6 a7 a8 a9 a10 k, LeO (spec_RunCloud.f k a0 a1 a2 a3 a4 a5 a6 a7 a8 a9 a10) (spec_RunCloud.f (k + 1) a0 a1 a2 a3 a4 a5 a6 a7 a8 a9 a10) := by
 intro a0 a1 a2 a3 a4 a5 a6 a7 a8 a9 a10 k
 obtain ⟨ih0, ih1⟩ := spec_RunCloud.mono_l k
 unfold spec_RunCloud.f
 repeat' first
   | (with_reducible exact ih0 _ _ _ _ _ _ _ _ _ _ _ _)
   | (with_reducible exact ih1 _ _ _ _ _ _ _ _ _ _ _)
   | (with_reducible exact spec_GoodCloud.mono _ _ _ _)
   | (with_reducible exact spec_StepCloud.mono _ _ _ _ _ _ _ _ _ _ _)
   | (with_reducible exact LeO.refl _)
   | (with_reducible exact LeO.none _)
   | (with_reducible refine LeO.ite ?_ ?_)
   | (with_reducible refine LeO.bind ?_ (fun _ => ?_))
   | exact ih0 _ _ _ _ _ _ _ _ _ _ _ _
   | exact ih1 _ _ _ _ _ _ _ _ _ _ _
   | exact spec_GoodCloud.mono _ _ _ _
   | exact spec_StepCloud.mono _ _ _ _ _ _ _ _ _ _ _
   | exact LeO.none _
   | refine LeO.ite ?_ ?_
   | refine LeO.bind ?_ (fun _ => ?_)
set_option maxHeartbeats 8000000 in
set_option maxRecDepth 100000 in
theorem spec_RunCloud.calls (k : Nat) (a0_0 : Int) (a0_1 : Int) (a0_2 : Int) (a0_3 : Int) (a0_4 : Int) (a0_5 : Int) (a0_6 : Int) (a1_0 : Int) (a1_1 : Int) (A1_2 : Option Addr) (c1_2 : Nat) (l1_2 : List (S48)) (a2 : Int) (r1 : Int) (r2 : Int) (r3 : List (S48)) (r4 : Bool) (w : World) (hr1_2 : Kd.C k48 w A1_2 l1_2.length l1_2) (hc1_2 : l1_2.length ≤ c1_2) (h : spec_RunCloud.f k a0_0 a0_1 a0_2 a0_3 a0_4 a0_5 a0_6 a1_0 a1_1 l1_2 a2 = some (r1, r2, r3, r4)) :
  Calls Try.prog 16 #[.agg #[.int .i64 a0_0, .int .i64 a0_1, .int .i64 a0_2, .int .i64 a0_3, .int .i64 a0_4, .int .i64 a0_5, .int .i64 a0_6], .agg #[.int .i64 a1_0, .int .i64 a1_1, .slice A1_2 l1_2.length c1_2], .int .i64 a2] w fun e w' => ∃ v2_ : Value, e = .returned (.tuple #[.agg #[.int .i64 r1, .int .i64 r2, v2_], .bool r4]) ∧ Kd.R k48 48 w' w.heap.size (fun _ => True) v2_ r3 ∧ Below w.heap.size w w' := by
 have hu26 := Try.underlying26
 have hu35 := Try.underlying35
 have HR1_2 := Aside0.mk hr1_2
 have HC1_2 := Aside0.mk hc1_2
 clear hr1_2 hc1_2
 have HB := Aside0.mk (Below.refl w.heap.size w)
 have H : ((spec_GoodEmitter.f a0_0 a0_1 a0_2 a0_3 a0_4 a0_5 a0_6).bind fun t192 => (if t192 = true then ((spec_GoodCloud.f k a1_0 a1_1 l1_2).bind fun t193 => (if t193 = true then ((spec_l1In.f a2 0 200).bind fun t194 => (spec_RunCloud.j0 k a2 (!t194) a0_0 a0_1 a0_2 a0_3 a0_4 a0_5 a0_6 a1_0 a1_1 l1_2)) else (spec_RunCloud.j0 k a2 true a0_0 a0_1 a0_2 a0_3 a0_4 a0_5 a0_6 a1_0 a1_1 l1_2))) else (spec_RunCloud.j0 k a2 true a0_0 a0_1 a0_2 a0_3 a0_4 a0_5 a0_6 a1_0 a1_1 l1_2))) = some (r1, r2, r3, r4) := h
 clear h
 have HC4 := Aside0.mk H
 clear H
 go_enter Try.func16, Try.ntmps16
 go_upto_region 1 with (first | ((with_reducible refine gate_dst (N := 3) rfl ?_); refine box_event rfl (N := 3) rfl (cs := #[.int .i64 a0_0, .int .i64 a0_1, .int .i64 a0_2, .int .i64 a0_3, .int .i64 a0_4, .int .i64 a0_5, .int .i64 a0_6]) (t := 26) sE ?_; intro gb189 hg w5 hbox hb; have BK189 := Aside0.mk hbox; have GW189 := gS w hg (lU); have GE189 := gS w hg (lU); replace HB := bH (lU) hb; clear hb hbox hg) | ((with_reducible refine gate_dst (N := 4) rfl ?_); refine box_event rfl (N := 4) rfl (cs := #[.int .i64 a1_0, .int .i64 a1_1, .slice A1_2 l1_2.length c1_2]) (t := 35) sE ?_; intro gb190 hg w6 hbox hb; have BK190 := Aside0.mk hbox; have GW190 := gS w hg (lV1 GE189); have GE190 := gS w hg (lV1 GE189); replace HB := bH (lV1 GE189) hb; have NB189_190 := nL hg (bV BK189); have NB190_189 := nG hg (bV BK189); replace BK189 := bB (bV BK189) hb; clear hb hbox hg) | ((with_reducible refine gate_dst (N := 6) rfl ?_); refine box_event rfl (N := 6) rfl (cs := #[.int .i64 0, .int .i64 0, .slice none 0 0]) (t := 35) sE ?_; intro gb191 hg w7 hbox hb; have BK191 := Aside0.mk hbox; have GW191 := gS w hg (lV2 GE189 GE190); have GE191 := gS w hg (lV2 GE189 GE190); replace HB := bH (lV2 GE189 GE190) hb; have NB189_191 := nL hg (bV BK189); have NB191_189 := nG hg (bV BK189); replace BK189 := bB (bV BK189) hb; have NB190_191 := nL hg (bV BK190); have NB191_190 := nG hg (bV BK190); replace BK190 := bB (bV BK190) hb; clear hb hbox hg))
 (try simp only [Act.put, List.setIfInBounds_toArray, List.set_cons_zero, List.set_cons_succ])
 go_cut [22] (fun v22 wc => ∃ (kq : Nat) (x22_3 : Bool), v22 = .bool x22_3 ∧ Aside0 (spec_RunCloud.j0 kq a2 x22_3 a0_0 a0_1 a0_2 a0_3 a0_4 a0_5 a0_6 a1_0 a1_1 l1_2 = some (r1, r2, r3, r4)) ∧ Aside0 (kq ≤ k) ∧ Aside0 (wc.heap[gb189]? = some (.cells #[.int .i64 a0_0, .int .i64 a0_1, .int .i64 a0_2, .int .i64 a0_3, .int .i64 a0_4, .int .i64 a0_5, .int .i64 a0_6] 26 (0, 0))) ∧ Aside0 (wc.heap[gb190]? = some (.cells #[.int .i64 a1_0, .int .i64 a1_1, (.slice A1_2 l1_2.length c1_2)] 35 (0, 0))) ∧ Aside0 (wc.heap[gb191]? = some (.cells #[.int .i64 0, .int .i64 0, (.slice none 0 0)] 35 (0, 0))) ∧ Aside0 (Below w.heap.size w wc))
 case first =>
  have H := HC4.out
  clear HC4
  replace H := Option.bind_eq_some_iff.mp H
  obtain ⟨t192, A80, H⟩ := H
  replace H : (if t192 = true then ((spec_GoodCloud.f k a1_0 a1_1 l1_2).bind fun t193 => (if t193 = true then ((spec_l1In.f a2 0 200).bind fun t194 => (spec_RunCloud.j0 k a2 (!t194) a0_0 a0_1 a0_2 a0_3 a0_4 a0_5 a0_6 a1_0 a1_1 l1_2)) else (spec_RunCloud.j0 k a2 true a0_0 a0_1 a0_2 a0_3 a0_4 a0_5 a0_6 a1_0 a1_1 l1_2))) else (spec_RunCloud.j0 k a2 true a0_0 a0_1 a0_2 a0_3 a0_4 a0_5 a0_6 a1_0 a1_1 l1_2)) = some (r1, r2, r3, r4) := H
  have A8 := Aside0.mk A80
  clear A80
  by_cases c9 : t192 = true
  ·subst c9
   have H1 : ((spec_GoodCloud.f k a1_0 a1_1 l1_2).bind fun t193 => (if t193 = true then ((spec_l1In.f a2 0 200).bind fun t194 => (spec_RunCloud.j0 k a2 (!t194) a0_0 a0_1 a0_2 a0_3 a0_4 a0_5 a0_6 a1_0 a1_1 l1_2)) else (spec_RunCloud.j0 k a2 true a0_0 a0_1 a0_2 a0_3 a0_4 a0_5 a0_6 a1_0 a1_1 l1_2))) = some (r1, r2, r3, r4) := by rw [if_pos rfl] at H; exact H
   clear H
   have H := H1
   clear H1
   replace H := Option.bind_eq_some_iff.mp H
   obtain ⟨t193, A100, H⟩ := H
   replace H : (if t193 = true then ((spec_l1In.f a2 0 200).bind fun t194 => (spec_RunCloud.j0 k a2 (!t194) a0_0 a0_1 a0_2 a0_3 a0_4 a0_5 a0_6 a1_0 a1_1 l1_2)) else (spec_RunCloud.j0 k a2 true a0_0 a0_1 a0_2 a0_3 a0_4 a0_5 a0_6 a1_0 a1_1 l1_2)) = some (r1, r2, r3, r4) := H
   have A10 := Aside0.mk A100
   clear A100
   by_cases c11 : t193 = true
   ·subst c11
    have H1 : ((spec_l1In.f a2 0 200).bind fun t194 => (spec_RunCloud.j0 k a2 (!t194) a0_0 a0_1 a0_2 a0_3 a0_4 a0_5 a0_6 a1_0 a1_1 l1_2)) = some (r1, r2, r3, r4) := by rw [if_pos rfl] at H; exact H
    clear H
    have H := H1
    clear H1
    replace H := Option.bind_eq_some_iff.mp H
    obtain ⟨t194, A120, H⟩ := H
    replace H : (spec_RunCloud.j0 k a2 (!t194) a0_0 a0_1 a0_2 a0_3 a0_4 a0_5 a0_6 a1_0 a1_1 l1_2) = some (r1, r2, r3, r4) := H
    have A12 := Aside0.mk A120
    clear A120
    have H' := Aside0.mk H
    clear H
    have hnb13 := NB189_190.out
    have hnc13 := NB190_189.out
    have hnb14 := NB189_191.out
    have hnc14 := NB191_189.out
    have hcz15_0 := cz BK189 0 (.int .i64 a0_0)
    have hcz15_1 := cz BK189 1 (.int .i64 a0_1)
    have hcz15_2 := cz BK189 2 (.int .i64 a0_2)
    have hcz15_3 := cz BK189 3 (.int .i64 a0_3)
    have hcz15_4 := cz BK189 4 (.int .i64 a0_4)
    have hcz15_5 := cz BK189 5 (.int .i64 a0_5)
    have hcz15_6 := cz BK189 6 (.int .i64 a0_6)
    have hfz15_0 := fz BK189 0
    have hfz15_1 := fz BK189 1
    have hfz15_2 := fz BK189 2
    have hfz15_3 := fz BK189 3
    have hfz15_4 := fz BK189 4
    have hfz15_5 := fz BK189 5
    have hfz15_6 := fz BK189 6
    go_wp2_with (first | ((with_reducible refine gate_callee (f := 19) rfl ?_); refine goesL_ (some 11) rfl rfl Try.func19 (by kernel_rfl) rfl #[.agg #[.int .i64 a0_0, .int .i64 a0_1, .int .i64 a0_2, .int .i64 a0_3, .int .i64 a0_4, .int .i64 a0_5, .int .i64 a0_6]] rfl aE ?_; (with_reducible refine (spec_GoodEmitter.calls a0_0 a0_1 a0_2 a0_3 a0_4 a0_5 a0_6 true _ A8.out).mono ?_); rintro e w16 ⟨rfl, hb⟩; refine ⟨_, rfl, ?_⟩; replace BK189 := bB (bV BK189) hb; replace BK190 := bB (bV BK190) hb; replace BK191 := bB (bV BK191) hb; replace HB := bH (lV3 GE189 GE190 GE191) hb; (try clear hb); have hnb17 := NB190_191.out; have hnc17 := NB191_190.out; have hcz18_0 := cz BK190 0 (.int .i64 a1_0); have hcz18_1 := cz BK190 1 (.int .i64 a1_1); have hcz18_2 := cz BK190 2 (.slice A1_2 l1_2.length c1_2); have hfz18_0 := fz BK190 0; have hfz18_1 := fz BK190 1; have hfz18_2 := fz BK190 2) | (go_at_call 20; (with_reducible refine (spec_GoodCloud.calls k a1_0 a1_1 _ _ l1_2 true _ ?side1 ?side2 A10.out).mono ?_); (case side1 => exact cU (Kd.C_below HR1_2.out HB.out)); (case side2 => exact HC1_2.out); rintro e w19 ⟨rfl, hb⟩; replace BK189 := bB (bV BK189) hb; replace BK190 := bB (bV BK190) hb; replace BK191 := bB (bV BK191) hb; replace HB := bH (lV3 GE189 GE190 GE191) hb; (try clear hb)) | (go_at_call 29; (with_reducible refine (spec_l1In.calls a2 0 200 t194 _ A12.out).mono ?_); rintro e w' ⟨rfl, ⟨nd, rfl⟩⟩))
    go_meet
    case rel => exact ⟨_, (!t194), tE, H', ⟨by first | omega | exact Nat.le_refl _⟩, ⟨by refine bU ?_; exact BK189.out⟩, ⟨by refine bU ?_; exact BK190.out⟩, ⟨by refine bU ?_; exact BK191.out⟩, ⟨by repeat (first | (with_reducible first | exact HB.out | apply below_alloc | apply pw_below_drewN | apply below_drew1 | refine below_set ?_ GE189.out | refine below_set ?_ GE190.out | refine below_set ?_ GE191.out) | exact HB.out)⟩⟩
   ·replace c11 := Bool.eq_false_iff.mpr c11
    subst c11
    have H1 : (spec_RunCloud.j0 k a2 true a0_0 a0_1 a0_2 a0_3 a0_4 a0_5 a0_6 a1_0 a1_1 l1_2) = some (r1, r2, r3, r4) := by rw [if_neg (show ¬ (false = true) by decide)] at H; exact H
    clear H
    have H := H1
    clear H1
    have H' := Aside0.mk H
    clear H
    have hnb20 := NB189_190.out
    have hnc20 := NB190_189.out
    have hnb21 := NB189_191.out
    have hnc21 := NB191_189.out
    have hcz22_0 := cz BK189 0 (.int .i64 a0_0)
    have hcz22_1 := cz BK189 1 (.int .i64 a0_1)
    have hcz22_2 := cz BK189 2 (.int .i64 a0_2)
    have hcz22_3 := cz BK189 3 (.int .i64 a0_3)
    have hcz22_4 := cz BK189 4 (.int .i64 a0_4)
    have hcz22_5 := cz BK189 5 (.int .i64 a0_5)
    have hcz22_6 := cz BK189 6 (.int .i64 a0_6)
    have hfz22_0 := fz BK189 0
    have hfz22_1 := fz BK189 1
    have hfz22_2 := fz BK189 2
    have hfz22_3 := fz BK189 3
    have hfz22_4 := fz BK189 4
    have hfz22_5 := fz BK189 5
    have hfz22_6 := fz BK189 6
    go_wp2_with (first | ((with_reducible refine gate_callee (f := 19) rfl ?_); refine goesL_ (some 11) rfl rfl Try.func19 (by kernel_rfl) rfl #[.agg #[.int .i64 a0_0, .int .i64 a0_1, .int .i64 a0_2, .int .i64 a0_3, .int .i64 a0_4, .int .i64 a0_5, .int .i64 a0_6]] rfl aE ?_; (with_reducible refine (spec_GoodEmitter.calls a0_0 a0_1 a0_2 a0_3 a0_4 a0_5 a0_6 true _ A8.out).mono ?_); rintro e w23 ⟨rfl, hb⟩; refine ⟨_, rfl, ?_⟩; replace BK189 := bB (bV BK189) hb; replace BK190 := bB (bV BK190) hb; replace BK191 := bB (bV BK191) hb; replace HB := bH (lV3 GE189 GE190 GE191) hb; (try clear hb); have hnb24 := NB190_191.out; have hnc24 := NB191_190.out; have hcz25_0 := cz BK190 0 (.int .i64 a1_0); have hcz25_1 := cz BK190 1 (.int .i64 a1_1); have hcz25_2 := cz BK190 2 (.slice A1_2 l1_2.length c1_2); have hfz25_0 := fz BK190 0; have hfz25_1 := fz BK190 1; have hfz25_2 := fz BK190 2) | (go_at_call 20; (with_reducible refine (spec_GoodCloud.calls k a1_0 a1_1 _ _ l1_2 false _ ?side1 ?side2 A10.out).mono ?_); (case side1 => exact cU (Kd.C_below HR1_2.out HB.out)); (case side2 => exact HC1_2.out); rintro e w26 ⟨rfl, hb⟩; replace BK189 := bB (bV BK189) hb; replace BK190 := bB (bV BK190) hb; replace BK191 := bB (bV BK191) hb; replace HB := bH (lV3 GE189 GE190 GE191) hb; (try clear hb)))
    go_meet
    case rel => exact ⟨_, (true), tE, H', ⟨by first | omega | exact Nat.le_refl _⟩, ⟨by refine bU ?_; exact BK189.out⟩, ⟨by refine bU ?_; exact BK190.out⟩, ⟨by refine bU ?_; exact BK191.out⟩, ⟨by repeat (first | (with_reducible first | exact HB.out | apply below_alloc | apply pw_below_drewN | apply below_drew1 | refine below_set ?_ GE189.out | refine below_set ?_ GE190.out | refine below_set ?_ GE191.out) | exact HB.out)⟩⟩
  ·replace c9 := Bool.eq_false_iff.mpr c9
   subst c9
   have H1 : (spec_RunCloud.j0 k a2 true a0_0 a0_1 a0_2 a0_3 a0_4 a0_5 a0_6 a1_0 a1_1 l1_2) = some (r1, r2, r3, r4) := by rw [if_neg (show ¬ (false = true) by decide)] at H; exact H
   clear H
   have H := H1
   clear H1
   have H' := Aside0.mk H
   clear H
   have hnb27 := NB189_190.out
   have hnc27 := NB190_189.out
   have hnb28 := NB189_191.out
   have hnc28 := NB191_189.out
   have hcz29_0 := cz BK189 0 (.int .i64 a0_0)
   have hcz29_1 := cz BK189 1 (.int .i64 a0_1)
   have hcz29_2 := cz BK189 2 (.int .i64 a0_2)
   have hcz29_3 := cz BK189 3 (.int .i64 a0_3)
   have hcz29_4 := cz BK189 4 (.int .i64 a0_4)
   have hcz29_5 := cz BK189 5 (.int .i64 a0_5)
   have hcz29_6 := cz BK189 6 (.int .i64 a0_6)
   have hfz29_0 := fz BK189 0
   have hfz29_1 := fz BK189 1
   have hfz29_2 := fz BK189 2
   have hfz29_3 := fz BK189 3
   have hfz29_4 := fz BK189 4
   have hfz29_5 := fz BK189 5
   have hfz29_6 := fz BK189 6
   go_wp2_with (first | ((with_reducible refine gate_callee (f := 19) rfl ?_); refine goesL_ (some 11) rfl rfl Try.func19 (by kernel_rfl) rfl #[.agg #[.int .i64 a0_0, .int .i64 a0_1, .int .i64 a0_2, .int .i64 a0_3, .int .i64 a0_4, .int .i64 a0_5, .int .i64 a0_6]] rfl aE ?_; (with_reducible refine (spec_GoodEmitter.calls a0_0 a0_1 a0_2 a0_3 a0_4 a0_5 a0_6 false _ A8.out).mono ?_); rintro e w30 ⟨rfl, hb⟩; refine ⟨_, rfl, ?_⟩; replace BK189 := bB (bV BK189) hb; replace BK190 := bB (bV BK190) hb; replace BK191 := bB (bV BK191) hb; replace HB := bH (lV3 GE189 GE190 GE191) hb; (try clear hb)))
   go_meet
   case rel => exact ⟨_, (true), tE, H', ⟨by first | omega | exact Nat.le_refl _⟩, ⟨by refine bU ?_; exact BK189.out⟩, ⟨by refine bU ?_; exact BK190.out⟩, ⟨by refine bU ?_; exact BK191.out⟩, ⟨by repeat (first | (with_reducible first | exact HB.out | apply below_alloc | apply pw_below_drewN | apply below_drew1 | refine below_set ?_ GE189.out | refine below_set ?_ GE190.out | refine below_set ?_ GE191.out) | exact HB.out)⟩⟩
 case rest =>
  clear HC4
  try clear c1
  try clear c2
  try clear p2
  try clear c9
  try clear c11
  try clear c13
  try clear c14
  try clear c16
  try clear c17
  try clear c19
  try clear c20
  try clear c21
  try clear c24
  try clear c27
  try clear c28
  try clear hcz15_0
  try clear hcz15_1
  try clear hcz15_2
  try clear hcz15_3
  try clear hcz15_4
  try clear hcz15_5
  try clear hcz15_6
  try clear hcz18_0
  try clear hcz18_1
  try clear hcz18_2
  try clear hcz22_0
  try clear hcz22_1
  try clear hcz22_2
  try clear hcz22_3
  try clear hcz22_4
  try clear hcz22_5
  try clear hcz22_6
  try clear hcz25_0
  try clear hcz25_1
  try clear hcz25_2
  try clear hcz29_0
  try clear hcz29_1
  try clear hcz29_2
  try clear hcz29_3
  try clear hcz29_4
  try clear hcz29_5
  try clear hcz29_6
  try clear hfz15_0
  try clear hfz15_1
  try clear hfz15_2
  try clear hfz15_3
  try clear hfz15_4
  try clear hfz15_5
  try clear hfz15_6
  try clear hfz18_0
  try clear hfz18_1
  try clear hfz18_2
  try clear hfz22_0
  try clear hfz22_1
  try clear hfz22_2
  try clear hfz22_3
  try clear hfz22_4
  try clear hfz22_5
  try clear hfz22_6
  try clear hfz25_0
  try clear hfz25_1
  try clear hfz25_2
  try clear hfz29_0
  try clear hfz29_1
  try clear hfz29_2
  try clear hfz29_3
  try clear hfz29_4
  try clear hfz29_5
  try clear hfz29_6
  obtain ⟨kq, x22_3, rfl, HA, HJ3, BK189, BK190, BK191, HB⟩ := hcut
  cases kq with
  | zero => exact absurd HA.out (by simp [spec_RunCloud.j0])
  | succ kj3 =>
   have H := HA.out
   clear HA
   simp only [spec_RunCloud.j0] at H
   by_cases c31 : x22_3 = true
   ·subst c31
    have H1 : (some (0, 0, ([] : List (S48)), false)) = some (r1, r2, r3, r4) := by rw [if_pos rfl] at H; exact H
    clear H
    have H := H1
    clear H1
    simp only [Option.some.injEq, Prod.mk.injEq] at H
    obtain ⟨rfl, rfl, rfl, rfl⟩ := H
    have hnb32 := NB191_189.out
    have hnc32 := NB189_191.out
    have hnb33 := NB191_190.out
    have hnc33 := NB190_191.out
    have hcz34_0 := cz BK191 0 (.int .i64 0)
    have hcz34_1 := cz BK191 1 (.int .i64 0)
    have hcz34_2 := cz BK191 2 (.slice none 0 0)
    have hfz34_0 := fz BK191 0
    have hfz34_1 := fz BK191 1
    have hfz34_2 := fz BK191 2
    go_wp2_with (first | ((with_reducible refine gate_store (t := 35) (p := 6) rfl ?_); refine store_event (t := 35) (p := 6) (v := ?vo_w35) (w1 := (((wc.setCell ⟨gb191, 0, none⟩ (.int .i64 0)).setCell ⟨gb191, 1, none⟩ (.int .i64 0)).setCell ⟨gb191, 2, none⟩ (.slice none 0 0))) ?hg ?ho ?hn ?hr ?_; (case ho => rfl); (case hg => rfl); (case hn => rfl); (case hr => first | (go_simp; done) | (go_simp; rfl) | (have hq0_ := (blk_cell BK191.out 0).trans (show _ = some _ from rfl); have hf0_ := blk_frozen BK191.out 0; have hq1_ := (blk_cell BK191.out 1).trans (show _ = some _ from rfl); have hf1_ := blk_frozen BK191.out 1; have hq2_ := (blk_cell BK191.out 2).trans (show _ = some _ from rfl); have hf2_ := blk_frozen BK191.out 2; first | (go_simp; done) | (go_simp; rfl))); intro w35 hw; replace BK189 : Aside0 (w35.heap[gb189]? = some (.cells #[.int .i64 a0_0, .int .i64 a0_1, .int .i64 a0_2, .int .i64 a0_3, .int .i64 a0_4, .int .i64 a0_5, .int .i64 a0_6] 26 (0, 0))) := ⟨(by rw [hw]; exact (bG NB189_191 BK189))⟩; replace BK190 : Aside0 (w35.heap[gb190]? = some (.cells #[.int .i64 a1_0, .int .i64 a1_1, .slice A1_2 l1_2.length c1_2] 35 (0, 0))) := ⟨(by rw [hw]; exact (bG NB190_191 BK190))⟩; replace BK191 : Aside0 (w35.heap[gb191]? = some (.cells #[.int .i64 0, .int .i64 0, .slice none 0 0] 35 (0, 0))) := ⟨(by rw [hw]; exact (by refine bU ?_; refine blk_put (cs := #[.int .i64 0, .int .i64 0, .slice none 0 0]) ?_ 2 _ rfl; refine bU ?_; refine blk_put (cs := #[.int .i64 0, .int .i64 0, .slice none 0 0]) ?_ 1 _ rfl; refine bU ?_; refine blk_put (cs := #[.int .i64 0, .int .i64 0, .slice none 0 0]) ?_ 0 _ rfl; refine bU ?_; exact BK191.out))⟩; replace HB : Aside0 (Below w.heap.size w w35) := ⟨(by rw [hw]; exact (lV3 GE189 GE190 GE191))⟩; clear hw))
    refine bodyPost_ret (results_ct rfl _ _ gb191 35 #[.int .i64 0, .int .i64 0, .slice none 0 0] (0, 0) _ rfl (bV BK191) Try.underlying35 rfl (by kernel_rfl)) rfl ?_
    exact ⟨_, eE, by first | exact Kd.R_nil _ _ _ _ _ | exact Kd.N_nil _ _ _ _ _ | exact Kd.V_nil _ _ _ _ _ | exact Kd.Q_nil _ _ _ _ _ | exact Kd.S_nil _ _ _ _ _, lV3 GE189 GE190 GE191⟩
   ·replace c31 := Bool.eq_false_iff.mpr c31
    subst c31
    have H1 : ((some (([] : List (S48)) : List (S48))).bind fun y195 => (if y195.length + l1_2.length < 3518437208883 then (spec_RunCloud.l0 kj3 a2 a0_0 a0_1 a0_2 a0_3 a0_4 a0_5 a0_6 a1_0 a1_1 (y195 ++ l1_2)) else (none))) = some (r1, r2, r3, r4) := by rw [if_neg (show ¬ (false = true) by decide)] at H; exact H
    clear H
    have H := H1
    clear H1
    obtain ⟨y195, hy195⟩ : ∃ y_ : List (S48), y_ = (([] : List (S48))) := ⟨_, rfl⟩
    replace H : (if y195.length + l1_2.length < 3518437208883 then (spec_RunCloud.l0 kj3 a2 a0_0 a0_1 a0_2 a0_3 a0_4 a0_5 a0_6 a1_0 a1_1 (y195 ++ l1_2)) else (none)) = some (r1, r2, r3, r4) := by first | (rw [hy195]; with_reducible exact H) | (have H2_ := (Option.bind_some _ _).symm.trans H; rw [hy195]; with_reducible exact H2_) | (have H2_ := (Option.bind_some _ _).symm.trans H; with_reducible exact H2_) | with_reducible exact H | (rw [hy195]; exact H) | exact H
    have Ny195 := Aside0.mk hy195
    clear hy195
    by_cases c36 : y195.length + l1_2.length < 3518437208883
    ·rw [if_pos c36] at H
     have LMc36 := Aside0.mk c36
     clear c36
     obtain ⟨y198, hy198⟩ : ∃ y_ : List (S48), y_ = (y195 ++ l1_2) := ⟨_, rfl⟩
     replace H : (spec_RunCloud.l0 kj3 a2 a0_0 a0_1 a0_2 a0_3 a0_4 a0_5 a0_6 a1_0 a1_1 y198) = some (r1, r2, r3, r4) := by first | (rw [hy198]; with_reducible exact H) | (have H2_ := (Option.bind_some _ _).symm.trans H; rw [hy198]; with_reducible exact H2_) | (have H2_ := (Option.bind_some _ _).symm.trans H; with_reducible exact H2_) | with_reducible exact H | (rw [hy198]; exact H) | exact H
     have Ny198 := Aside0.mk hy198
     clear hy198
     have H' := Aside0.mk H
     clear H
     go_wp2_with (first | ((with_reducible refine gate_dst (N := 24) rfl ?_); refine Kd.R_lit k48 _ 48 ?hg (N := 24) ?hd (xs := ([] : List (S48))) (inner := []) (ok := fun _ => True) (okp := fun _ => True) ?hr ?hp (fun _ hk => hk) trivial (Below.refl _ _) (Nat.le_refl _) (by simp) ?_; (case hd => rfl); (case hg => rfl); (case hr => exact sE); (case hp => exact (Reps.none _ _)); intro v196 w37 ho38 hb hg_ hnew_; clear hg_ hnew_; (first | rw [← Ny195.out] at ho38 | (simp only [Int.reduceToNat] at ho38; rw [← Ny195.out] at ho38)); have HO197 := Aside0.mk (Kd.R_lower ho38 (below_size (lV3 GE189 GE190 GE191))); replace BK189 := bB (bV BK189) hb; replace BK190 := bB (bV BK190) hb; replace BK191 := bB (bV BK191) hb; replace HB := bH (lV3 GE189 GE190 GE191) hb; clear hb ho38; have hnb39 := NB190_189.out; have hnc39 := NB189_190.out; have hnb40 := NB190_191.out; have hnc40 := NB191_190.out; have hcz41_0 := cz BK190 0 (.int .i64 a1_0); have hcz41_1 := cz BK190 1 (.int .i64 a1_1); have hcz41_2 := cz BK190 2 (.slice A1_2 l1_2.length c1_2); have hfz41_0 := fz BK190 0; have hfz41_1 := fz BK190 1; have hfz41_2 := fz BK190 2) | ((with_reducible refine gate_builtin (b := .append) (xs := #[.tmp 24, .tmp 26]) rfl ?_); at_builtin; refine Kd.R_append_rows k48 (w0 := w) w.heap.size rfl (.tmp 24) (.tmp 26) 33 48 (.agg #[(.int .i64 0), (.int .i64 0), (.int .i64 0), (.int .i64 0), (.int .i64 0)]) 40 rfl Try.underlying33 info48 rfl (by decide) (by omega) v196 y195 l1_2 _ _ _ (fun _ => True) (fun _ => False) rfl rfl ?aO ?aR (fun _ _ h => h) (fun _ h => h.elim) ?aF ?aB ?aS ?aL ?_; (case aR => repeat (first | exact (Kd.C_below HR1_2.out HB.out) | (with_reducible refine Kd.C_alloc ?_ _) | (with_reducible refine Kd.C_drewN ?_ _) | (with_reducible refine Kd.C_drew ?_))); (case aB => exact (lV3 GE189 GE190 GE191)); (case aF => exact (fun _ _ => trivial)); (case aO => exact (rU HO197.out)); (case aS => exact (below_size (lV3 GE189 GE190 GE191))); (case aL => have := LMc36.out; omega); intro v199 w42 ho hb hg hat; rw [← Ny198.out] at ho; replace BK189 := Aside0.mk (blk_grown (g := gb189) (o := .cells #[.int .i64 a0_0, .int .i64 a0_1, .int .i64 a0_2, .int .i64 a0_3, .int .i64 a0_4, .int .i64 a0_5, .int .i64 a0_6] 26 (0, 0)) (bV BK189) hg (Kd.R_ne HO197.out BK189.out (by decide))); replace BK190 := Aside0.mk (blk_grown (g := gb190) (o := .cells #[.int .i64 a1_0, .int .i64 a1_1, .slice A1_2 l1_2.length c1_2] 35 (0, 0)) (bV BK190) hg (Kd.R_ne HO197.out BK190.out (by decide))); replace BK191 := Aside0.mk (blk_grown (g := gb191) (o := .cells #[.int .i64 0, .int .i64 0, .slice none 0 0] 35 (0, 0)) (bV BK191) hg (Kd.R_ne HO197.out BK191.out (by decide))); replace HB := Aside0.mk hb; have HO200 := Aside0.mk ho; clear HO197; clear ho hb hg hat; obtain ⟨Ao43, co43, eo43⟩ := Kd.R_slice HO200.out; subst eo43; have hcz44_0 := cz BK190 0 (.int .i64 a1_0); have hcz44_1 := cz BK190 1 (.int .i64 a1_1); have hcz44_2 := cz BK190 2 (.slice A1_2 l1_2.length c1_2); have hfz44_0 := fz BK190 0; have hfz44_1 := fz BK190 1; have hfz44_2 := fz BK190 2) | ((with_reducible refine gate_store (t := 33) (p := 28) rfl ?_); refine store_event (t := 33) (p := 28) (v := ?vo_w45) (w1 := (w42.setCell ⟨gb190, 2, none⟩ (.slice Ao43 y198.length co43))) ?hg ?ho ?hn ?hr ?_; (case ho => rfl); (case hg => rfl); (case hn => rfl); (case hr => first | (go_simp; done) | (go_simp; rfl) | (have hq0_ := (blk_cell BK190.out 2).trans (show _ = some _ from rfl); have hf0_ := blk_frozen BK190.out 2; first | (go_simp; done) | (go_simp; rfl))); intro w45 hw; replace HO200 : Aside0 (Kd.R k48 48 w45 w.heap.size (fun _ => True) (.slice Ao43 y198.length co43) y198) := ⟨(by rw [hw]; exact (by (with_reducible repeat (first | apply Kd.R_alloc | apply Kd.R_drewN | apply Kd.R_drew)); exact Kd.R_mono (Kd.R_far (p := ⟨gb190, 2, none⟩) (Kd.R_types HO200.out BK190.out (by decide)) (fun _ hk => hk.2) (.slice Ao43 y198.length co43)) (fun _ hk => trivial)))⟩; replace BK189 : Aside0 (w45.heap[gb189]? = some (.cells #[.int .i64 a0_0, .int .i64 a0_1, .int .i64 a0_2, .int .i64 a0_3, .int .i64 a0_4, .int .i64 a0_5, .int .i64 a0_6] 26 (0, 0))) := ⟨(by rw [hw]; exact (bG NB189_190 BK189))⟩; replace BK190 : Aside0 (w45.heap[gb190]? = some (.cells #[.int .i64 a1_0, .int .i64 a1_1, .slice Ao43 y198.length co43] 35 (0, 0))) := ⟨(by rw [hw]; exact (by refine bU ?_; refine blk_put (cs := #[.int .i64 a1_0, .int .i64 a1_1, .slice A1_2 l1_2.length c1_2]) ?_ 2 _ rfl; refine bU ?_; exact BK190.out))⟩; replace BK191 : Aside0 (w45.heap[gb191]? = some (.cells #[.int .i64 0, .int .i64 0, .slice none 0 0] 35 (0, 0))) := ⟨(by rw [hw]; exact (bG NB191_190 BK191))⟩; replace HB : Aside0 (Below w.heap.size w w45) := ⟨(by rw [hw]; exact (lV3 GE189 GE190 GE191))⟩; clear hw))
     (try simp only [Act.put, List.setIfInBounds_toArray, List.set_cons_zero, List.set_cons_succ])
     go_loopg [2] kj3 (fun kq v2 w' => ∃ (x2_2 : Int) (x191000_2 : Int) (x191001_2 : Int) (x191002_2 : List (S48)) (x192000_2 : Int) (x192001_2 : Int) (u191002 : Value), v2 = .int .i64 x2_2 ∧ Aside0 (spec_RunCloud.l0 kq x2_2 a0_0 a0_1 a0_2 a0_3 a0_4 a0_5 a0_6 x191000_2 x191001_2 x191002_2 = some (r1, r2, r3, r4)) ∧ Aside0 (kq ≤ kj3) ∧ Aside0 (Kd.R k48 48 w' w.heap.size (fun _ => True) u191002 x191002_2) ∧ Aside0 (w'.heap[gb189]? = some (.cells #[.int .i64 a0_0, .int .i64 a0_1, .int .i64 a0_2, .int .i64 a0_3, .int .i64 a0_4, .int .i64 a0_5, .int .i64 a0_6] 26 (0, 0))) ∧ Aside0 (w'.heap[gb190]? = some (.cells #[.int .i64 x191000_2, .int .i64 x191001_2, u191002] 35 (0, 0))) ∧ Aside0 (w'.heap[gb191]? = some (.cells #[.int .i64 x192000_2, .int .i64 x192001_2, (.slice none 0 0)] 35 (0, 0))) ∧ Aside0 (Below w.heap.size w w'))
     case atStart => exact ⟨(a2), (a1_0), (a1_1), (y198), (0), (0), (.slice Ao43 y198.length co43), tE, H', ⟨Nat.le_refl _⟩, ⟨by (with_reducible repeat (first | apply Kd.R_alloc | apply Kd.R_drewN | apply Kd.R_drew)); exact HO200.out⟩, ⟨by refine bU ?_; exact BK189.out⟩, ⟨by refine bU ?_; exact BK190.out⟩, ⟨by refine bU ?_; exact BK191.out⟩, ⟨by repeat (first | (with_reducible first | exact HB.out | apply below_alloc | apply pw_below_drewN | apply below_drew1 | refine below_set ?_ GE189.out | refine below_set ?_ GE190.out | refine below_set ?_ GE191.out) | exact HB.out)⟩⟩
     case round =>
      clear H'
      try clear c1
      try clear q1
      try clear c2
      try clear p2
      try clear q2
      try clear c3
      try clear c4
      try clear c9
      try clear c11
      try clear c13
      try clear c14
      try clear c16
      try clear c17
      try clear c19
      try clear c20
      try clear c21
      try clear c24
      try clear c27
      try clear c28
      try clear c31
      try clear c32
      try clear c33
      try clear c36
      try clear c39
      try clear c40
      try clear hcz15_0
      try clear hcz15_1
      try clear hcz15_2
      try clear hcz15_3
      try clear hcz15_4
      try clear hcz15_5
      try clear hcz15_6
      try clear hcz18_0
      try clear hcz18_1
      try clear hcz18_2
      try clear hcz22_0
      try clear hcz22_1
      try clear hcz22_2
      try clear hcz22_3
      try clear hcz22_4
      try clear hcz22_5
      try clear hcz22_6
      try clear hcz25_0
      try clear hcz25_1
      try clear hcz25_2
      try clear hcz29_0
      try clear hcz29_1
      try clear hcz29_2
      try clear hcz29_3
      try clear hcz29_4
      try clear hcz29_5
      try clear hcz29_6
      try clear hcz34_0
      try clear hcz34_1
      try clear hcz34_2
      try clear hcz41_0
      try clear hcz41_1
      try clear hcz41_2
      try clear hcz44_0
      try clear hcz44_1
      try clear hcz44_2
      try clear hfz15_0
      try clear hfz15_1
      try clear hfz15_2
      try clear hfz15_3
      try clear hfz15_4
      try clear hfz15_5
      try clear hfz15_6
      try clear hfz18_0
      try clear hfz18_1
      try clear hfz18_2
      try clear hfz22_0
      try clear hfz22_1
      try clear hfz22_2
      try clear hfz22_3
      try clear hfz22_4
      try clear hfz22_5
      try clear hfz22_6
      try clear hfz25_0
      try clear hfz25_1
      try clear hfz25_2
      try clear hfz29_0
      try clear hfz29_1
      try clear hfz29_2
      try clear hfz29_3
      try clear hfz29_4
      try clear hfz29_5
      try clear hfz29_6
      try clear hfz34_0
      try clear hfz34_1
      try clear hfz34_2
      try clear hfz41_0
      try clear hfz41_1
      try clear hfz41_2
      try clear hfz44_0
      try clear hfz44_1
      try clear hfz44_2
      try clear p2
      obtain ⟨x2_2, x191000_2, x191001_2, x191002_2, x192000_2, x192001_2, u191002, rfl, HA, HK2, HO_191002, BK189, BK190, BK191, HB⟩ := hrel
      cases gk with
      | zero => exact absurd HA.out (by simp [spec_RunCloud.l0])
      | succ k2 =>
       have H := HA.out
       clear HA
       simp only [spec_RunCloud.l0] at H
       by_cases c46 : x2_2 > 0
       ·rw [if_pos c46] at H
        have c46b0 : decide (0 < x2_2) = true := decide_eq_true c46
        clear c46
        replace H := Option.bind_eq_some_iff.mp H
        obtain ⟨⟨t201, t202, t203, t206⟩, A470, H⟩ := H
        replace H : (if t206 = true then (spec_RunCloud.l0 k2 (wrap64 (x2_2 - 1)) a0_0 a0_1 a0_2 a0_3 a0_4 a0_5 a0_6 t201 t202 t203) else (some (0, 0, ([] : List (S48)), false))) = some (r1, r2, r3, r4) := H
        have A47 := Aside0.mk A470
        clear A470
        by_cases c48 : t206 = true
        ·subst c48
         have H1 : (spec_RunCloud.l0 k2 (wrap64 (x2_2 - 1)) a0_0 a0_1 a0_2 a0_3 a0_4 a0_5 a0_6 t201 t202 t203) = some (r1, r2, r3, r4) := by rw [if_pos rfl] at H; exact H
         clear H
         have H := H1
         clear H1
         have H' := Aside0.mk H
         clear H
         have hnb49 := NB189_190.out
         have hnc49 := NB190_189.out
         have hnb50 := NB189_191.out
         have hnc50 := NB191_189.out
         have hcz51_0 := cz BK189 0 (.int .i64 a0_0)
         have hcz51_1 := cz BK189 1 (.int .i64 a0_1)
         have hcz51_2 := cz BK189 2 (.int .i64 a0_2)
         have hcz51_3 := cz BK189 3 (.int .i64 a0_3)
         have hcz51_4 := cz BK189 4 (.int .i64 a0_4)
         have hcz51_5 := cz BK189 5 (.int .i64 a0_5)
         have hcz51_6 := cz BK189 6 (.int .i64 a0_6)
         have hfz51_0 := fz BK189 0
         have hfz51_1 := fz BK189 1
         have hfz51_2 := fz BK189 2
         have hfz51_3 := fz BK189 3
         have hfz51_4 := fz BK189 4
         have hfz51_5 := fz BK189 5
         have hfz51_6 := fz BK189 6
         have hnb52 := NB190_191.out
         have hnc52 := NB191_190.out
         have hcz53_0 := cz BK190 0 (.int .i64 x191000_2)
         have hcz53_1 := cz BK190 1 (.int .i64 x191001_2)
         have hcz53_2 := cz BK190 2 (u191002)
         have hfz53_0 := fz BK190 0
         have hfz53_1 := fz BK190 1
         have hfz53_2 := fz BK190 2
         obtain ⟨Ao54, co54, eo54⟩ := Kd.R_slice HO_191002.out
         subst eo54
         go_wp2_with (first | ((with_reducible refine gate_callee (f := 10) rfl ?_); refine goesL_ (some 36) rfl rfl Try.func10 (by kernel_rfl) rfl #[.agg #[.int .i64 a0_0, .int .i64 a0_1, .int .i64 a0_2, .int .i64 a0_3, .int .i64 a0_4, .int .i64 a0_5, .int .i64 a0_6], .agg #[.int .i64 x191000_2, .int .i64 x191001_2, .slice Ao54 x191002_2.length co54]] rfl aE ?_; (with_reducible refine (spec_StepCloud.calls k2 a0_0 a0_1 a0_2 a0_3 a0_4 a0_5 a0_6 x191000_2 x191001_2 _ _ x191002_2 t201 t202 t203 true _ ?side1 ?side2 A47.out).mono ?_); (case side1 => exact cU (Kd.R_reads' HO_191002.out).2.2); (case side2 => exact (Kd.R_reads' HO_191002.out).2.1); rintro e w55 ⟨v204, rfl, ho0, hb⟩; refine ⟨_, rfl, ?_⟩; have HO205 := Aside0.mk (Kd.R_lower (Kd.R_new' ho0 (Kd.R_lt (rU HO_191002.out))) (below_size (lV3 GE189 GE190 GE191))); replace HO_191002 := Aside0.mk (Kd.R_elder' (rU HO_191002.out) (Kd.R_base ho0) hb); replace BK189 := bB (bV BK189) hb; replace BK190 := bB (bV BK190) hb; replace BK191 := bB (bV BK191) hb; replace HB := bH (lV3 GE189 GE190 GE191) hb; (try clear hb); (try clear ho0)) | ((with_reducible refine gate_dst (N := 8) rfl ?_); refine box_event rfl (N := 8) rfl (cs := #[.int .i64 0, .int .i64 0, .slice none 0 0]) (t := 35) sE ?_; intro gb207 hg w56 hbox hb; replace HO_191002 := Aside0.mk (Kd.R_below (rU HO_191002.out) hb); replace HO205 := Aside0.mk (Kd.R_below (rU HO205.out) hb); have BK207 := Aside0.mk hbox; have GW207 := gS w hg (lV3 GE189 GE190 GE191); have GE207 := gS w hg (lV3 GE189 GE190 GE191); replace HB := bH (lV3 GE189 GE190 GE191) hb; have NB189_207 := nL hg (bV BK189); have NB207_189 := nG hg (bV BK189); replace BK189 := bB (bV BK189) hb; have NB190_207 := nL hg (bV BK190); have NB207_190 := nG hg (bV BK190); replace BK190 := bB (bV BK190) hb; have NB191_207 := nL hg (bV BK191); have NB207_191 := nG hg (bV BK191); replace BK191 := bB (bV BK191) hb; clear hb hbox hg; have hnb57 := NB207_189.out; have hnc57 := NB189_207.out; have hnb58 := NB207_190.out; have hnc58 := NB190_207.out; have hnb59 := NB207_191.out; have hnc59 := NB191_207.out; have hcz60_0 := cz BK207 0 (.int .i64 0); have hcz60_1 := cz BK207 1 (.int .i64 0); have hcz60_2 := cz BK207 2 (.slice none 0 0); have hfz60_0 := fz BK207 0; have hfz60_1 := fz BK207 1; have hfz60_2 := fz BK207 2; obtain ⟨Ao61, co61, eo61⟩ := Kd.R_slice HO205.out; subst eo61) | ((with_reducible refine gate_store (t := 35) (p := 8) rfl ?_); refine store_event (t := 35) (p := 8) (v := ?vo_w62) (w1 := (((w56.setCell ⟨gb207, 0, none⟩ (.int .i64 t201)).setCell ⟨gb207, 1, none⟩ (.int .i64 t202)).setCell ⟨gb207, 2, none⟩ (.slice Ao61 t203.length co61))) ?hg ?ho ?hn ?hr ?_; (case ho => rfl); (case hg => rfl); (case hn => rfl); (case hr => first | (go_simp; done) | (go_simp; rfl) | (have hq0_ := (blk_cell BK207.out 0).trans (show _ = some _ from rfl); have hf0_ := blk_frozen BK207.out 0; have hq1_ := (blk_cell BK207.out 1).trans (show _ = some _ from rfl); have hf1_ := blk_frozen BK207.out 1; have hq2_ := (blk_cell BK207.out 2).trans (show _ = some _ from rfl); have hf2_ := blk_frozen BK207.out 2; first | (go_simp; done) | (go_simp; rfl))); intro w62 hw; replace HO_191002 : Aside0 (Kd.R k48 48 w62 w.heap.size (fun k_ => some k_ ≠ (.slice Ao61 t203.length co61 : Value).ownBlock) (.slice Ao54 x191002_2.length co54) x191002_2) := ⟨(by rw [hw]; exact (by (with_reducible repeat (first | apply Kd.R_alloc | apply Kd.R_drewN | apply Kd.R_drew)); exact Kd.R_mono (Kd.R_far (p := ⟨gb207, 2, none⟩) (Kd.R_far (p := ⟨gb207, 1, none⟩) (Kd.R_far (p := ⟨gb207, 0, none⟩) (Kd.R_types HO_191002.out BK207.out (by decide)) (fun _ hk => hk.2) (.int .i64 t201)) (fun _ hk => hk.2) (.int .i64 t202)) (fun _ hk => hk.2) (.slice Ao61 t203.length co61)) (fun _ hk => hk.1.2)))⟩; replace HO205 : Aside0 (Kd.R k48 48 w62 w.heap.size (fun k_ => some k_ ≠ (.slice Ao54 x191002_2.length co54 : Value).ownBlock) (.slice Ao61 t203.length co61) t203) := ⟨(by rw [hw]; exact (by (with_reducible repeat (first | apply Kd.R_alloc | apply Kd.R_drewN | apply Kd.R_drew)); exact Kd.R_mono (Kd.R_far (p := ⟨gb207, 2, none⟩) (Kd.R_far (p := ⟨gb207, 1, none⟩) (Kd.R_far (p := ⟨gb207, 0, none⟩) (Kd.R_types HO205.out BK207.out (by decide)) (fun _ hk => hk.2) (.int .i64 t201)) (fun _ hk => hk.2) (.int .i64 t202)) (fun _ hk => hk.2) (.slice Ao61 t203.length co61)) (fun _ hk => hk.1.2)))⟩; replace BK189 : Aside0 (w62.heap[gb189]? = some (.cells #[.int .i64 a0_0, .int .i64 a0_1, .int .i64 a0_2, .int .i64 a0_3, .int .i64 a0_4, .int .i64 a0_5, .int .i64 a0_6] 26 (0, 0))) := ⟨(by rw [hw]; exact (bG NB189_207 BK189))⟩; replace BK190 : Aside0 (w62.heap[gb190]? = some (.cells #[.int .i64 x191000_2, .int .i64 x191001_2, .slice Ao54 x191002_2.length co54] 35 (0, 0))) := ⟨(by rw [hw]; exact (bG NB190_207 BK190))⟩; replace BK191 : Aside0 (w62.heap[gb191]? = some (.cells #[.int .i64 x192000_2, .int .i64 x192001_2, .slice none 0 0] 35 (0, 0))) := ⟨(by rw [hw]; exact (bG NB191_207 BK191))⟩; replace BK207 : Aside0 (w62.heap[gb207]? = some (.cells #[.int .i64 t201, .int .i64 t202, .slice Ao61 t203.length co61] 35 (0, 0))) := ⟨(by rw [hw]; exact (by refine bU ?_; refine blk_put (cs := #[.int .i64 t201, .int .i64 t202, .slice none 0 0]) ?_ 2 _ rfl; refine bU ?_; refine blk_put (cs := #[.int .i64 t201, .int .i64 0, .slice none 0 0]) ?_ 1 _ rfl; refine bU ?_; refine blk_put (cs := #[.int .i64 0, .int .i64 0, .slice none 0 0]) ?_ 0 _ rfl; refine bU ?_; exact BK207.out))⟩; replace HB : Aside0 (Below w.heap.size w w62) := ⟨(by rw [hw]; exact (lV4 GE189 GE190 GE191 GE207))⟩; clear hw; have hcz63_0 := cz BK207 0 (.int .i64 t201); have hcz63_1 := cz BK207 1 (.int .i64 t202); have hcz63_2 := cz BK207 2 (.slice Ao61 t203.length co61); have hfz63_0 := fz BK207 0; have hfz63_1 := fz BK207 1; have hfz63_2 := fz BK207 2; have hcz64_0 := cz BK190 0 (.int .i64 x191000_2); have hcz64_1 := cz BK190 1 (.int .i64 x191001_2); have hcz64_2 := cz BK190 2 (.slice Ao54 x191002_2.length co54); have hfz64_0 := fz BK190 0; have hfz64_1 := fz BK190 1; have hfz64_2 := fz BK190 2) | ((with_reducible refine gate_store (t := 35) (p := 4) rfl ?_); refine store_event (t := 35) (p := 4) (v := ?vo_w65) (w1 := (((w62.setCell ⟨gb190, 0, none⟩ (.int .i64 t201)).setCell ⟨gb190, 1, none⟩ (.int .i64 t202)).setCell ⟨gb190, 2, none⟩ (.slice Ao61 t203.length co61))) ?hg ?ho ?hn ?hr ?_; (case ho => rfl); (case hg => rfl); (case hn => rfl); (case hr => first | (go_simp; done) | (go_simp; rfl) | (have hq0_ := (blk_cell BK190.out 0).trans (show _ = some _ from rfl); have hf0_ := blk_frozen BK190.out 0; have hq1_ := (blk_cell BK190.out 1).trans (show _ = some _ from rfl); have hf1_ := blk_frozen BK190.out 1; have hq2_ := (blk_cell BK190.out 2).trans (show _ = some _ from rfl); have hf2_ := blk_frozen BK190.out 2; first | (go_simp; done) | (go_simp; rfl))); intro w65 hw; replace HO_191002 : Aside0 (Kd.R k48 48 w65 w.heap.size (fun k_ => some k_ ≠ (.slice Ao61 t203.length co61 : Value).ownBlock) (.slice Ao54 x191002_2.length co54) x191002_2) := ⟨(by rw [hw]; exact (by (with_reducible repeat (first | apply Kd.R_alloc | apply Kd.R_drewN | apply Kd.R_drew)); exact Kd.R_mono (Kd.R_far (p := ⟨gb190, 2, none⟩) (Kd.R_far (p := ⟨gb190, 1, none⟩) (Kd.R_far (p := ⟨gb190, 0, none⟩) (Kd.R_types HO_191002.out BK190.out (by decide)) (fun _ hk => hk.2) (.int .i64 t201)) (fun _ hk => hk.2) (.int .i64 t202)) (fun _ hk => hk.2) (.slice Ao61 t203.length co61)) (fun _ hk => hk.1)))⟩; replace HO205 : Aside0 (Kd.R k48 48 w65 w.heap.size (fun k_ => some k_ ≠ (.slice Ao54 x191002_2.length co54 : Value).ownBlock) (.slice Ao61 t203.length co61) t203) := ⟨(by rw [hw]; exact (by (with_reducible repeat (first | apply Kd.R_alloc | apply Kd.R_drewN | apply Kd.R_drew)); exact Kd.R_mono (Kd.R_far (p := ⟨gb190, 2, none⟩) (Kd.R_far (p := ⟨gb190, 1, none⟩) (Kd.R_far (p := ⟨gb190, 0, none⟩) (Kd.R_types HO205.out BK190.out (by decide)) (fun _ hk => hk.2) (.int .i64 t201)) (fun _ hk => hk.2) (.int .i64 t202)) (fun _ hk => hk.2) (.slice Ao61 t203.length co61)) (fun _ hk => hk.1)))⟩; replace BK189 : Aside0 (w65.heap[gb189]? = some (.cells #[.int .i64 a0_0, .int .i64 a0_1, .int .i64 a0_2, .int .i64 a0_3, .int .i64 a0_4, .int .i64 a0_5, .int .i64 a0_6] 26 (0, 0))) := ⟨(by rw [hw]; exact (bG NB189_190 BK189))⟩; replace BK190 : Aside0 (w65.heap[gb190]? = some (.cells #[.int .i64 t201, .int .i64 t202, .slice Ao61 t203.length co61] 35 (0, 0))) := ⟨(by rw [hw]; exact (by refine bU ?_; refine blk_put (cs := #[.int .i64 t201, .int .i64 t202, .slice Ao54 x191002_2.length co54]) ?_ 2 _ rfl; refine bU ?_; refine blk_put (cs := #[.int .i64 t201, .int .i64 x191001_2, .slice Ao54 x191002_2.length co54]) ?_ 1 _ rfl; refine bU ?_; refine blk_put (cs := #[.int .i64 x191000_2, .int .i64 x191001_2, .slice Ao54 x191002_2.length co54]) ?_ 0 _ rfl; refine bU ?_; exact BK190.out))⟩; replace BK191 : Aside0 (w65.heap[gb191]? = some (.cells #[.int .i64 x192000_2, .int .i64 x192001_2, .slice none 0 0] 35 (0, 0))) := ⟨(by rw [hw]; exact (bG NB191_190 BK191))⟩; replace BK207 : Aside0 (w65.heap[gb207]? = some (.cells #[.int .i64 t201, .int .i64 t202, .slice Ao61 t203.length co61] 35 (0, 0))) := ⟨(by rw [hw]; exact (bG NB207_190 BK207))⟩; replace HB : Aside0 (Below w.heap.size w w65) := ⟨(by rw [hw]; exact (lV4 GE189 GE190 GE191 GE207))⟩; clear hw))
         go_roundg k2
         case measure => have := HJ3.out; have := HK2.out; omega
         case rel => exact ⟨(wrap64 (x2_2 - 1)), (t201), (t202), (t203), (x192000_2), (x192001_2), (.slice Ao61 t203.length co61), tE, H', ⟨by have := HJ3.out; have := HK2.out; omega⟩, ⟨by (with_reducible repeat (first | apply Kd.R_alloc | apply Kd.R_drewN | apply Kd.R_drew)); exact Kd.R_mono HO205.out (fun _ hk => trivial)⟩, ⟨by refine bU ?_; exact BK189.out⟩, ⟨by refine bU ?_; exact BK190.out⟩, ⟨by refine bU ?_; exact BK191.out⟩, ⟨by repeat (first | (with_reducible first | exact HB.out | apply below_alloc | apply pw_below_drewN | apply below_drew1 | refine below_set ?_ GE189.out | refine below_set ?_ GE190.out | refine below_set ?_ GE191.out | refine below_set ?_ GE207.out) | exact HB.out)⟩⟩
        ·replace c48 := Bool.eq_false_iff.mpr c48
         subst c48
         have H1 : (some (0, 0, ([] : List (S48)), false)) = some (r1, r2, r3, r4) := by rw [if_neg (show ¬ (false = true) by decide)] at H; exact H
         clear H
         have H := H1
         clear H1
         simp only [Option.some.injEq, Prod.mk.injEq] at H
         obtain ⟨rfl, rfl, rfl, rfl⟩ := H
         have hnb66 := NB189_190.out
         have hnc66 := NB190_189.out
         have hnb67 := NB189_191.out
         have hnc67 := NB191_189.out
         have hcz68_0 := cz BK189 0 (.int .i64 a0_0)
         have hcz68_1 := cz BK189 1 (.int .i64 a0_1)
         have hcz68_2 := cz BK189 2 (.int .i64 a0_2)
         have hcz68_3 := cz BK189 3 (.int .i64 a0_3)
         have hcz68_4 := cz BK189 4 (.int .i64 a0_4)
         have hcz68_5 := cz BK189 5 (.int .i64 a0_5)
         have hcz68_6 := cz BK189 6 (.int .i64 a0_6)
         have hfz68_0 := fz BK189 0
         have hfz68_1 := fz BK189 1
         have hfz68_2 := fz BK189 2
         have hfz68_3 := fz BK189 3
         have hfz68_4 := fz BK189 4
         have hfz68_5 := fz BK189 5
         have hfz68_6 := fz BK189 6
         have hnb69 := NB190_191.out
         have hnc69 := NB191_190.out
         have hcz70_0 := cz BK190 0 (.int .i64 x191000_2)
         have hcz70_1 := cz BK190 1 (.int .i64 x191001_2)
         have hcz70_2 := cz BK190 2 (u191002)
         have hfz70_0 := fz BK190 0
         have hfz70_1 := fz BK190 1
         have hfz70_2 := fz BK190 2
         obtain ⟨Ao71, co71, eo71⟩ := Kd.R_slice HO_191002.out
         subst eo71
         go_wp2_with (first | ((with_reducible refine gate_callee (f := 10) rfl ?_); refine goesL_ (some 36) rfl rfl Try.func10 (by kernel_rfl) rfl #[.agg #[.int .i64 a0_0, .int .i64 a0_1, .int .i64 a0_2, .int .i64 a0_3, .int .i64 a0_4, .int .i64 a0_5, .int .i64 a0_6], .agg #[.int .i64 x191000_2, .int .i64 x191001_2, .slice Ao71 x191002_2.length co71]] rfl aE ?_; (with_reducible refine (spec_StepCloud.calls k2 a0_0 a0_1 a0_2 a0_3 a0_4 a0_5 a0_6 x191000_2 x191001_2 _ _ x191002_2 t201 t202 t203 false _ ?side1 ?side2 A47.out).mono ?_); (case side1 => exact cU (Kd.R_reads' HO_191002.out).2.2); (case side2 => exact (Kd.R_reads' HO_191002.out).2.1); rintro e w72 ⟨v204, rfl, ho0, hb⟩; refine ⟨_, rfl, ?_⟩; have HO205 := Aside0.mk (Kd.R_lower (Kd.R_new' ho0 (Kd.R_lt (rU HO_191002.out))) (below_size (lV3 GE189 GE190 GE191))); replace HO_191002 := Aside0.mk (Kd.R_elder' (rU HO_191002.out) (Kd.R_base ho0) hb); replace BK189 := bB (bV BK189) hb; replace BK190 := bB (bV BK190) hb; replace BK191 := bB (bV BK191) hb; replace HB := bH (lV3 GE189 GE190 GE191) hb; (try clear hb); (try clear ho0)) | ((with_reducible refine gate_dst (N := 8) rfl ?_); refine box_event rfl (N := 8) rfl (cs := #[.int .i64 0, .int .i64 0, .slice none 0 0]) (t := 35) sE ?_; intro gb207 hg w73 hbox hb; replace HO_191002 := Aside0.mk (Kd.R_below (rU HO_191002.out) hb); replace HO205 := Aside0.mk (Kd.R_below (rU HO205.out) hb); have BK207 := Aside0.mk hbox; have GW207 := gS w hg (lV3 GE189 GE190 GE191); have GE207 := gS w hg (lV3 GE189 GE190 GE191); replace HB := bH (lV3 GE189 GE190 GE191) hb; have NB189_207 := nL hg (bV BK189); have NB207_189 := nG hg (bV BK189); replace BK189 := bB (bV BK189) hb; have NB190_207 := nL hg (bV BK190); have NB207_190 := nG hg (bV BK190); replace BK190 := bB (bV BK190) hb; have NB191_207 := nL hg (bV BK191); have NB207_191 := nG hg (bV BK191); replace BK191 := bB (bV BK191) hb; clear hb hbox hg; have hnb74 := NB207_189.out; have hnc74 := NB189_207.out; have hnb75 := NB207_190.out; have hnc75 := NB190_207.out; have hnb76 := NB207_191.out; have hnc76 := NB191_207.out; have hcz77_0 := cz BK207 0 (.int .i64 0); have hcz77_1 := cz BK207 1 (.int .i64 0); have hcz77_2 := cz BK207 2 (.slice none 0 0); have hfz77_0 := fz BK207 0; have hfz77_1 := fz BK207 1; have hfz77_2 := fz BK207 2; obtain ⟨Ao78, co78, eo78⟩ := Kd.R_slice HO205.out; subst eo78) | ((with_reducible refine gate_store (t := 35) (p := 8) rfl ?_); refine store_event (t := 35) (p := 8) (v := ?vo_w79) (w1 := (((w73.setCell ⟨gb207, 0, none⟩ (.int .i64 t201)).setCell ⟨gb207, 1, none⟩ (.int .i64 t202)).setCell ⟨gb207, 2, none⟩ (.slice Ao78 t203.length co78))) ?hg ?ho ?hn ?hr ?_; (case ho => rfl); (case hg => rfl); (case hn => rfl); (case hr => first | (go_simp; done) | (go_simp; rfl) | (have hq0_ := (blk_cell BK207.out 0).trans (show _ = some _ from rfl); have hf0_ := blk_frozen BK207.out 0; have hq1_ := (blk_cell BK207.out 1).trans (show _ = some _ from rfl); have hf1_ := blk_frozen BK207.out 1; have hq2_ := (blk_cell BK207.out 2).trans (show _ = some _ from rfl); have hf2_ := blk_frozen BK207.out 2; first | (go_simp; done) | (go_simp; rfl))); intro w79 hw; replace HO_191002 : Aside0 (Kd.R k48 48 w79 w.heap.size (fun k_ => some k_ ≠ (.slice Ao78 t203.length co78 : Value).ownBlock) (.slice Ao71 x191002_2.length co71) x191002_2) := ⟨(by rw [hw]; exact (by (with_reducible repeat (first | apply Kd.R_alloc | apply Kd.R_drewN | apply Kd.R_drew)); exact Kd.R_mono (Kd.R_far (p := ⟨gb207, 2, none⟩) (Kd.R_far (p := ⟨gb207, 1, none⟩) (Kd.R_far (p := ⟨gb207, 0, none⟩) (Kd.R_types HO_191002.out BK207.out (by decide)) (fun _ hk => hk.2) (.int .i64 t201)) (fun _ hk => hk.2) (.int .i64 t202)) (fun _ hk => hk.2) (.slice Ao78 t203.length co78)) (fun _ hk => hk.1.2)))⟩; replace HO205 : Aside0 (Kd.R k48 48 w79 w.heap.size (fun k_ => some k_ ≠ (.slice Ao71 x191002_2.length co71 : Value).ownBlock) (.slice Ao78 t203.length co78) t203) := ⟨(by rw [hw]; exact (by (with_reducible repeat (first | apply Kd.R_alloc | apply Kd.R_drewN | apply Kd.R_drew)); exact Kd.R_mono (Kd.R_far (p := ⟨gb207, 2, none⟩) (Kd.R_far (p := ⟨gb207, 1, none⟩) (Kd.R_far (p := ⟨gb207, 0, none⟩) (Kd.R_types HO205.out BK207.out (by decide)) (fun _ hk => hk.2) (.int .i64 t201)) (fun _ hk => hk.2) (.int .i64 t202)) (fun _ hk => hk.2) (.slice Ao78 t203.length co78)) (fun _ hk => hk.1.2)))⟩; replace BK189 : Aside0 (w79.heap[gb189]? = some (.cells #[.int .i64 a0_0, .int .i64 a0_1, .int .i64 a0_2, .int .i64 a0_3, .int .i64 a0_4, .int .i64 a0_5, .int .i64 a0_6] 26 (0, 0))) := ⟨(by rw [hw]; exact (bG NB189_207 BK189))⟩; replace BK190 : Aside0 (w79.heap[gb190]? = some (.cells #[.int .i64 x191000_2, .int .i64 x191001_2, .slice Ao71 x191002_2.length co71] 35 (0, 0))) := ⟨(by rw [hw]; exact (bG NB190_207 BK190))⟩; replace BK191 : Aside0 (w79.heap[gb191]? = some (.cells #[.int .i64 x192000_2, .int .i64 x192001_2, .slice none 0 0] 35 (0, 0))) := ⟨(by rw [hw]; exact (bG NB191_207 BK191))⟩; replace BK207 : Aside0 (w79.heap[gb207]? = some (.cells #[.int .i64 t201, .int .i64 t202, .slice Ao78 t203.length co78] 35 (0, 0))) := ⟨(by rw [hw]; exact (by refine bU ?_; refine blk_put (cs := #[.int .i64 t201, .int .i64 t202, .slice none 0 0]) ?_ 2 _ rfl; refine bU ?_; refine blk_put (cs := #[.int .i64 t201, .int .i64 0, .slice none 0 0]) ?_ 1 _ rfl; refine bU ?_; refine blk_put (cs := #[.int .i64 0, .int .i64 0, .slice none 0 0]) ?_ 0 _ rfl; refine bU ?_; exact BK207.out))⟩; replace HB : Aside0 (Below w.heap.size w w79) := ⟨(by rw [hw]; exact (lV4 GE189 GE190 GE191 GE207))⟩; clear hw; have hcz80_0 := cz BK191 0 (.int .i64 x192000_2); have hcz80_1 := cz BK191 1 (.int .i64 x192001_2); have hcz80_2 := cz BK191 2 (.slice none 0 0); have hfz80_0 := fz BK191 0; have hfz80_1 := fz BK191 1; have hfz80_2 := fz BK191 2) | ((with_reducible refine gate_store (t := 35) (p := 6) rfl ?_); refine store_event (t := 35) (p := 6) (v := ?vo_w81) (w1 := (((w79.setCell ⟨gb191, 0, none⟩ (.int .i64 0)).setCell ⟨gb191, 1, none⟩ (.int .i64 0)).setCell ⟨gb191, 2, none⟩ (.slice none 0 0))) ?hg ?ho ?hn ?hr ?_; (case ho => rfl); (case hg => rfl); (case hn => rfl); (case hr => first | (go_simp; done) | (go_simp; rfl) | (have hq0_ := (blk_cell BK191.out 0).trans (show _ = some _ from rfl); have hf0_ := blk_frozen BK191.out 0; have hq1_ := (blk_cell BK191.out 1).trans (show _ = some _ from rfl); have hf1_ := blk_frozen BK191.out 1; have hq2_ := (blk_cell BK191.out 2).trans (show _ = some _ from rfl); have hf2_ := blk_frozen BK191.out 2; first | (go_simp; done) | (go_simp; rfl))); intro w81 hw; replace HO_191002 : Aside0 (Kd.R k48 48 w81 w.heap.size (fun k_ => some k_ ≠ (.slice Ao78 t203.length co78 : Value).ownBlock) (.slice Ao71 x191002_2.length co71) x191002_2) := ⟨(by rw [hw]; exact (by (with_reducible repeat (first | apply Kd.R_alloc | apply Kd.R_drewN | apply Kd.R_drew)); exact Kd.R_mono (Kd.R_far (p := ⟨gb191, 2, none⟩) (Kd.R_far (p := ⟨gb191, 1, none⟩) (Kd.R_far (p := ⟨gb191, 0, none⟩) (Kd.R_types HO_191002.out BK191.out (by decide)) (fun _ hk => hk.2) (.int .i64 0)) (fun _ hk => hk.2) (.int .i64 0)) (fun _ hk => hk.2) (.slice none 0 0)) (fun _ hk => hk.1)))⟩; replace HO205 : Aside0 (Kd.R k48 48 w81 w.heap.size (fun k_ => some k_ ≠ (.slice Ao71 x191002_2.length co71 : Value).ownBlock) (.slice Ao78 t203.length co78) t203) := ⟨(by rw [hw]; exact (by (with_reducible repeat (first | apply Kd.R_alloc | apply Kd.R_drewN | apply Kd.R_drew)); exact Kd.R_mono (Kd.R_far (p := ⟨gb191, 2, none⟩) (Kd.R_far (p := ⟨gb191, 1, none⟩) (Kd.R_far (p := ⟨gb191, 0, none⟩) (Kd.R_types HO205.out BK191.out (by decide)) (fun _ hk => hk.2) (.int .i64 0)) (fun _ hk => hk.2) (.int .i64 0)) (fun _ hk => hk.2) (.slice none 0 0)) (fun _ hk => hk.1)))⟩; replace BK189 : Aside0 (w81.heap[gb189]? = some (.cells #[.int .i64 a0_0, .int .i64 a0_1, .int .i64 a0_2, .int .i64 a0_3, .int .i64 a0_4, .int .i64 a0_5, .int .i64 a0_6] 26 (0, 0))) := ⟨(by rw [hw]; exact (bG NB189_191 BK189))⟩; replace BK190 : Aside0 (w81.heap[gb190]? = some (.cells #[.int .i64 x191000_2, .int .i64 x191001_2, .slice Ao71 x191002_2.length co71] 35 (0, 0))) := ⟨(by rw [hw]; exact (bG NB190_191 BK190))⟩; replace BK191 : Aside0 (w81.heap[gb191]? = some (.cells #[.int .i64 0, .int .i64 0, .slice none 0 0] 35 (0, 0))) := ⟨(by rw [hw]; exact (by refine bU ?_; refine blk_put (cs := #[.int .i64 0, .int .i64 0, .slice none 0 0]) ?_ 2 _ rfl; refine bU ?_; refine blk_put (cs := #[.int .i64 0, .int .i64 x192001_2, .slice none 0 0]) ?_ 1 _ rfl; refine bU ?_; refine blk_put (cs := #[.int .i64 x192000_2, .int .i64 x192001_2, .slice none 0 0]) ?_ 0 _ rfl; refine bU ?_; exact BK191.out))⟩; replace BK207 : Aside0 (w81.heap[gb207]? = some (.cells #[.int .i64 t201, .int .i64 t202, .slice Ao78 t203.length co78] 35 (0, 0))) := ⟨(by rw [hw]; exact (bG NB207_191 BK207))⟩; replace HB : Aside0 (Below w.heap.size w w81) := ⟨(by rw [hw]; exact (lV4 GE189 GE190 GE191 GE207))⟩; clear hw))
         refine bodyPost_ret (results_ct rfl _ _ gb191 35 #[.int .i64 0, .int .i64 0, .slice none 0 0] (0, 0) _ rfl (bV BK191) Try.underlying35 rfl (by kernel_rfl)) rfl ?_
         exact ⟨_, eE, by first | exact Kd.R_nil _ _ _ _ _ | exact Kd.N_nil _ _ _ _ _ | exact Kd.V_nil _ _ _ _ _ | exact Kd.Q_nil _ _ _ _ _ | exact Kd.S_nil _ _ _ _ _, lV4 GE189 GE190 GE191 GE207⟩
       ·rw [if_neg c46] at H
        have c46b0 : decide (0 < x2_2) = false := decide_eq_false c46
        clear c46
        simp only [Option.some.injEq, Prod.mk.injEq] at H
        obtain ⟨rfl, rfl, rfl, rfl⟩ := H
        have hnb82 := NB190_189.out
        have hnc82 := NB189_190.out
        have hnb83 := NB190_191.out
        have hnc83 := NB191_190.out
        have hcz84_0 := cz BK190 0 (.int .i64 x191000_2)
        have hcz84_1 := cz BK190 1 (.int .i64 x191001_2)
        have hcz84_2 := cz BK190 2 (u191002)
        have hfz84_0 := fz BK190 0
        have hfz84_1 := fz BK190 1
        have hfz84_2 := fz BK190 2
        have hnb85 := NB191_189.out
        have hnc85 := NB189_191.out
        have hcz86_0 := cz BK191 0 (.int .i64 x192000_2)
        have hcz86_1 := cz BK191 1 (.int .i64 x192001_2)
        have hcz86_2 := cz BK191 2 (.slice none 0 0)
        have hfz86_0 := fz BK191 0
        have hfz86_1 := fz BK191 1
        have hfz86_2 := fz BK191 2
        obtain ⟨Ao87, co87, eo87⟩ := Kd.R_slice HO_191002.out
        subst eo87
        go_wp2_with (first | ((with_reducible refine gate_store (t := 35) (p := 6) rfl ?_); refine store_event (t := 35) (p := 6) (v := ?vo_w88) (w1 := (((wr.setCell ⟨gb191, 0, none⟩ (.int .i64 x191000_2)).setCell ⟨gb191, 1, none⟩ (.int .i64 x191001_2)).setCell ⟨gb191, 2, none⟩ (.slice Ao87 x191002_2.length co87))) ?hg ?ho ?hn ?hr ?_; (case ho => rfl); (case hg => rfl); (case hn => rfl); (case hr => first | (go_simp; done) | (go_simp; rfl) | (have hq0_ := (blk_cell BK191.out 0).trans (show _ = some _ from rfl); have hf0_ := blk_frozen BK191.out 0; have hq1_ := (blk_cell BK191.out 1).trans (show _ = some _ from rfl); have hf1_ := blk_frozen BK191.out 1; have hq2_ := (blk_cell BK191.out 2).trans (show _ = some _ from rfl); have hf2_ := blk_frozen BK191.out 2; first | (go_simp; done) | (go_simp; rfl))); intro w88 hw; replace HO_191002 : Aside0 (Kd.R k48 48 w88 w.heap.size (fun _ => True) (.slice Ao87 x191002_2.length co87) x191002_2) := ⟨(by rw [hw]; exact (by (with_reducible repeat (first | apply Kd.R_alloc | apply Kd.R_drewN | apply Kd.R_drew)); exact Kd.R_mono (Kd.R_far (p := ⟨gb191, 2, none⟩) (Kd.R_far (p := ⟨gb191, 1, none⟩) (Kd.R_far (p := ⟨gb191, 0, none⟩) (Kd.R_types HO_191002.out BK191.out (by decide)) (fun _ hk => hk.2) (.int .i64 x191000_2)) (fun _ hk => hk.2) (.int .i64 x191001_2)) (fun _ hk => hk.2) (.slice Ao87 x191002_2.length co87)) (fun _ hk => trivial)))⟩; replace BK189 : Aside0 (w88.heap[gb189]? = some (.cells #[.int .i64 a0_0, .int .i64 a0_1, .int .i64 a0_2, .int .i64 a0_3, .int .i64 a0_4, .int .i64 a0_5, .int .i64 a0_6] 26 (0, 0))) := ⟨(by rw [hw]; exact (bG NB189_191 BK189))⟩; replace BK190 : Aside0 (w88.heap[gb190]? = some (.cells #[.int .i64 x191000_2, .int .i64 x191001_2, .slice Ao87 x191002_2.length co87] 35 (0, 0))) := ⟨(by rw [hw]; exact (bG NB190_191 BK190))⟩; replace BK191 : Aside0 (w88.heap[gb191]? = some (.cells #[.int .i64 x191000_2, .int .i64 x191001_2, .slice Ao87 x191002_2.length co87] 35 (0, 0))) := ⟨(by rw [hw]; exact (by refine bU ?_; refine blk_put (cs := #[.int .i64 x191000_2, .int .i64 x191001_2, .slice none 0 0]) ?_ 2 _ rfl; refine bU ?_; refine blk_put (cs := #[.int .i64 x191000_2, .int .i64 x192001_2, .slice none 0 0]) ?_ 1 _ rfl; refine bU ?_; refine blk_put (cs := #[.int .i64 x192000_2, .int .i64 x192001_2, .slice none 0 0]) ?_ 0 _ rfl; refine bU ?_; exact BK191.out))⟩; replace HB : Aside0 (Below w.heap.size w w88) := ⟨(by rw [hw]; exact (lV3 GE189 GE190 GE191))⟩; clear hw))
        refine bodyPost_ret (results_ct rfl _ _ gb191 35 #[.int .i64 x191000_2, .int .i64 x191001_2, .slice Ao87 x191002_2.length co87] (0, 0) _ rfl (bV BK191) Try.underlying35 rfl (by kernel_rfl)) rfl ?_
        exact ⟨_, eE, by (with_reducible repeat (first | apply Kd.R_alloc | apply Kd.R_drewN | apply Kd.R_drew)); exact HO_191002.out, lV3 GE189 GE190 GE191⟩
    ·rw [if_neg c36] at H
     exact absurd H (by simp)
def spec_SparksAt.f (k : Nat) (a0_0 : Int) (a0_1 : Int) (a0_2 : Int) (a0_3 : Int) (a0_4 : Int) (a0_5 : Int) (a0_6 : Int) (a1 : Int) (a2 : Int) : Option (Int × Bool) := (spec_RunCloud.f k a0_0 a0_1 a0_2 a0_3 a0_4 a0_5 a0_6 a1 0 ([] : List (S48)) a2).bind fun bt209 => (some ((bt209.2.2.1.length : Int), bt209.2.2.2))
theorem spec_SparksAt.mono : ∀ a0 a1 a2 a3 a4 a5 a6 a7 a8 k, LeO (spec_SparksAt.f k a0 a1 a2 a3 a4 a5 a6 a7 a8) (spec_SparksAt.f (k + 1) a0 a1 a2 a3 a4 a5 a6 a7 a8) := by
 intro a0 a1 a2 a3 a4 a5 a6 a7 a8 k
 unfold spec_SparksAt.f
 repeat' first
   | (with_reducible exact spec_RunCloud.mono _ _ _ _ _ _ _ _ _ _ _ _)
   | (with_reducible exact LeO.refl _)
   | (with_reducible exact LeO.none _)
   | (with_reducible refine LeO.ite ?_ ?_)
   | (with_reducible refine LeO.bind ?_ (fun _ => ?_))
   | exact spec_RunCloud.mono _ _ _ _ _ _ _ _ _ _ _ _
   | exact LeO.none _
   | refine LeO.ite ?_ ?_
   | refine LeO.bind ?_ (fun _ => ?_)
set_option maxHeartbeats 8000000 in
set_option maxRecDepth 100000 in
theorem spec_SparksAt.calls (k : Nat) (a0_0 : Int) (a0_1 : Int) (a0_2 : Int) (a0_3 : Int) (a0_4 : Int) (a0_5 : Int) (a0_6 : Int) (a1 : Int) (a2 : Int) (r1 : Int) (r2 : Bool) (w : World) (h : spec_SparksAt.f k a0_0 a0_1 a0_2 a0_3 a0_4 a0_5 a0_6 a1 a2 = some (r1, r2)) :
  Calls Try.prog 6 #[.agg #[.int .i64 a0_0, .int .i64 a0_1, .int .i64 a0_2, .int .i64 a0_3, .int .i64 a0_4, .int .i64 a0_5, .int .i64 a0_6], .int .i64 a1, .int .i64 a2] w fun e w' => e = .returned (.tuple #[.int .i64 r1, .bool r2]) ∧ Below w.heap.size w w' := by
 have hu26 := Try.underlying26
 have hu35 := Try.underlying35
 have HB := Aside0.mk (Below.refl w.heap.size w)
 have H : ((spec_RunCloud.f k a0_0 a0_1 a0_2 a0_3 a0_4 a0_5 a0_6 a1 0 ([] : List (S48)) a2).bind fun bt209 => (some ((bt209.2.2.1.length : Int), bt209.2.2.2))) = some (r1, r2) := h
 clear h
 replace H := Option.bind_eq_some_iff.mp H
 obtain ⟨⟨t209, t210, t211, t214⟩, A40, H⟩ := H
 replace H : (some ((t211.length : Int), t214)) = some (r1, r2) := H
 have A4 := Aside0.mk A40
 clear A40
 simp only [Option.some.injEq, Prod.mk.injEq] at H
 obtain ⟨rfl, rfl⟩ := H
 go_enter Try.func6, Try.ntmps6
 go_wp2_with (first | ((with_reducible refine gate_dst (N := 3) rfl ?_); refine box_event rfl (N := 3) rfl (cs := #[.int .i64 a0_0, .int .i64 a0_1, .int .i64 a0_2, .int .i64 a0_3, .int .i64 a0_4, .int .i64 a0_5, .int .i64 a0_6]) (t := 26) sE ?_; intro gb208 hg w5 hbox hb; have BK208 := Aside0.mk hbox; have GW208 := gS w hg (lU); have GE208 := gS w hg (lU); replace HB := bH (lU) hb; clear hb hbox hg; have hcz6_0 := cz BK208 0 (.int .i64 a0_0); have hcz6_1 := cz BK208 1 (.int .i64 a0_1); have hcz6_2 := cz BK208 2 (.int .i64 a0_2); have hcz6_3 := cz BK208 3 (.int .i64 a0_3); have hcz6_4 := cz BK208 4 (.int .i64 a0_4); have hcz6_5 := cz BK208 5 (.int .i64 a0_5); have hcz6_6 := cz BK208 6 (.int .i64 a0_6); have hfz6_0 := fz BK208 0; have hfz6_1 := fz BK208 1; have hfz6_2 := fz BK208 2; have hfz6_3 := fz BK208 3; have hfz6_4 := fz BK208 4; have hfz6_5 := fz BK208 5; have hfz6_6 := fz BK208 6) | ((with_reducible refine gate_callee (f := 16) rfl ?_); refine goesL_ (some 15) rfl rfl Try.func16 (by kernel_rfl) rfl #[.agg #[.int .i64 a0_0, .int .i64 a0_1, .int .i64 a0_2, .int .i64 a0_3, .int .i64 a0_4, .int .i64 a0_5, .int .i64 a0_6], .agg #[.int .i64 a1, .int .i64 0, .slice none 0 0], .int .i64 a2] rfl aE ?_; (refine (spec_RunCloud.calls k a0_0 a0_1 a0_2 a0_3 a0_4 a0_5 a0_6 a1 0 _ _ ([] : List (S48)) a2 t209 t210 t211 t214 _ ?side1 ?side2 A4.out).mono ?_); (case side1 => exact Kd.C_nil _ _); (case side2 => exact Nat.le_refl _); rintro e w7 ⟨v212, rfl, ho0, hb⟩; refine ⟨_, rfl, ?_⟩; have HO213 := Aside0.mk (Kd.R_lower ho0 (below_size (lV1 GE208))); replace BK208 := bB (bV BK208) hb; replace HB := bH (lV1 GE208) hb; (try clear hb); (try clear ho0)) | ((with_reducible refine gate_dst (N := 8) rfl ?_); refine box_event rfl (N := 8) rfl (cs := #[.int .i64 0, .int .i64 0, .slice none 0 0]) (t := 35) sE ?_; intro gb215 hg w8 hbox hb; replace HO213 := Aside0.mk (Kd.R_below (rU HO213.out) hb); have BK215 := Aside0.mk hbox; have GW215 := gS w hg (lV1 GE208); have GE215 := gS w hg (lV1 GE208); replace HB := bH (lV1 GE208) hb; have NB208_215 := nL hg (bV BK208); have NB215_208 := nG hg (bV BK208); replace BK208 := bB (bV BK208) hb; clear hb hbox hg; have hnb9 := NB215_208.out; have hnc9 := NB208_215.out; have hcz10_0 := cz BK215 0 (.int .i64 0); have hcz10_1 := cz BK215 1 (.int .i64 0); have hcz10_2 := cz BK215 2 (.slice none 0 0); have hfz10_0 := fz BK215 0; have hfz10_1 := fz BK215 1; have hfz10_2 := fz BK215 2; obtain ⟨Ao11, co11, eo11⟩ := Kd.R_slice HO213.out; subst eo11) | ((with_reducible refine gate_store (t := 35) (p := 8) rfl ?_); refine store_event (t := 35) (p := 8) (v := ?vo_w12) (w1 := (((w8.setCell ⟨gb215, 0, none⟩ (.int .i64 t209)).setCell ⟨gb215, 1, none⟩ (.int .i64 t210)).setCell ⟨gb215, 2, none⟩ (.slice Ao11 t211.length co11))) ?hg ?ho ?hn ?hr ?_; (case ho => rfl); (case hg => rfl); (case hn => rfl); (case hr => first | (go_simp; done) | (go_simp; rfl) | (have hq0_ := (blk_cell BK215.out 0).trans (show _ = some _ from rfl); have hf0_ := blk_frozen BK215.out 0; have hq1_ := (blk_cell BK215.out 1).trans (show _ = some _ from rfl); have hf1_ := blk_frozen BK215.out 1; have hq2_ := (blk_cell BK215.out 2).trans (show _ = some _ from rfl); have hf2_ := blk_frozen BK215.out 2; first | (go_simp; done) | (go_simp; rfl))); intro w12 hw; replace HO213 : Aside0 (Kd.R k48 48 w12 w.heap.size (fun _ => True) (.slice Ao11 t211.length co11) t211) := ⟨(by rw [hw]; exact (by (with_reducible repeat (first | apply Kd.R_alloc | apply Kd.R_drewN | apply Kd.R_drew)); exact Kd.R_mono (Kd.R_far (p := ⟨gb215, 2, none⟩) (Kd.R_far (p := ⟨gb215, 1, none⟩) (Kd.R_far (p := ⟨gb215, 0, none⟩) (Kd.R_types HO213.out BK215.out (by decide)) (fun _ hk => hk.2) (.int .i64 t209)) (fun _ hk => hk.2) (.int .i64 t210)) (fun _ hk => hk.2) (.slice Ao11 t211.length co11)) (fun _ hk => trivial)))⟩; replace BK208 : Aside0 (w12.heap[gb208]? = some (.cells #[.int .i64 a0_0, .int .i64 a0_1, .int .i64 a0_2, .int .i64 a0_3, .int .i64 a0_4, .int .i64 a0_5, .int .i64 a0_6] 26 (0, 0))) := ⟨(by rw [hw]; exact (bG NB208_215 BK208))⟩; replace BK215 : Aside0 (w12.heap[gb215]? = some (.cells #[.int .i64 t209, .int .i64 t210, .slice Ao11 t211.length co11] 35 (0, 0))) := ⟨(by rw [hw]; exact (by refine bU ?_; refine blk_put (cs := #[.int .i64 t209, .int .i64 t210, .slice none 0 0]) ?_ 2 _ rfl; refine bU ?_; refine blk_put (cs := #[.int .i64 t209, .int .i64 0, .slice none 0 0]) ?_ 1 _ rfl; refine bU ?_; refine blk_put (cs := #[.int .i64 0, .int .i64 0, .slice none 0 0]) ?_ 0 _ rfl; refine bU ?_; exact BK215.out))⟩; replace HB : Aside0 (Below w.heap.size w w12) := ⟨(by rw [hw]; exact (lV2 GE208 GE215))⟩; clear hw; have hcz13_0 := cz BK215 0 (.int .i64 t209); have hcz13_1 := cz BK215 1 (.int .i64 t210); have hcz13_2 := cz BK215 2 (.slice Ao11 t211.length co11); have hfz13_0 := fz BK215 0; have hfz13_1 := fz BK215 1; have hfz13_2 := fz BK215 2))
 go_ret2
 exact ⟨eE, lV2 GE208 GE215⟩
def laws_toEmitter.f (a0_0 : Int) (a0_1 : Int) (a0_2 : Int) (a0_3 : Int) (a0_4 : Int) (a0_5 : Int) (a0_6 : Int) : Option (Int × Int × Int × Int × Int × Int × Int) := some (a0_0, a0_1, a0_2, a0_3, a0_4, a0_5, a0_6)
set_option maxHeartbeats 8000000 in
set_option maxRecDepth 100000 in
theorem laws_toEmitter.calls (a0_0 : Int) (a0_1 : Int) (a0_2 : Int) (a0_3 : Int) (a0_4 : Int) (a0_5 : Int) (a0_6 : Int) (r1 : Int) (r2 : Int) (r3 : Int) (r4 : Int) (r5 : Int) (r6 : Int) (r7 : Int) (w : World) (h : laws_toEmitter.f a0_0 a0_1 a0_2 a0_3 a0_4 a0_5 a0_6 = some (r1, r2, r3, r4, r5, r6, r7)) :
  Calls Try.prog 7 #[.agg #[.int .i64 a0_0, .int .i64 a0_1, .int .i64 a0_2, .int .i64 a0_3, .int .i64 a0_4, .int .i64 a0_5, .int .i64 a0_6]] w fun e w' => e = .returned (.agg #[.int .i64 r1, .int .i64 r2, .int .i64 r3, .int .i64 r4, .int .i64 r5, .int .i64 r6, .int .i64 r7]) ∧ Below w.heap.size w w' := by
 have hu23 := Try.underlying23
 have hu26 := Try.underlying26
 have HB := Aside0.mk (Below.refl w.heap.size w)
 have H : (some (a0_0, a0_1, a0_2, a0_3, a0_4, a0_5, a0_6)) = some (r1, r2, r3, r4, r5, r6, r7) := h
 clear h
 simp only [Option.some.injEq, Prod.mk.injEq] at H
 obtain ⟨rfl, rfl, rfl, rfl, rfl, rfl, rfl⟩ := H
 go_enter Try.func7, Try.ntmps7
 go_wp2_with (first | ((with_reducible refine gate_dst (N := 1) rfl ?_); refine box_event rfl (N := 1) rfl (cs := #[.int .i64 a0_0, .int .i64 a0_1, .int .i64 a0_2, .int .i64 a0_3, .int .i64 a0_4, .int .i64 a0_5, .int .i64 a0_6]) (t := 23) sE ?_; intro gb216 hg w2 hbox hb; have BK216 := Aside0.mk hbox; have GW216 := gS w hg (lU); have GE216 := gS w hg (lU); replace HB := bH (lU) hb; clear hb hbox hg) | ((with_reducible refine gate_dst (N := 2) rfl ?_); refine box_event rfl (N := 2) rfl (cs := #[.int .i64 0, .int .i64 0, .int .i64 0, .int .i64 0, .int .i64 0, .int .i64 0, .int .i64 0]) (t := 26) sE ?_; intro gb217 hg w3 hbox hb; have BK217 := Aside0.mk hbox; have GW217 := gS w hg (lV1 GE216); have GE217 := gS w hg (lV1 GE216); replace HB := bH (lV1 GE216) hb; have NB216_217 := nL hg (bV BK216); have NB217_216 := nG hg (bV BK216); replace BK216 := bB (bV BK216) hb; clear hb hbox hg) | ((with_reducible refine gate_dst (N := 3) rfl ?_); refine box_event rfl (N := 3) rfl (cs := #[.int .i64 0, .int .i64 0, .int .i64 0, .int .i64 0, .int .i64 0, .int .i64 0, .int .i64 0]) (t := 26) sE ?_; intro gb218 hg w4 hbox hb; have BK218 := Aside0.mk hbox; have GW218 := gS w hg (lV2 GE216 GE217); have GE218 := gS w hg (lV2 GE216 GE217); replace HB := bH (lV2 GE216 GE217) hb; have NB216_218 := nL hg (bV BK216); have NB218_216 := nG hg (bV BK216); replace BK216 := bB (bV BK216) hb; have NB217_218 := nL hg (bV BK217); have NB218_217 := nG hg (bV BK217); replace BK217 := bB (bV BK217) hb; clear hb hbox hg; have hnb5 := NB216_217.out; have hnc5 := NB217_216.out; have hnb6 := NB216_218.out; have hnc6 := NB218_216.out; have hcz7_0 := cz BK216 0 (.int .i64 a0_0); have hcz7_1 := cz BK216 1 (.int .i64 a0_1); have hcz7_2 := cz BK216 2 (.int .i64 a0_2); have hcz7_3 := cz BK216 3 (.int .i64 a0_3); have hcz7_4 := cz BK216 4 (.int .i64 a0_4); have hcz7_5 := cz BK216 5 (.int .i64 a0_5); have hcz7_6 := cz BK216 6 (.int .i64 a0_6); have hfz7_0 := fz BK216 0; have hfz7_1 := fz BK216 1; have hfz7_2 := fz BK216 2; have hfz7_3 := fz BK216 3; have hfz7_4 := fz BK216 4; have hfz7_5 := fz BK216 5; have hfz7_6 := fz BK216 6; have hnb8 := NB218_217.out; have hnc8 := NB217_218.out; have hcz9_0 := cz BK218 0 (.int .i64 0); have hcz9_1 := cz BK218 1 (.int .i64 0); have hcz9_2 := cz BK218 2 (.int .i64 0); have hcz9_3 := cz BK218 3 (.int .i64 0); have hcz9_4 := cz BK218 4 (.int .i64 0); have hcz9_5 := cz BK218 5 (.int .i64 0); have hcz9_6 := cz BK218 6 (.int .i64 0); have hfz9_0 := fz BK218 0; have hfz9_1 := fz BK218 1; have hfz9_2 := fz BK218 2; have hfz9_3 := fz BK218 3; have hfz9_4 := fz BK218 4; have hfz9_5 := fz BK218 5; have hfz9_6 := fz BK218 6) | ((with_reducible refine gate_store (t := 3) (p := 6) rfl ?_); refine store_event (t := 3) (p := 6) (v := ?vo_w10) (w1 := (w4.setCell ⟨gb218, 0, none⟩ (.int .i64 a0_0))) ?hg ?ho ?hn ?hr ?_; (case ho => rfl); (case hg => rfl); (case hn => rfl); (case hr => first | (go_simp; done) | (go_simp; rfl) | (have hq0_ := (blk_cell BK218.out 0).trans (show _ = some _ from rfl); have hf0_ := blk_frozen BK218.out 0; first | (go_simp; done) | (go_simp; rfl))); intro w10 hw; replace BK216 : Aside0 (w10.heap[gb216]? = some (.cells #[.int .i64 a0_0, .int .i64 a0_1, .int .i64 a0_2, .int .i64 a0_3, .int .i64 a0_4, .int .i64 a0_5, .int .i64 a0_6] 23 (0, 0))) := ⟨(by rw [hw]; exact (bG NB216_218 BK216))⟩; replace BK217 : Aside0 (w10.heap[gb217]? = some (.cells #[.int .i64 0, .int .i64 0, .int .i64 0, .int .i64 0, .int .i64 0, .int .i64 0, .int .i64 0] 26 (0, 0))) := ⟨(by rw [hw]; exact (bG NB217_218 BK217))⟩; replace BK218 : Aside0 (w10.heap[gb218]? = some (.cells #[.int .i64 a0_0, .int .i64 0, .int .i64 0, .int .i64 0, .int .i64 0, .int .i64 0, .int .i64 0] 26 (0, 0))) := ⟨(by rw [hw]; exact (by refine bU ?_; refine blk_put (cs := #[.int .i64 0, .int .i64 0, .int .i64 0, .int .i64 0, .int .i64 0, .int .i64 0, .int .i64 0]) ?_ 0 _ rfl; refine bU ?_; exact BK218.out))⟩; replace HB : Aside0 (Below w.heap.size w w10) := ⟨(by rw [hw]; exact (lV3 GE216 GE217 GE218))⟩; clear hw; have hcz11_0 := cz BK216 0 (.int .i64 a0_0); have hcz11_1 := cz BK216 1 (.int .i64 a0_1); have hcz11_2 := cz BK216 2 (.int .i64 a0_2); have hcz11_3 := cz BK216 3 (.int .i64 a0_3); have hcz11_4 := cz BK216 4 (.int .i64 a0_4); have hcz11_5 := cz BK216 5 (.int .i64 a0_5); have hcz11_6 := cz BK216 6 (.int .i64 a0_6); have hfz11_0 := fz BK216 0; have hfz11_1 := fz BK216 1; have hfz11_2 := fz BK216 2; have hfz11_3 := fz BK216 3; have hfz11_4 := fz BK216 4; have hfz11_5 := fz BK216 5; have hfz11_6 := fz BK216 6; have hcz12_0 := cz BK218 0 (.int .i64 a0_0); have hcz12_1 := cz BK218 1 (.int .i64 0); have hcz12_2 := cz BK218 2 (.int .i64 0); have hcz12_3 := cz BK218 3 (.int .i64 0); have hcz12_4 := cz BK218 4 (.int .i64 0); have hcz12_5 := cz BK218 5 (.int .i64 0); have hcz12_6 := cz BK218 6 (.int .i64 0); have hfz12_0 := fz BK218 0; have hfz12_1 := fz BK218 1; have hfz12_2 := fz BK218 2; have hfz12_3 := fz BK218 3; have hfz12_4 := fz BK218 4; have hfz12_5 := fz BK218 5; have hfz12_6 := fz BK218 6) | ((with_reducible refine gate_store (t := 3) (p := 9) rfl ?_); refine store_event (t := 3) (p := 9) (v := ?vo_w13) (w1 := (w10.setCell ⟨gb218, 1, none⟩ (.int .i64 a0_1))) ?hg ?ho ?hn ?hr ?_; (case ho => rfl); (case hg => rfl); (case hn => rfl); (case hr => first | (go_simp; done) | (go_simp; rfl) | (have hq0_ := (blk_cell BK218.out 1).trans (show _ = some _ from rfl); have hf0_ := blk_frozen BK218.out 1; first | (go_simp; done) | (go_simp; rfl))); intro w13 hw; replace BK216 : Aside0 (w13.heap[gb216]? = some (.cells #[.int .i64 a0_0, .int .i64 a0_1, .int .i64 a0_2, .int .i64 a0_3, .int .i64 a0_4, .int .i64 a0_5, .int .i64 a0_6] 23 (0, 0))) := ⟨(by rw [hw]; exact (bG NB216_218 BK216))⟩; replace BK217 : Aside0 (w13.heap[gb217]? = some (.cells #[.int .i64 0, .int .i64 0, .int .i64 0, .int .i64 0, .int .i64 0, .int .i64 0, .int .i64 0] 26 (0, 0))) := ⟨(by rw [hw]; exact (bG NB217_218 BK217))⟩; replace BK218 : Aside0 (w13.heap[gb218]? = some (.cells #[.int .i64 a0_0, .int .i64 a0_1, .int .i64 0, .int .i64 0, .int .i64 0, .int .i64 0, .int .i64 0] 26 (0, 0))) := ⟨(by rw [hw]; exact (by refine bU ?_; refine blk_put (cs := #[.int .i64 a0_0, .int .i64 0, .int .i64 0, .int .i64 0, .int .i64 0, .int .i64 0, .int .i64 0]) ?_ 1 _ rfl; refine bU ?_; exact BK218.out))⟩; replace HB : Aside0 (Below w.heap.size w w13) := ⟨(by rw [hw]; exact (lV3 GE216 GE217 GE218))⟩; clear hw; have hcz14_0 := cz BK216 0 (.int .i64 a0_0); have hcz14_1 := cz BK216 1 (.int .i64 a0_1); have hcz14_2 := cz BK216 2 (.int .i64 a0_2); have hcz14_3 := cz BK216 3 (.int .i64 a0_3); have hcz14_4 := cz BK216 4 (.int .i64 a0_4); have hcz14_5 := cz BK216 5 (.int .i64 a0_5); have hcz14_6 := cz BK216 6 (.int .i64 a0_6); have hfz14_0 := fz BK216 0; have hfz14_1 := fz BK216 1; have hfz14_2 := fz BK216 2; have hfz14_3 := fz BK216 3; have hfz14_4 := fz BK216 4; have hfz14_5 := fz BK216 5; have hfz14_6 := fz BK216 6; have hcz15_0 := cz BK218 0 (.int .i64 a0_0); have hcz15_1 := cz BK218 1 (.int .i64 a0_1); have hcz15_2 := cz BK218 2 (.int .i64 0); have hcz15_3 := cz BK218 3 (.int .i64 0); have hcz15_4 := cz BK218 4 (.int .i64 0); have hcz15_5 := cz BK218 5 (.int .i64 0); have hcz15_6 := cz BK218 6 (.int .i64 0); have hfz15_0 := fz BK218 0; have hfz15_1 := fz BK218 1; have hfz15_2 := fz BK218 2; have hfz15_3 := fz BK218 3; have hfz15_4 := fz BK218 4; have hfz15_5 := fz BK218 5; have hfz15_6 := fz BK218 6) | ((with_reducible refine gate_store (t := 3) (p := 12) rfl ?_); refine store_event (t := 3) (p := 12) (v := ?vo_w16) (w1 := (w13.setCell ⟨gb218, 2, none⟩ (.int .i64 a0_2))) ?hg ?ho ?hn ?hr ?_; (case ho => rfl); (case hg => rfl); (case hn => rfl); (case hr => first | (go_simp; done) | (go_simp; rfl) | (have hq0_ := (blk_cell BK218.out 2).trans (show _ = some _ from rfl); have hf0_ := blk_frozen BK218.out 2; first | (go_simp; done) | (go_simp; rfl))); intro w16 hw; replace BK216 : Aside0 (w16.heap[gb216]? = some (.cells #[.int .i64 a0_0, .int .i64 a0_1, .int .i64 a0_2, .int .i64 a0_3, .int .i64 a0_4, .int .i64 a0_5, .int .i64 a0_6] 23 (0, 0))) := ⟨(by rw [hw]; exact (bG NB216_218 BK216))⟩; replace BK217 : Aside0 (w16.heap[gb217]? = some (.cells #[.int .i64 0, .int .i64 0, .int .i64 0, .int .i64 0, .int .i64 0, .int .i64 0, .int .i64 0] 26 (0, 0))) := ⟨(by rw [hw]; exact (bG NB217_218 BK217))⟩; replace BK218 : Aside0 (w16.heap[gb218]? = some (.cells #[.int .i64 a0_0, .int .i64 a0_1, .int .i64 a0_2, .int .i64 0, .int .i64 0, .int .i64 0, .int .i64 0] 26 (0, 0))) := ⟨(by rw [hw]; exact (by refine bU ?_; refine blk_put (cs := #[.int .i64 a0_0, .int .i64 a0_1, .int .i64 0, .int .i64 0, .int .i64 0, .int .i64 0, .int .i64 0]) ?_ 2 _ rfl; refine bU ?_; exact BK218.out))⟩; replace HB : Aside0 (Below w.heap.size w w16) := ⟨(by rw [hw]; exact (lV3 GE216 GE217 GE218))⟩; clear hw; have hcz17_0 := cz BK216 0 (.int .i64 a0_0); have hcz17_1 := cz BK216 1 (.int .i64 a0_1); have hcz17_2 := cz BK216 2 (.int .i64 a0_2); have hcz17_3 := cz BK216 3 (.int .i64 a0_3); have hcz17_4 := cz BK216 4 (.int .i64 a0_4); have hcz17_5 := cz BK216 5 (.int .i64 a0_5); have hcz17_6 := cz BK216 6 (.int .i64 a0_6); have hfz17_0 := fz BK216 0; have hfz17_1 := fz BK216 1; have hfz17_2 := fz BK216 2; have hfz17_3 := fz BK216 3; have hfz17_4 := fz BK216 4; have hfz17_5 := fz BK216 5; have hfz17_6 := fz BK216 6; have hcz18_0 := cz BK218 0 (.int .i64 a0_0); have hcz18_1 := cz BK218 1 (.int .i64 a0_1); have hcz18_2 := cz BK218 2 (.int .i64 a0_2); have hcz18_3 := cz BK218 3 (.int .i64 0); have hcz18_4 := cz BK218 4 (.int .i64 0); have hcz18_5 := cz BK218 5 (.int .i64 0); have hcz18_6 := cz BK218 6 (.int .i64 0); have hfz18_0 := fz BK218 0; have hfz18_1 := fz BK218 1; have hfz18_2 := fz BK218 2; have hfz18_3 := fz BK218 3; have hfz18_4 := fz BK218 4; have hfz18_5 := fz BK218 5; have hfz18_6 := fz BK218 6) | ((with_reducible refine gate_store (t := 3) (p := 15) rfl ?_); refine store_event (t := 3) (p := 15) (v := ?vo_w19) (w1 := (w16.setCell ⟨gb218, 3, none⟩ (.int .i64 a0_3))) ?hg ?ho ?hn ?hr ?_; (case ho => rfl); (case hg => rfl); (case hn => rfl); (case hr => first | (go_simp; done) | (go_simp; rfl) | (have hq0_ := (blk_cell BK218.out 3).trans (show _ = some _ from rfl); have hf0_ := blk_frozen BK218.out 3; first | (go_simp; done) | (go_simp; rfl))); intro w19 hw; replace BK216 : Aside0 (w19.heap[gb216]? = some (.cells #[.int .i64 a0_0, .int .i64 a0_1, .int .i64 a0_2, .int .i64 a0_3, .int .i64 a0_4, .int .i64 a0_5, .int .i64 a0_6] 23 (0, 0))) := ⟨(by rw [hw]; exact (bG NB216_218 BK216))⟩; replace BK217 : Aside0 (w19.heap[gb217]? = some (.cells #[.int .i64 0, .int .i64 0, .int .i64 0, .int .i64 0, .int .i64 0, .int .i64 0, .int .i64 0] 26 (0, 0))) := ⟨(by rw [hw]; exact (bG NB217_218 BK217))⟩; replace BK218 : Aside0 (w19.heap[gb218]? = some (.cells #[.int .i64 a0_0, .int .i64 a0_1, .int .i64 a0_2, .int .i64 a0_3, .int .i64 0, .int .i64 0, .int .i64 0] 26 (0, 0))) := ⟨(by rw [hw]; exact (by refine bU ?_; refine blk_put (cs := #[.int .i64 a0_0, .int .i64 a0_1, .int .i64 a0_2, .int .i64 0, .int .i64 0, .int .i64 0, .int .i64 0]) ?_ 3 _ rfl; refine bU ?_; exact BK218.out))⟩; replace HB : Aside0 (Below w.heap.size w w19) := ⟨(by rw [hw]; exact (lV3 GE216 GE217 GE218))⟩; clear hw; have hcz20_0 := cz BK216 0 (.int .i64 a0_0); have hcz20_1 := cz BK216 1 (.int .i64 a0_1); have hcz20_2 := cz BK216 2 (.int .i64 a0_2); have hcz20_3 := cz BK216 3 (.int .i64 a0_3); have hcz20_4 := cz BK216 4 (.int .i64 a0_4); have hcz20_5 := cz BK216 5 (.int .i64 a0_5); have hcz20_6 := cz BK216 6 (.int .i64 a0_6); have hfz20_0 := fz BK216 0; have hfz20_1 := fz BK216 1; have hfz20_2 := fz BK216 2; have hfz20_3 := fz BK216 3; have hfz20_4 := fz BK216 4; have hfz20_5 := fz BK216 5; have hfz20_6 := fz BK216 6; have hcz21_0 := cz BK218 0 (.int .i64 a0_0); have hcz21_1 := cz BK218 1 (.int .i64 a0_1); have hcz21_2 := cz BK218 2 (.int .i64 a0_2); have hcz21_3 := cz BK218 3 (.int .i64 a0_3); have hcz21_4 := cz BK218 4 (.int .i64 0); have hcz21_5 := cz BK218 5 (.int .i64 0); have hcz21_6 := cz BK218 6 (.int .i64 0); have hfz21_0 := fz BK218 0; have hfz21_1 := fz BK218 1; have hfz21_2 := fz BK218 2; have hfz21_3 := fz BK218 3; have hfz21_4 := fz BK218 4; have hfz21_5 := fz BK218 5; have hfz21_6 := fz BK218 6) | ((with_reducible refine gate_store (t := 3) (p := 18) rfl ?_); refine store_event (t := 3) (p := 18) (v := ?vo_w22) (w1 := (w19.setCell ⟨gb218, 4, none⟩ (.int .i64 a0_4))) ?hg ?ho ?hn ?hr ?_; (case ho => rfl); (case hg => rfl); (case hn => rfl); (case hr => first | (go_simp; done) | (go_simp; rfl) | (have hq0_ := (blk_cell BK218.out 4).trans (show _ = some _ from rfl); have hf0_ := blk_frozen BK218.out 4; first | (go_simp; done) | (go_simp; rfl))); intro w22 hw; replace BK216 : Aside0 (w22.heap[gb216]? = some (.cells #[.int .i64 a0_0, .int .i64 a0_1, .int .i64 a0_2, .int .i64 a0_3, .int .i64 a0_4, .int .i64 a0_5, .int .i64 a0_6] 23 (0, 0))) := ⟨(by rw [hw]; exact (bG NB216_218 BK216))⟩; replace BK217 : Aside0 (w22.heap[gb217]? = some (.cells #[.int .i64 0, .int .i64 0, .int .i64 0, .int .i64 0, .int .i64 0, .int .i64 0, .int .i64 0] 26 (0, 0))) := ⟨(by rw [hw]; exact (bG NB217_218 BK217))⟩; replace BK218 : Aside0 (w22.heap[gb218]? = some (.cells #[.int .i64 a0_0, .int .i64 a0_1, .int .i64 a0_2, .int .i64 a0_3, .int .i64 a0_4, .int .i64 0, .int .i64 0] 26 (0, 0))) := ⟨(by rw [hw]; exact (by refine bU ?_; refine blk_put (cs := #[.int .i64 a0_0, .int .i64 a0_1, .int .i64 a0_2, .int .i64 a0_3, .int .i64 0, .int .i64 0, .int .i64 0]) ?_ 4 _ rfl; refine bU ?_; exact BK218.out))⟩; replace HB : Aside0 (Below w.heap.size w w22) := ⟨(by rw [hw]; exact (lV3 GE216 GE217 GE218))⟩; clear hw; have hcz23_0 := cz BK216 0 (.int .i64 a0_0); have hcz23_1 := cz BK216 1 (.int .i64 a0_1); have hcz23_2 := cz BK216 2 (.int .i64 a0_2); have hcz23_3 := cz BK216 3 (.int .i64 a0_3); have hcz23_4 := cz BK216 4 (.int .i64 a0_4); have hcz23_5 := cz BK216 5 (.int .i64 a0_5); have hcz23_6 := cz BK216 6 (.int .i64 a0_6); have hfz23_0 := fz BK216 0; have hfz23_1 := fz BK216 1; have hfz23_2 := fz BK216 2; have hfz23_3 := fz BK216 3; have hfz23_4 := fz BK216 4; have hfz23_5 := fz BK216 5; have hfz23_6 := fz BK216 6; have hcz24_0 := cz BK218 0 (.int .i64 a0_0); have hcz24_1 := cz BK218 1 (.int .i64 a0_1); have hcz24_2 := cz BK218 2 (.int .i64 a0_2); have hcz24_3 := cz BK218 3 (.int .i64 a0_3); have hcz24_4 := cz BK218 4 (.int .i64 a0_4); have hcz24_5 := cz BK218 5 (.int .i64 0); have hcz24_6 := cz BK218 6 (.int .i64 0); have hfz24_0 := fz BK218 0; have hfz24_1 := fz BK218 1; have hfz24_2 := fz BK218 2; have hfz24_3 := fz BK218 3; have hfz24_4 := fz BK218 4; have hfz24_5 := fz BK218 5; have hfz24_6 := fz BK218 6) | ((with_reducible refine gate_store (t := 3) (p := 21) rfl ?_); refine store_event (t := 3) (p := 21) (v := ?vo_w25) (w1 := (w22.setCell ⟨gb218, 5, none⟩ (.int .i64 a0_5))) ?hg ?ho ?hn ?hr ?_; (case ho => rfl); (case hg => rfl); (case hn => rfl); (case hr => first | (go_simp; done) | (go_simp; rfl) | (have hq0_ := (blk_cell BK218.out 5).trans (show _ = some _ from rfl); have hf0_ := blk_frozen BK218.out 5; first | (go_simp; done) | (go_simp; rfl))); intro w25 hw; replace BK216 : Aside0 (w25.heap[gb216]? = some (.cells #[.int .i64 a0_0, .int .i64 a0_1, .int .i64 a0_2, .int .i64 a0_3, .int .i64 a0_4, .int .i64 a0_5, .int .i64 a0_6] 23 (0, 0))) := ⟨(by rw [hw]; exact (bG NB216_218 BK216))⟩; replace BK217 : Aside0 (w25.heap[gb217]? = some (.cells #[.int .i64 0, .int .i64 0, .int .i64 0, .int .i64 0, .int .i64 0, .int .i64 0, .int .i64 0] 26 (0, 0))) := ⟨(by rw [hw]; exact (bG NB217_218 BK217))⟩; replace BK218 : Aside0 (w25.heap[gb218]? = some (.cells #[.int .i64 a0_0, .int .i64 a0_1, .int .i64 a0_2, .int .i64 a0_3, .int .i64 a0_4, .int .i64 a0_5, .int .i64 0] 26 (0, 0))) := ⟨(by rw [hw]; exact (by refine bU ?_; refine blk_put (cs := #[.int .i64 a0_0, .int .i64 a0_1, .int .i64 a0_2, .int .i64 a0_3, .int .i64 a0_4, .int .i64 0, .int .i64 0]) ?_ 5 _ rfl; refine bU ?_; exact BK218.out))⟩; replace HB : Aside0 (Below w.heap.size w w25) := ⟨(by rw [hw]; exact (lV3 GE216 GE217 GE218))⟩; clear hw; have hcz26_0 := cz BK216 0 (.int .i64 a0_0); have hcz26_1 := cz BK216 1 (.int .i64 a0_1); have hcz26_2 := cz BK216 2 (.int .i64 a0_2); have hcz26_3 := cz BK216 3 (.int .i64 a0_3); have hcz26_4 := cz BK216 4 (.int .i64 a0_4); have hcz26_5 := cz BK216 5 (.int .i64 a0_5); have hcz26_6 := cz BK216 6 (.int .i64 a0_6); have hfz26_0 := fz BK216 0; have hfz26_1 := fz BK216 1; have hfz26_2 := fz BK216 2; have hfz26_3 := fz BK216 3; have hfz26_4 := fz BK216 4; have hfz26_5 := fz BK216 5; have hfz26_6 := fz BK216 6; have hcz27_0 := cz BK218 0 (.int .i64 a0_0); have hcz27_1 := cz BK218 1 (.int .i64 a0_1); have hcz27_2 := cz BK218 2 (.int .i64 a0_2); have hcz27_3 := cz BK218 3 (.int .i64 a0_3); have hcz27_4 := cz BK218 4 (.int .i64 a0_4); have hcz27_5 := cz BK218 5 (.int .i64 a0_5); have hcz27_6 := cz BK218 6 (.int .i64 0); have hfz27_0 := fz BK218 0; have hfz27_1 := fz BK218 1; have hfz27_2 := fz BK218 2; have hfz27_3 := fz BK218 3; have hfz27_4 := fz BK218 4; have hfz27_5 := fz BK218 5; have hfz27_6 := fz BK218 6) | ((with_reducible refine gate_store (t := 3) (p := 24) rfl ?_); refine store_event (t := 3) (p := 24) (v := ?vo_w28) (w1 := (w25.setCell ⟨gb218, 6, none⟩ (.int .i64 a0_6))) ?hg ?ho ?hn ?hr ?_; (case ho => rfl); (case hg => rfl); (case hn => rfl); (case hr => first | (go_simp; done) | (go_simp; rfl) | (have hq0_ := (blk_cell BK218.out 6).trans (show _ = some _ from rfl); have hf0_ := blk_frozen BK218.out 6; first | (go_simp; done) | (go_simp; rfl))); intro w28 hw; replace BK216 : Aside0 (w28.heap[gb216]? = some (.cells #[.int .i64 a0_0, .int .i64 a0_1, .int .i64 a0_2, .int .i64 a0_3, .int .i64 a0_4, .int .i64 a0_5, .int .i64 a0_6] 23 (0, 0))) := ⟨(by rw [hw]; exact (bG NB216_218 BK216))⟩; replace BK217 : Aside0 (w28.heap[gb217]? = some (.cells #[.int .i64 0, .int .i64 0, .int .i64 0, .int .i64 0, .int .i64 0, .int .i64 0, .int .i64 0] 26 (0, 0))) := ⟨(by rw [hw]; exact (bG NB217_218 BK217))⟩; replace BK218 : Aside0 (w28.heap[gb218]? = some (.cells #[.int .i64 a0_0, .int .i64 a0_1, .int .i64 a0_2, .int .i64 a0_3, .int .i64 a0_4, .int .i64 a0_5, .int .i64 a0_6] 26 (0, 0))) := ⟨(by rw [hw]; exact (by refine bU ?_; refine blk_put (cs := #[.int .i64 a0_0, .int .i64 a0_1, .int .i64 a0_2, .int .i64 a0_3, .int .i64 a0_4, .int .i64 a0_5, .int .i64 0]) ?_ 6 _ rfl; refine bU ?_; exact BK218.out))⟩; replace HB : Aside0 (Below w.heap.size w w28) := ⟨(by rw [hw]; exact (lV3 GE216 GE217 GE218))⟩; clear hw; have hcz29_0 := cz BK218 0 (.int .i64 a0_0); have hcz29_1 := cz BK218 1 (.int .i64 a0_1); have hcz29_2 := cz BK218 2 (.int .i64 a0_2); have hcz29_3 := cz BK218 3 (.int .i64 a0_3); have hcz29_4 := cz BK218 4 (.int .i64 a0_4); have hcz29_5 := cz BK218 5 (.int .i64 a0_5); have hcz29_6 := cz BK218 6 (.int .i64 a0_6); have hfz29_0 := fz BK218 0; have hfz29_1 := fz BK218 1; have hfz29_2 := fz BK218 2; have hfz29_3 := fz BK218 3; have hfz29_4 := fz BK218 4; have hfz29_5 := fz BK218 5; have hfz29_6 := fz BK218 6; have hcz30_0 := cz BK217 0 (.int .i64 0); have hcz30_1 := cz BK217 1 (.int .i64 0); have hcz30_2 := cz BK217 2 (.int .i64 0); have hcz30_3 := cz BK217 3 (.int .i64 0); have hcz30_4 := cz BK217 4 (.int .i64 0); have hcz30_5 := cz BK217 5 (.int .i64 0); have hcz30_6 := cz BK217 6 (.int .i64 0); have hfz30_0 := fz BK217 0; have hfz30_1 := fz BK217 1; have hfz30_2 := fz BK217 2; have hfz30_3 := fz BK217 3; have hfz30_4 := fz BK217 4; have hfz30_5 := fz BK217 5; have hfz30_6 := fz BK217 6) | ((with_reducible refine gate_store (t := 26) (p := 2) rfl ?_); refine store_event (t := 26) (p := 2) (v := ?vo_w31) (w1 := (((((((w28.setCell ⟨gb217, 0, none⟩ (.int .i64 a0_0)).setCell ⟨gb217, 1, none⟩ (.int .i64 a0_1)).setCell ⟨gb217, 2, none⟩ (.int .i64 a0_2)).setCell ⟨gb217, 3, none⟩ (.int .i64 a0_3)).setCell ⟨gb217, 4, none⟩ (.int .i64 a0_4)).setCell ⟨gb217, 5, none⟩ (.int .i64 a0_5)).setCell ⟨gb217, 6, none⟩ (.int .i64 a0_6))) ?hg ?ho ?hn ?hr ?_; (case ho => rfl); (case hg => rfl); (case hn => rfl); (case hr => first | (go_simp; done) | (go_simp; rfl) | (have hq0_ := (blk_cell BK217.out 0).trans (show _ = some _ from rfl); have hf0_ := blk_frozen BK217.out 0; have hq1_ := (blk_cell BK217.out 1).trans (show _ = some _ from rfl); have hf1_ := blk_frozen BK217.out 1; have hq2_ := (blk_cell BK217.out 2).trans (show _ = some _ from rfl); have hf2_ := blk_frozen BK217.out 2; have hq3_ := (blk_cell BK217.out 3).trans (show _ = some _ from rfl); have hf3_ := blk_frozen BK217.out 3; have hq4_ := (blk_cell BK217.out 4).trans (show _ = some _ from rfl); have hf4_ := blk_frozen BK217.out 4; have hq5_ := (blk_cell BK217.out 5).trans (show _ = some _ from rfl); have hf5_ := blk_frozen BK217.out 5; have hq6_ := (blk_cell BK217.out 6).trans (show _ = some _ from rfl); have hf6_ := blk_frozen BK217.out 6; first | (go_simp; done) | (go_simp; rfl))); intro w31 hw; replace BK216 : Aside0 (w31.heap[gb216]? = some (.cells #[.int .i64 a0_0, .int .i64 a0_1, .int .i64 a0_2, .int .i64 a0_3, .int .i64 a0_4, .int .i64 a0_5, .int .i64 a0_6] 23 (0, 0))) := ⟨(by rw [hw]; exact (bG NB216_217 BK216))⟩; replace BK217 : Aside0 (w31.heap[gb217]? = some (.cells #[.int .i64 a0_0, .int .i64 a0_1, .int .i64 a0_2, .int .i64 a0_3, .int .i64 a0_4, .int .i64 a0_5, .int .i64 a0_6] 26 (0, 0))) := ⟨(by rw [hw]; exact (by refine bU ?_; refine blk_put (cs := #[.int .i64 a0_0, .int .i64 a0_1, .int .i64 a0_2, .int .i64 a0_3, .int .i64 a0_4, .int .i64 a0_5, .int .i64 0]) ?_ 6 _ rfl; refine bU ?_; refine blk_put (cs := #[.int .i64 a0_0, .int .i64 a0_1, .int .i64 a0_2, .int .i64 a0_3, .int .i64 a0_4, .int .i64 0, .int .i64 0]) ?_ 5 _ rfl; refine bU ?_; refine blk_put (cs := #[.int .i64 a0_0, .int .i64 a0_1, .int .i64 a0_2, .int .i64 a0_3, .int .i64 0, .int .i64 0, .int .i64 0]) ?_ 4 _ rfl; refine bU ?_; refine blk_put (cs := #[.int .i64 a0_0, .int .i64 a0_1, .int .i64 a0_2, .int .i64 0, .int .i64 0, .int .i64 0, .int .i64 0]) ?_ 3 _ rfl; refine bU ?_; refine blk_put (cs := #[.int .i64 a0_0, .int .i64 a0_1, .int .i64 0, .int .i64 0, .int .i64 0, .int .i64 0, .int .i64 0]) ?_ 2 _ rfl; refine bU ?_; refine blk_put (cs := #[.int .i64 a0_0, .int .i64 0, .int .i64 0, .int .i64 0, .int .i64 0, .int .i64 0, .int .i64 0]) ?_ 1 _ rfl; refine bU ?_; refine blk_put (cs := #[.int .i64 0, .int .i64 0, .int .i64 0, .int .i64 0, .int .i64 0, .int .i64 0, .int .i64 0]) ?_ 0 _ rfl; refine bU ?_; exact BK217.out))⟩; replace BK218 : Aside0 (w31.heap[gb218]? = some (.cells #[.int .i64 a0_0, .int .i64 a0_1, .int .i64 a0_2, .int .i64 a0_3, .int .i64 a0_4, .int .i64 a0_5, .int .i64 a0_6] 26 (0, 0))) := ⟨(by rw [hw]; exact (bG NB218_217 BK218))⟩; replace HB : Aside0 (Below w.heap.size w w31) := ⟨(by rw [hw]; exact (lV3 GE216 GE217 GE218))⟩; clear hw))
 refine bodyPost_ret (results_cell_row rfl _ _ gb217 26 #[.int .i64 a0_0, .int .i64 a0_1, .int .i64 a0_2, .int .i64 a0_3, .int .i64 a0_4, .int .i64 a0_5, .int .i64 a0_6] (0, 0) _ rfl (bV BK217) Try.underlying26 rfl (by kernel_rfl)) rfl ?_
 exact ⟨eE, lV3 GE216 GE217 GE218⟩
def impl_inRange.f (a0 : Int) (a1 : Int) (a2 : Int) : Option (Bool) := if a1 ≤ a0 then (some (decide (a0 ≤ a2))) else (some false)
set_option maxHeartbeats 8000000 in
set_option maxRecDepth 100000 in
theorem impl_inRange.calls (a0 : Int) (a1 : Int) (a2 : Int) (r : Bool) (w : World) (h : impl_inRange.f a0 a1 a2 = some r) :
  Calls Try.prog 32 #[.int .i64 a0, .int .i64 a1, .int .i64 a2] w fun e w' => e = .returned (.bool r) ∧ Drawn0 w w' := by
 have H : (if a1 ≤ a0 then (some (decide (a0 ≤ a2))) else (some false)) = some r := h
 clear h
 by_cases c4 : a1 ≤ a0
 ·rw [if_pos c4] at H
  have c4b0 : decide (a1 ≤ a0) = true := decide_eq_true c4
  clear c4
  obtain rfl := Option.some.inj H
  go_enter Try.func32, Try.ntmps32
  go_wp2
  go_ret
  exact ⟨by first | rfl | (simp; done) | (simp [*]; done) | exact not_isEmpty _ | exact (not_isEmpty _).symm | exact is_empty _ | exact (is_empty _).symm, by repeat (first | exact Drawn0.refl _ | apply Drawn0.step)⟩
 ·rw [if_neg c4] at H
  have c4b0 : decide (a1 ≤ a0) = false := decide_eq_false c4
  clear c4
  obtain rfl := Option.some.inj H
  go_enter Try.func32, Try.ntmps32
  go_wp2
  go_ret
  exact ⟨by first | rfl | (simp; done) | (simp [*]; done) | exact not_isEmpty _ | exact (not_isEmpty _).symm | exact is_empty _ | exact (is_empty _).symm, by repeat (first | exact Drawn0.refl _ | apply Drawn0.step)⟩
def impl_isFar.f (a0 : Int) : Option (Bool) := (impl_inRange.f a0 (-1000000) 1000000).bind fun t219 => (some t219)
set_option maxHeartbeats 8000000 in
set_option maxRecDepth 100000 in
theorem impl_isFar.calls (a0 : Int) (r : Bool) (w : World) (h : impl_isFar.f a0 = some r) :
  Calls Try.prog 44 #[.int .i64 a0] w fun e w' => e = .returned (.bool r) ∧ Drawn0 w w' := by
 have H : ((impl_inRange.f a0 (-1000000) 1000000).bind fun t219 => (some t219)) = some r := h
 clear h
 replace H := Option.bind_eq_some_iff.mp H
 obtain ⟨t219, A20, H⟩ := H
 replace H : (some t219) = some r := H
 have A2 := Aside0.mk A20
 clear A20
 obtain rfl := Option.some.inj H
 go_enter Try.func44, Try.ntmps44
 go_wp2_with (first | ((with_reducible refine gate_callee (f := 32) rfl ?_); refine goesL_ (some 4) rfl rfl Try.func32 (by kernel_rfl) rfl #[.int .i64 a0, .int .i64 (-1000000), .int .i64 1000000] rfl aE ?_; (with_reducible refine (impl_inRange.calls a0 (-1000000) 1000000 t219 _ A2.out).mono ?_); rintro e w' ⟨rfl, ⟨nd, rfl⟩⟩; refine ⟨_, rfl, ?_⟩))
 go_ret
 exact ⟨by first | rfl | (simp; done) | (simp [*]; done) | exact not_isEmpty _ | exact (not_isEmpty _).symm | exact is_empty _ | exact (is_empty _).symm, by repeat (first | exact Drawn0.refl _ | apply Drawn0.step)⟩
def impl_GoodEmitter.f (a0_0 : Int) (a0_1 : Int) (a0_2 : Int) (a0_3 : Int) (a0_4 : Int) (a0_5 : Int) (a0_6 : Int) : Option (Bool) := (impl_isFar.f a0_0).bind fun t221 => (if t221 = true then ((impl_isFar.f a0_1).bind fun t222 => (if t222 = true then ((impl_isFar.f a0_6).bind fun t223 => (if t223 = true then ((impl_inRange.f a0_2 1 200).bind fun t224 => (if t224 = true then ((impl_inRange.f a0_3 0 20).bind fun t225 => (if t225 = true then ((impl_inRange.f a0_4 1 200).bind fun t226 => (if t226 = true then ((impl_inRange.f a0_5 0 1000000).bind fun t227 => (some t227)) else (some false))) else (some false))) else (some false))) else (some false))) else (some false))) else (some false))
set_option maxHeartbeats 8000000 in
set_option maxRecDepth 100000 in
theorem impl_GoodEmitter.calls (a0_0 : Int) (a0_1 : Int) (a0_2 : Int) (a0_3 : Int) (a0_4 : Int) (a0_5 : Int) (a0_6 : Int) (r : Bool) (w : World) (h : impl_GoodEmitter.f a0_0 a0_1 a0_2 a0_3 a0_4 a0_5 a0_6 = some r) :
  Calls Try.prog 30 #[.agg #[.int .i64 a0_0, .int .i64 a0_1, .int .i64 a0_2, .int .i64 a0_3, .int .i64 a0_4, .int .i64 a0_5, .int .i64 a0_6]] w fun e w' => e = .returned (.bool r) ∧ Below w.heap.size w w' := by
 have hu26 := Try.underlying26
 have HB := Aside0.mk (Below.refl w.heap.size w)
 have H : ((impl_isFar.f a0_0).bind fun t221 => (if t221 = true then ((impl_isFar.f a0_1).bind fun t222 => (if t222 = true then ((impl_isFar.f a0_6).bind fun t223 => (if t223 = true then ((impl_inRange.f a0_2 1 200).bind fun t224 => (if t224 = true then ((impl_inRange.f a0_3 0 20).bind fun t225 => (if t225 = true then ((impl_inRange.f a0_4 1 200).bind fun t226 => (if t226 = true then ((impl_inRange.f a0_5 0 1000000).bind fun t227 => (some t227)) else (some false))) else (some false))) else (some false))) else (some false))) else (some false))) else (some false))) = some r := h
 clear h
 replace H := Option.bind_eq_some_iff.mp H
 obtain ⟨t221, A20, H⟩ := H
 replace H : (if t221 = true then ((impl_isFar.f a0_1).bind fun t222 => (if t222 = true then ((impl_isFar.f a0_6).bind fun t223 => (if t223 = true then ((impl_inRange.f a0_2 1 200).bind fun t224 => (if t224 = true then ((impl_inRange.f a0_3 0 20).bind fun t225 => (if t225 = true then ((impl_inRange.f a0_4 1 200).bind fun t226 => (if t226 = true then ((impl_inRange.f a0_5 0 1000000).bind fun t227 => (some t227)) else (some false))) else (some false))) else (some false))) else (some false))) else (some false))) else (some false)) = some r := H
 have A2 := Aside0.mk A20
 clear A20
 by_cases c3 : t221 = true
 ·subst c3
  have H1 : ((impl_isFar.f a0_1).bind fun t222 => (if t222 = true then ((impl_isFar.f a0_6).bind fun t223 => (if t223 = true then ((impl_inRange.f a0_2 1 200).bind fun t224 => (if t224 = true then ((impl_inRange.f a0_3 0 20).bind fun t225 => (if t225 = true then ((impl_inRange.f a0_4 1 200).bind fun t226 => (if t226 = true then ((impl_inRange.f a0_5 0 1000000).bind fun t227 => (some t227)) else (some false))) else (some false))) else (some false))) else (some false))) else (some false))) = some r := by rw [if_pos rfl] at H; exact H
  clear H
  have H := H1
  clear H1
  replace H := Option.bind_eq_some_iff.mp H
  obtain ⟨t222, A40, H⟩ := H
  replace H : (if t222 = true then ((impl_isFar.f a0_6).bind fun t223 => (if t223 = true then ((impl_inRange.f a0_2 1 200).bind fun t224 => (if t224 = true then ((impl_inRange.f a0_3 0 20).bind fun t225 => (if t225 = true then ((impl_inRange.f a0_4 1 200).bind fun t226 => (if t226 = true then ((impl_inRange.f a0_5 0 1000000).bind fun t227 => (some t227)) else (some false))) else (some false))) else (some false))) else (some false))) else (some false)) = some r := H
  have A4 := Aside0.mk A40
  clear A40
  by_cases c5 : t222 = true
  ·subst c5
   have H1 : ((impl_isFar.f a0_6).bind fun t223 => (if t223 = true then ((impl_inRange.f a0_2 1 200).bind fun t224 => (if t224 = true then ((impl_inRange.f a0_3 0 20).bind fun t225 => (if t225 = true then ((impl_inRange.f a0_4 1 200).bind fun t226 => (if t226 = true then ((impl_inRange.f a0_5 0 1000000).bind fun t227 => (some t227)) else (some false))) else (some false))) else (some false))) else (some false))) = some r := by rw [if_pos rfl] at H; exact H
   clear H
   have H := H1
   clear H1
   replace H := Option.bind_eq_some_iff.mp H
   obtain ⟨t223, A60, H⟩ := H
   replace H : (if t223 = true then ((impl_inRange.f a0_2 1 200).bind fun t224 => (if t224 = true then ((impl_inRange.f a0_3 0 20).bind fun t225 => (if t225 = true then ((impl_inRange.f a0_4 1 200).bind fun t226 => (if t226 = true then ((impl_inRange.f a0_5 0 1000000).bind fun t227 => (some t227)) else (some false))) else (some false))) else (some false))) else (some false)) = some r := H
   have A6 := Aside0.mk A60
   clear A60
   by_cases c7 : t223 = true
   ·subst c7
    have H1 : ((impl_inRange.f a0_2 1 200).bind fun t224 => (if t224 = true then ((impl_inRange.f a0_3 0 20).bind fun t225 => (if t225 = true then ((impl_inRange.f a0_4 1 200).bind fun t226 => (if t226 = true then ((impl_inRange.f a0_5 0 1000000).bind fun t227 => (some t227)) else (some false))) else (some false))) else (some false))) = some r := by rw [if_pos rfl] at H; exact H
    clear H
    have H := H1
    clear H1
    replace H := Option.bind_eq_some_iff.mp H
    obtain ⟨t224, A80, H⟩ := H
    replace H : (if t224 = true then ((impl_inRange.f a0_3 0 20).bind fun t225 => (if t225 = true then ((impl_inRange.f a0_4 1 200).bind fun t226 => (if t226 = true then ((impl_inRange.f a0_5 0 1000000).bind fun t227 => (some t227)) else (some false))) else (some false))) else (some false)) = some r := H
    have A8 := Aside0.mk A80
    clear A80
    by_cases c9 : t224 = true
    ·subst c9
     have H1 : ((impl_inRange.f a0_3 0 20).bind fun t225 => (if t225 = true then ((impl_inRange.f a0_4 1 200).bind fun t226 => (if t226 = true then ((impl_inRange.f a0_5 0 1000000).bind fun t227 => (some t227)) else (some false))) else (some false))) = some r := by rw [if_pos rfl] at H; exact H
     clear H
     have H := H1
     clear H1
     replace H := Option.bind_eq_some_iff.mp H
     obtain ⟨t225, A100, H⟩ := H
     replace H : (if t225 = true then ((impl_inRange.f a0_4 1 200).bind fun t226 => (if t226 = true then ((impl_inRange.f a0_5 0 1000000).bind fun t227 => (some t227)) else (some false))) else (some false)) = some r := H
     have A10 := Aside0.mk A100
     clear A100
     by_cases c11 : t225 = true
     ·subst c11
      have H1 : ((impl_inRange.f a0_4 1 200).bind fun t226 => (if t226 = true then ((impl_inRange.f a0_5 0 1000000).bind fun t227 => (some t227)) else (some false))) = some r := by rw [if_pos rfl] at H; exact H
      clear H
      have H := H1
      clear H1
      replace H := Option.bind_eq_some_iff.mp H
      obtain ⟨t226, A120, H⟩ := H
      replace H : (if t226 = true then ((impl_inRange.f a0_5 0 1000000).bind fun t227 => (some t227)) else (some false)) = some r := H
      have A12 := Aside0.mk A120
      clear A120
      by_cases c13 : t226 = true
      ·subst c13
       have H1 : ((impl_inRange.f a0_5 0 1000000).bind fun t227 => (some t227)) = some r := by rw [if_pos rfl] at H; exact H
       clear H
       have H := H1
       clear H1
       replace H := Option.bind_eq_some_iff.mp H
       obtain ⟨t227, A140, H⟩ := H
       replace H : (some t227) = some r := H
       have A14 := Aside0.mk A140
       clear A140
       obtain rfl := Option.some.inj H
       go_enter Try.func30, Try.ntmps30
       go_wp2_with (first | ((with_reducible refine gate_dst (N := 1) rfl ?_); refine box_event rfl (N := 1) rfl (cs := #[.int .i64 a0_0, .int .i64 a0_1, .int .i64 a0_2, .int .i64 a0_3, .int .i64 a0_4, .int .i64 a0_5, .int .i64 a0_6]) (t := 26) sE ?_; intro gb220 hg w15 hbox hb; have BK220 := Aside0.mk hbox; have GW220 := gS w hg (lU); have GE220 := gS w hg (lU); replace HB := bH (lU) hb; clear hb hbox hg; have hcz16_0 := cz BK220 0 (.int .i64 a0_0); have hcz16_1 := cz BK220 1 (.int .i64 a0_1); have hcz16_2 := cz BK220 2 (.int .i64 a0_2); have hcz16_3 := cz BK220 3 (.int .i64 a0_3); have hcz16_4 := cz BK220 4 (.int .i64 a0_4); have hcz16_5 := cz BK220 5 (.int .i64 a0_5); have hcz16_6 := cz BK220 6 (.int .i64 a0_6); have hfz16_0 := fz BK220 0; have hfz16_1 := fz BK220 1; have hfz16_2 := fz BK220 2; have hfz16_3 := fz BK220 3; have hfz16_4 := fz BK220 4; have hfz16_5 := fz BK220 5; have hfz16_6 := fz BK220 6) | ((with_reducible refine gate_callee (f := 44) rfl ?_); refine goesL_ (some 5) rfl rfl Try.func44 (by kernel_rfl) rfl #[.int .i64 a0_0] rfl aE ?_; (with_reducible refine (impl_isFar.calls a0_0 true _ A2.out).mono ?_); rintro e w' ⟨rfl, ⟨nd, rfl⟩⟩; refine ⟨_, rfl, ?_⟩) | (go_at_call 44; (with_reducible refine (impl_isFar.calls a0_1 true _ A4.out).mono ?_); rintro e w' ⟨rfl, ⟨nd, rfl⟩⟩) | (go_at_call 44; (with_reducible refine (impl_isFar.calls a0_6 true _ A6.out).mono ?_); rintro e w' ⟨rfl, ⟨nd, rfl⟩⟩) | (go_at_call 32; (with_reducible refine (impl_inRange.calls a0_2 1 200 true _ A8.out).mono ?_); rintro e w' ⟨rfl, ⟨nd, rfl⟩⟩) | (go_at_call 32; (with_reducible refine (impl_inRange.calls a0_3 0 20 true _ A10.out).mono ?_); rintro e w' ⟨rfl, ⟨nd, rfl⟩⟩) | (go_at_call 32; (with_reducible refine (impl_inRange.calls a0_4 1 200 true _ A12.out).mono ?_); rintro e w' ⟨rfl, ⟨nd, rfl⟩⟩) | (go_at_call 32; (with_reducible refine (impl_inRange.calls a0_5 0 1000000 t227 _ A14.out).mono ?_); rintro e w' ⟨rfl, ⟨nd, rfl⟩⟩))
       go_ret
       exact ⟨eE, lV1 GE220⟩
      ·replace c13 := Bool.eq_false_iff.mpr c13
       subst c13
       have H1 : (some false) = some r := by rw [if_neg (show ¬ (false = true) by decide)] at H; exact H
       clear H
       have H := H1
       clear H1
       obtain rfl := Option.some.inj H
       go_enter Try.func30, Try.ntmps30
       go_wp2_with (first | ((with_reducible refine gate_dst (N := 1) rfl ?_); refine box_event rfl (N := 1) rfl (cs := #[.int .i64 a0_0, .int .i64 a0_1, .int .i64 a0_2, .int .i64 a0_3, .int .i64 a0_4, .int .i64 a0_5, .int .i64 a0_6]) (t := 26) sE ?_; intro gb220 hg w17 hbox hb; have BK220 := Aside0.mk hbox; have GW220 := gS w hg (lU); have GE220 := gS w hg (lU); replace HB := bH (lU) hb; clear hb hbox hg; have hcz18_0 := cz BK220 0 (.int .i64 a0_0); have hcz18_1 := cz BK220 1 (.int .i64 a0_1); have hcz18_2 := cz BK220 2 (.int .i64 a0_2); have hcz18_3 := cz BK220 3 (.int .i64 a0_3); have hcz18_4 := cz BK220 4 (.int .i64 a0_4); have hcz18_5 := cz BK220 5 (.int .i64 a0_5); have hcz18_6 := cz BK220 6 (.int .i64 a0_6); have hfz18_0 := fz BK220 0; have hfz18_1 := fz BK220 1; have hfz18_2 := fz BK220 2; have hfz18_3 := fz BK220 3; have hfz18_4 := fz BK220 4; have hfz18_5 := fz BK220 5; have hfz18_6 := fz BK220 6) | ((with_reducible refine gate_callee (f := 44) rfl ?_); refine goesL_ (some 5) rfl rfl Try.func44 (by kernel_rfl) rfl #[.int .i64 a0_0] rfl aE ?_; (with_reducible refine (impl_isFar.calls a0_0 true _ A2.out).mono ?_); rintro e w' ⟨rfl, ⟨nd, rfl⟩⟩; refine ⟨_, rfl, ?_⟩) | (go_at_call 44; (with_reducible refine (impl_isFar.calls a0_1 true _ A4.out).mono ?_); rintro e w' ⟨rfl, ⟨nd, rfl⟩⟩) | (go_at_call 44; (with_reducible refine (impl_isFar.calls a0_6 true _ A6.out).mono ?_); rintro e w' ⟨rfl, ⟨nd, rfl⟩⟩) | (go_at_call 32; (with_reducible refine (impl_inRange.calls a0_2 1 200 true _ A8.out).mono ?_); rintro e w' ⟨rfl, ⟨nd, rfl⟩⟩) | (go_at_call 32; (with_reducible refine (impl_inRange.calls a0_3 0 20 true _ A10.out).mono ?_); rintro e w' ⟨rfl, ⟨nd, rfl⟩⟩) | (go_at_call 32; (with_reducible refine (impl_inRange.calls a0_4 1 200 false _ A12.out).mono ?_); rintro e w' ⟨rfl, ⟨nd, rfl⟩⟩))
       go_ret
       exact ⟨eE, lV1 GE220⟩
     ·replace c11 := Bool.eq_false_iff.mpr c11
      subst c11
      have H1 : (some false) = some r := by rw [if_neg (show ¬ (false = true) by decide)] at H; exact H
      clear H
      have H := H1
      clear H1
      obtain rfl := Option.some.inj H
      go_enter Try.func30, Try.ntmps30
      go_wp2_with (first | ((with_reducible refine gate_dst (N := 1) rfl ?_); refine box_event rfl (N := 1) rfl (cs := #[.int .i64 a0_0, .int .i64 a0_1, .int .i64 a0_2, .int .i64 a0_3, .int .i64 a0_4, .int .i64 a0_5, .int .i64 a0_6]) (t := 26) sE ?_; intro gb220 hg w19 hbox hb; have BK220 := Aside0.mk hbox; have GW220 := gS w hg (lU); have GE220 := gS w hg (lU); replace HB := bH (lU) hb; clear hb hbox hg; have hcz20_0 := cz BK220 0 (.int .i64 a0_0); have hcz20_1 := cz BK220 1 (.int .i64 a0_1); have hcz20_2 := cz BK220 2 (.int .i64 a0_2); have hcz20_3 := cz BK220 3 (.int .i64 a0_3); have hcz20_4 := cz BK220 4 (.int .i64 a0_4); have hcz20_5 := cz BK220 5 (.int .i64 a0_5); have hcz20_6 := cz BK220 6 (.int .i64 a0_6); have hfz20_0 := fz BK220 0; have hfz20_1 := fz BK220 1; have hfz20_2 := fz BK220 2; have hfz20_3 := fz BK220 3; have hfz20_4 := fz BK220 4; have hfz20_5 := fz BK220 5; have hfz20_6 := fz BK220 6) | ((with_reducible refine gate_callee (f := 44) rfl ?_); refine goesL_ (some 5) rfl rfl Try.func44 (by kernel_rfl) rfl #[.int .i64 a0_0] rfl aE ?_; (with_reducible refine (impl_isFar.calls a0_0 true _ A2.out).mono ?_); rintro e w' ⟨rfl, ⟨nd, rfl⟩⟩; refine ⟨_, rfl, ?_⟩) | (go_at_call 44; (with_reducible refine (impl_isFar.calls a0_1 true _ A4.out).mono ?_); rintro e w' ⟨rfl, ⟨nd, rfl⟩⟩) | (go_at_call 44; (with_reducible refine (impl_isFar.calls a0_6 true _ A6.out).mono ?_); rintro e w' ⟨rfl, ⟨nd, rfl⟩⟩) | (go_at_call 32; (with_reducible refine (impl_inRange.calls a0_2 1 200 true _ A8.out).mono ?_); rintro e w' ⟨rfl, ⟨nd, rfl⟩⟩) | (go_at_call 32; (with_reducible refine (impl_inRange.calls a0_3 0 20 false _ A10.out).mono ?_); rintro e w' ⟨rfl, ⟨nd, rfl⟩⟩))
      go_ret
      exact ⟨eE, lV1 GE220⟩
    ·replace c9 := Bool.eq_false_iff.mpr c9
     subst c9
     have H1 : (some false) = some r := by rw [if_neg (show ¬ (false = true) by decide)] at H; exact H
     clear H
     have H := H1
     clear H1
     obtain rfl := Option.some.inj H
     go_enter Try.func30, Try.ntmps30
     go_wp2_with (first | ((with_reducible refine gate_dst (N := 1) rfl ?_); refine box_event rfl (N := 1) rfl (cs := #[.int .i64 a0_0, .int .i64 a0_1, .int .i64 a0_2, .int .i64 a0_3, .int .i64 a0_4, .int .i64 a0_5, .int .i64 a0_6]) (t := 26) sE ?_; intro gb220 hg w21 hbox hb; have BK220 := Aside0.mk hbox; have GW220 := gS w hg (lU); have GE220 := gS w hg (lU); replace HB := bH (lU) hb; clear hb hbox hg; have hcz22_0 := cz BK220 0 (.int .i64 a0_0); have hcz22_1 := cz BK220 1 (.int .i64 a0_1); have hcz22_2 := cz BK220 2 (.int .i64 a0_2); have hcz22_3 := cz BK220 3 (.int .i64 a0_3); have hcz22_4 := cz BK220 4 (.int .i64 a0_4); have hcz22_5 := cz BK220 5 (.int .i64 a0_5); have hcz22_6 := cz BK220 6 (.int .i64 a0_6); have hfz22_0 := fz BK220 0; have hfz22_1 := fz BK220 1; have hfz22_2 := fz BK220 2; have hfz22_3 := fz BK220 3; have hfz22_4 := fz BK220 4; have hfz22_5 := fz BK220 5; have hfz22_6 := fz BK220 6) | ((with_reducible refine gate_callee (f := 44) rfl ?_); refine goesL_ (some 5) rfl rfl Try.func44 (by kernel_rfl) rfl #[.int .i64 a0_0] rfl aE ?_; (with_reducible refine (impl_isFar.calls a0_0 true _ A2.out).mono ?_); rintro e w' ⟨rfl, ⟨nd, rfl⟩⟩; refine ⟨_, rfl, ?_⟩) | (go_at_call 44; (with_reducible refine (impl_isFar.calls a0_1 true _ A4.out).mono ?_); rintro e w' ⟨rfl, ⟨nd, rfl⟩⟩) | (go_at_call 44; (with_reducible refine (impl_isFar.calls a0_6 true _ A6.out).mono ?_); rintro e w' ⟨rfl, ⟨nd, rfl⟩⟩) | (go_at_call 32; (with_reducible refine (impl_inRange.calls a0_2 1 200 false _ A8.out).mono ?_); rintro e w' ⟨rfl, ⟨nd, rfl⟩⟩))
     go_ret
     exact ⟨eE, lV1 GE220⟩
   ·replace c7 := Bool.eq_false_iff.mpr c7
    subst c7
    have H1 : (some false) = some r := by rw [if_neg (show ¬ (false = true) by decide)] at H; exact H
    clear H
    have H := H1
    clear H1
    obtain rfl := Option.some.inj H
    go_enter Try.func30, Try.ntmps30
    go_wp2_with (first | ((with_reducible refine gate_dst (N := 1) rfl ?_); refine box_event rfl (N := 1) rfl (cs := #[.int .i64 a0_0, .int .i64 a0_1, .int .i64 a0_2, .int .i64 a0_3, .int .i64 a0_4, .int .i64 a0_5, .int .i64 a0_6]) (t := 26) sE ?_; intro gb220 hg w23 hbox hb; have BK220 := Aside0.mk hbox; have GW220 := gS w hg (lU); have GE220 := gS w hg (lU); replace HB := bH (lU) hb; clear hb hbox hg; have hcz24_0 := cz BK220 0 (.int .i64 a0_0); have hcz24_1 := cz BK220 1 (.int .i64 a0_1); have hcz24_2 := cz BK220 2 (.int .i64 a0_2); have hcz24_3 := cz BK220 3 (.int .i64 a0_3); have hcz24_4 := cz BK220 4 (.int .i64 a0_4); have hcz24_5 := cz BK220 5 (.int .i64 a0_5); have hcz24_6 := cz BK220 6 (.int .i64 a0_6); have hfz24_0 := fz BK220 0; have hfz24_1 := fz BK220 1; have hfz24_2 := fz BK220 2; have hfz24_3 := fz BK220 3; have hfz24_4 := fz BK220 4; have hfz24_5 := fz BK220 5; have hfz24_6 := fz BK220 6) | ((with_reducible refine gate_callee (f := 44) rfl ?_); refine goesL_ (some 5) rfl rfl Try.func44 (by kernel_rfl) rfl #[.int .i64 a0_0] rfl aE ?_; (with_reducible refine (impl_isFar.calls a0_0 true _ A2.out).mono ?_); rintro e w' ⟨rfl, ⟨nd, rfl⟩⟩; refine ⟨_, rfl, ?_⟩) | (go_at_call 44; (with_reducible refine (impl_isFar.calls a0_1 true _ A4.out).mono ?_); rintro e w' ⟨rfl, ⟨nd, rfl⟩⟩) | (go_at_call 44; (with_reducible refine (impl_isFar.calls a0_6 false _ A6.out).mono ?_); rintro e w' ⟨rfl, ⟨nd, rfl⟩⟩))
    go_ret
    exact ⟨eE, lV1 GE220⟩
  ·replace c5 := Bool.eq_false_iff.mpr c5
   subst c5
   have H1 : (some false) = some r := by rw [if_neg (show ¬ (false = true) by decide)] at H; exact H
   clear H
   have H := H1
   clear H1
   obtain rfl := Option.some.inj H
   go_enter Try.func30, Try.ntmps30
   go_wp2_with (first | ((with_reducible refine gate_dst (N := 1) rfl ?_); refine box_event rfl (N := 1) rfl (cs := #[.int .i64 a0_0, .int .i64 a0_1, .int .i64 a0_2, .int .i64 a0_3, .int .i64 a0_4, .int .i64 a0_5, .int .i64 a0_6]) (t := 26) sE ?_; intro gb220 hg w25 hbox hb; have BK220 := Aside0.mk hbox; have GW220 := gS w hg (lU); have GE220 := gS w hg (lU); replace HB := bH (lU) hb; clear hb hbox hg; have hcz26_0 := cz BK220 0 (.int .i64 a0_0); have hcz26_1 := cz BK220 1 (.int .i64 a0_1); have hcz26_2 := cz BK220 2 (.int .i64 a0_2); have hcz26_3 := cz BK220 3 (.int .i64 a0_3); have hcz26_4 := cz BK220 4 (.int .i64 a0_4); have hcz26_5 := cz BK220 5 (.int .i64 a0_5); have hcz26_6 := cz BK220 6 (.int .i64 a0_6); have hfz26_0 := fz BK220 0; have hfz26_1 := fz BK220 1; have hfz26_2 := fz BK220 2; have hfz26_3 := fz BK220 3; have hfz26_4 := fz BK220 4; have hfz26_5 := fz BK220 5; have hfz26_6 := fz BK220 6) | ((with_reducible refine gate_callee (f := 44) rfl ?_); refine goesL_ (some 5) rfl rfl Try.func44 (by kernel_rfl) rfl #[.int .i64 a0_0] rfl aE ?_; (with_reducible refine (impl_isFar.calls a0_0 true _ A2.out).mono ?_); rintro e w' ⟨rfl, ⟨nd, rfl⟩⟩; refine ⟨_, rfl, ?_⟩) | (go_at_call 44; (with_reducible refine (impl_isFar.calls a0_1 false _ A4.out).mono ?_); rintro e w' ⟨rfl, ⟨nd, rfl⟩⟩))
   go_ret
   exact ⟨eE, lV1 GE220⟩
 ·replace c3 := Bool.eq_false_iff.mpr c3
  subst c3
  have H1 : (some false) = some r := by rw [if_neg (show ¬ (false = true) by decide)] at H; exact H
  clear H
  have H := H1
  clear H1
  obtain rfl := Option.some.inj H
  go_enter Try.func30, Try.ntmps30
  go_wp2_with (first | ((with_reducible refine gate_dst (N := 1) rfl ?_); refine box_event rfl (N := 1) rfl (cs := #[.int .i64 a0_0, .int .i64 a0_1, .int .i64 a0_2, .int .i64 a0_3, .int .i64 a0_4, .int .i64 a0_5, .int .i64 a0_6]) (t := 26) sE ?_; intro gb220 hg w27 hbox hb; have BK220 := Aside0.mk hbox; have GW220 := gS w hg (lU); have GE220 := gS w hg (lU); replace HB := bH (lU) hb; clear hb hbox hg; have hcz28_0 := cz BK220 0 (.int .i64 a0_0); have hcz28_1 := cz BK220 1 (.int .i64 a0_1); have hcz28_2 := cz BK220 2 (.int .i64 a0_2); have hcz28_3 := cz BK220 3 (.int .i64 a0_3); have hcz28_4 := cz BK220 4 (.int .i64 a0_4); have hcz28_5 := cz BK220 5 (.int .i64 a0_5); have hcz28_6 := cz BK220 6 (.int .i64 a0_6); have hfz28_0 := fz BK220 0; have hfz28_1 := fz BK220 1; have hfz28_2 := fz BK220 2; have hfz28_3 := fz BK220 3; have hfz28_4 := fz BK220 4; have hfz28_5 := fz BK220 5; have hfz28_6 := fz BK220 6) | ((with_reducible refine gate_callee (f := 44) rfl ?_); refine goesL_ (some 5) rfl rfl Try.func44 (by kernel_rfl) rfl #[.int .i64 a0_0] rfl aE ?_; (with_reducible refine (impl_isFar.calls a0_0 false _ A2.out).mono ?_); rintro e w' ⟨rfl, ⟨nd, rfl⟩⟩; refine ⟨_, rfl, ?_⟩))
  go_ret
  exact ⟨eE, lV1 GE220⟩
def impl_isSeed.f (a0 : Int) : Option (Bool) := (impl_inRange.f a0 0 2147483647).bind fun t228 => (some t228)
set_option maxHeartbeats 8000000 in
set_option maxRecDepth 100000 in
theorem impl_isSeed.calls (a0 : Int) (r : Bool) (w : World) (h : impl_isSeed.f a0 = some r) :
  Calls Try.prog 45 #[.int .i64 a0] w fun e w' => e = .returned (.bool r) ∧ Drawn0 w w' := by
 have H : ((impl_inRange.f a0 0 2147483647).bind fun t228 => (some t228)) = some r := h
 clear h
 replace H := Option.bind_eq_some_iff.mp H
 obtain ⟨t228, A20, H⟩ := H
 replace H : (some t228) = some r := H
 have A2 := Aside0.mk A20
 clear A20
 obtain rfl := Option.some.inj H
 go_enter Try.func45, Try.ntmps45
 go_wp2_with (first | ((with_reducible refine gate_callee (f := 32) rfl ?_); refine goesL_ (some 4) rfl rfl Try.func32 (by kernel_rfl) rfl #[.int .i64 a0, .int .i64 0, .int .i64 2147483647] rfl aE ?_; (with_reducible refine (impl_inRange.calls a0 0 2147483647 t228 _ A2.out).mono ?_); rintro e w' ⟨rfl, ⟨nd, rfl⟩⟩; refine ⟨_, rfl, ?_⟩))
 go_ret
 exact ⟨by first | rfl | (simp; done) | (simp [*]; done) | exact not_isEmpty _ | exact (not_isEmpty _).symm | exact is_empty _ | exact (is_empty _).symm, by repeat (first | exact Drawn0.refl _ | apply Drawn0.step)⟩
def impl_GoodFixed.f (a0 : Int) : Option (Bool) := (impl_inRange.f a0 (-1099511627776) 1099511627776).bind fun t229 => (some t229)
set_option maxHeartbeats 8000000 in
set_option maxRecDepth 100000 in
theorem impl_GoodFixed.calls (a0 : Int) (r : Bool) (w : World) (h : impl_GoodFixed.f a0 = some r) :
  Calls Try.prog 56 #[.int .i64 a0] w fun e w' => e = .returned (.bool r) ∧ Drawn0 w w' := by
 have H : ((impl_inRange.f a0 (-1099511627776) 1099511627776).bind fun t229 => (some t229)) = some r := h
 clear h
 replace H := Option.bind_eq_some_iff.mp H
 obtain ⟨t229, A20, H⟩ := H
 replace H : (some t229) = some r := H
 have A2 := Aside0.mk A20
 clear A20
 obtain rfl := Option.some.inj H
 go_enter Try.func56, Try.ntmps56
 go_wp2_with (first | ((with_reducible refine gate_callee (f := 32) rfl ?_); refine goesL_ (some 4) rfl rfl Try.func32 (by kernel_rfl) rfl #[.int .i64 a0, .int .i64 (-1099511627776), .int .i64 1099511627776] rfl aE ?_; (with_reducible refine (impl_inRange.calls a0 (-1099511627776) 1099511627776 t229 _ A2.out).mono ?_); rintro e w' ⟨rfl, ⟨nd, rfl⟩⟩; refine ⟨_, rfl, ?_⟩))
 go_ret
 exact ⟨by first | rfl | (simp; done) | (simp [*]; done) | exact not_isEmpty _ | exact (not_isEmpty _).symm | exact is_empty _ | exact (is_empty _).symm, by repeat (first | exact Drawn0.refl _ | apply Drawn0.step)⟩
end Go.Proofs.Ythgfobcckoedaaa.PFnExactSparksAt
