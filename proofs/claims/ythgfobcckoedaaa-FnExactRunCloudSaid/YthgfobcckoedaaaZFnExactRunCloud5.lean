/- Texts of the row of the law FnExactRunCloud, laid together. -/
import Derived.Test.YthgfobcckoedaaaZFnExactRunCloud3
import Derived.Test.YthgfobcckoedaaaZFnExactRunCloud4
namespace Go.Proofs.Ythgfobcckoedaaa.PFnExactRunCloud
open Go.RowKit Go.Proofs.YthgfobcckoedaaaW.PrintWords Go.Proofs.YthgfobcckoedaaaW.PrintLast Go.Proofs.YthgfobcckoedaaaW.PrintMore
attribute [local go_sem] max2_int min2_int max_two min_two max_three min_three max_four min_four   -- for this text's walks alone
set_option linter.unusedVariables false
set_option linter.unusedSimpArgs false
mutual
def spec_StepCloud.j0 : Nat → Bool → Int → Int → Int → Int → Int → Int → Int → Int → Int → List (S48) → Option (Int × Int × (List (S48)) × Bool)
 | 0, _, _, _, _, _, _, _, _, _, _, _ => none
 | k + 1, x27, x213000, x213001, x213002, x213003, x213004, x213005, x213006, x214000, x214001, x214002 => if x27 = true then (some (0, 0, ([] : List (S48)), false)) else (spec_StepCloud.l0 k x214002 (x214002.length : Int) 0 x213000 x213001 x213002 x213003 x213004 x213005 x213006 x214000 x214001 x214002 x214000 (wrap64 (x214001 + 1)) ([] : List (S48)))
def spec_StepCloud.l0 : Nat → List (S48) → Int → Int → Int → Int → Int → Int → Int → Int → Int → Int → Int → List (S48) → Int → Int → List (S48) → Option (Int × Int × (List (S48)) × Bool)
 | 0, _, _, _, _, _, _, _, _, _, _, _, _, _, _, _, _ => none
 | k + 1, x36, x37, x38, x213000, x213001, x213002, x213003, x213004, x213005, x213006, x214000, x214001, x214002, x218000, x218001, x218002 => if x38 < x37 then (if 0 ≤ x38 then (if x38 < (x36.length : Int) then (if (wrap64 (((rd_T48 x36 x38).f4) - 1)) = 0 then (spec_StepCloud.l0 k x36 x37 (wrap64 (x38 + 1)) x213000 x213001 x213002 x213003 x213004 x213005 x213006 x214000 x214001 x214002 x218000 x218001 x218002) else (if x218002.length < 3518437208883 then (spec_StepCloud.l0 k x36 x37 (wrap64 (x38 + 1)) x213000 x213001 x213002 x213003 x213004 x213005 x213006 x214000 x214001 x214002 x218000 x218001 (x218002 ++ [(⟨wrap64 (((rd_T48 x36 x38).f0) + ((rd_T48 x36 x38).f2)), wrap64 (((rd_T48 x36 x38).f1) + ((rd_T48 x36 x38).f3)), (rd_T48 x36 x38).f2, wrap64 (((rd_T48 x36 x38).f3) - x213006), wrap64 (((rd_T48 x36 x38).f4) - 1)⟩ : S48)])) else (none))) else (none)) else (none)) else (if x213002 = 0 then (none) else (if (Int.tmod x214001 x213002) = 0 then (spec_StepCloud.l1 k 0 x213000 x213001 x213002 x213003 x213004 x213005 x213006 x218000 x218001 x218002) else ((spec_GoodCloud.f k x218000 x218001 x218002).bind fun t235 => (if t235 = true then (some (x218000, x218001, x218002, true)) else (some (0, 0, ([] : List (S48)), false))))))
def spec_StepCloud.l1 : Nat → Int → Int → Int → Int → Int → Int → Int → Int → Int → Int → List (S48) → Option (Int × Int × (List (S48)) × Bool)
 | 0, _, _, _, _, _, _, _, _, _, _, _ => none
 | k + 1, x9, x213000, x213001, x213002, x213003, x213004, x213005, x213006, x218000, x218001, x218002 => if x9 < x213003 then (spec_StepCloud.j3 k x9 (decide ((x218002.length : Int) < 60)) x213000 x213001 x213002 x213003 x213004 x213005 x213006 x218000 x218001 x218002) else (spec_StepCloud.j3 k x9 false x213000 x213001 x213002 x213003 x213004 x213005 x213006 x218000 x218001 x218002)
def spec_StepCloud.j3 : Nat → Int → Bool → Int → Int → Int → Int → Int → Int → Int → Int → Int → List (S48) → Option (Int × Int × (List (S48)) × Bool)
 | 0, _, _, _, _, _, _, _, _, _, _, _, _ => none
 | k + 1, x9, x89, x213000, x213001, x213002, x213003, x213004, x213005, x213006, x218000, x218001, x218002 => if x89 = true then ((spec_l1Coin.f x218000).bind fun bt224 => ((spec_l1Coin.f bt224.1).bind fun bt226 => ((spec_CosOf.f k (Int.tmod bt224.2 4096)).bind fun t228 => ((spec_FixMul.f k (wrap64 (Int.tdiv (wrap64 (x213005 * bt226.2)) 32768)) t228).bind fun t229 => ((spec_SinOf.f k (Int.tmod bt224.2 4096)).bind fun t230 => ((spec_FixMul.f k (wrap64 (Int.tdiv (wrap64 (x213005 * bt226.2)) 32768)) t230).bind fun t231 => (if x218002.length < 3518437208883 then (spec_StepCloud.l1 k (wrap64 (x9 + 1)) x213000 x213001 x213002 x213003 x213004 x213005 x213006 bt226.1 x218001 (x218002 ++ [(⟨x213000, x213001, t229, t231, x213004⟩ : S48)])) else (none)))))))) else ((spec_GoodCloud.f k x218000 x218001 x218002).bind fun t223 => (if t223 = true then (some (x218000, x218001, x218002, true)) else (some (0, 0, ([] : List (S48)), false))))
end
def spec_StepCloud.f (k : Nat) (a0_0 : Int) (a0_1 : Int) (a0_2 : Int) (a0_3 : Int) (a0_4 : Int) (a0_5 : Int) (a0_6 : Int) (a1_0 : Int) (a1_1 : Int) (l1_2 : List (S48)) : Option (Int × Int × (List (S48)) × Bool) := (spec_GoodEmitter.f a0_0 a0_1 a0_2 a0_3 a0_4 a0_5 a0_6).bind fun t215 => (if t215 = true then ((spec_GoodCloud.f k a1_0 a1_1 l1_2).bind fun t216 => (if t216 = true then (spec_StepCloud.j0 k (a1_1 == 200) a0_0 a0_1 a0_2 a0_3 a0_4 a0_5 a0_6 a1_0 a1_1 l1_2) else (spec_StepCloud.j0 k true a0_0 a0_1 a0_2 a0_3 a0_4 a0_5 a0_6 a1_0 a1_1 l1_2))) else (spec_StepCloud.j0 k true a0_0 a0_1 a0_2 a0_3 a0_4 a0_5 a0_6 a1_0 a1_1 l1_2))
theorem spec_StepCloud.mono_l : ∀ k, (∀ y0 y1 y2 y3 y4 y5 y6 y7 y8 y9 y10, LeO (spec_StepCloud.j0 k y0 y1 y2 y3 y4 y5 y6 y7 y8 y9 y10) (spec_StepCloud.j0 (k + 1) y0 y1 y2 y3 y4 y5 y6 y7 y8 y9 y10)) ∧ (∀ y0 y1 y2 y3 y4 y5 y6 y7 y8 y9 y10 y11 y12 y13 y14 y15, LeO (spec_StepCloud.l0 k y0 y1 y2 y3 y4 y5 y6 y7 y8 y9 y10 y11 y12 y13 y14 y15) (spec_StepCloud.l0 (k + 1) y0 y1 y2 y3 y4 y5 y6 y7 y8 y9 y10 y11 y12 y13 y14 y15)) ∧ (∀ y0 y1 y2 y3 y4 y5 y6 y7 y8 y9 y10, LeO (spec_StepCloud.l1 k y0 y1 y2 y3 y4 y5 y6 y7 y8 y9 y10) (spec_StepCloud.l1 (k + 1) y0 y1 y2 y3 y4 y5 y6 y7 y8 y9 y10)) ∧ (∀ y0 y1 y2 y3 y4 y5 y6 y7 y8 y9 y10 y11, LeO (spec_StepCloud.j3 k y0 y1 y2 y3 y4 y5 y6 y7 y8 y9 y10 y11) (spec_StepCloud.j3 (k + 1) y0 y1 y2 y3 y4 y5 y6 y7 y8 y9 y10 y11))
 | 0 => ⟨fun _ _ _ _ _ _ _ _ _ _ _ r h => by simp [spec_StepCloud.j0] at h, fun _ _ _ _ _ _ _ _ _ _ _ _ _ _ _ _ r h => by simp [spec_StepCloud.l0] at h, fun _ _ _ _ _ _ _ _ _ _ _ r h => by simp [spec_StepCloud.l1] at h, fun _ _ _ _ _ _ _ _ _ _ _ _ r h => by simp [spec_StepCloud.j3] at h⟩
 | k + 1 => by
  obtain ⟨ih0, ih1, ih2, ih3⟩ := spec_StepCloud.mono_l k
  refine ⟨?_, ?_, ?_, ?_⟩
  ·intro y0 y1 y2 y3 y4 y5 y6 y7 y8 y9 y10
   unfold spec_StepCloud.j0
   repeat' first
   | (with_reducible exact ih0 _ _ _ _ _ _ _ _ _ _ _)
   | (with_reducible exact ih1 _ _ _ _ _ _ _ _ _ _ _ _ _ _ _ _)
   | (with_reducible exact ih2 _ _ _ _ _ _ _ _ _ _ _)
   | (with_reducible exact ih3 _ _ _ _ _ _ _ _ _ _ _ _)
   | (with_reducible exact spec_CosOf.mono _ _)
   | (with_reducible exact spec_FixMul.mono _ _ _)
   | (with_reducible exact spec_GoodCloud.mono _ _ _ _)
   | (with_reducible exact spec_SinOf.mono _ _)
   | (with_reducible exact LeO.refl _)
   | (with_reducible exact LeO.none _)
   | (with_reducible refine LeO.ite ?_ ?_)
   | (with_reducible refine LeO.bind ?_ (fun _ => ?_))
   | exact ih0 _ _ _ _ _ _ _ _ _ _ _
   | exact ih1 _ _ _ _ _ _ _ _ _ _ _ _ _ _ _ _
   | exact ih2 _ _ _ _ _ _ _ _ _ _ _
   | exact ih3 _ _ _ _ _ _ _ _ _ _ _ _
   | exact spec_CosOf.mono _ _
   | exact spec_FixMul.mono _ _ _
   | exact spec_GoodCloud.mono _ _ _ _
   | exact spec_SinOf.mono _ _
   | exact LeO.none _
   | refine LeO.ite ?_ ?_
   | refine LeO.bind ?_ (fun _ => ?_)
  ·intro y0 y1 y2 y3 y4 y5 y6 y7 y8 y9 y10 y11 y12 y13 y14 y15
   unfold spec_StepCloud.l0
   repeat' first
   | (with_reducible exact ih0 _ _ _ _ _ _ _ _ _ _ _)
   | (with_reducible exact ih1 _ _ _ _ _ _ _ _ _ _ _ _ _ _ _ _)
   | (with_reducible exact ih2 _ _ _ _ _ _ _ _ _ _ _)
   | (with_reducible exact ih3 _ _ _ _ _ _ _ _ _ _ _ _)
   | (with_reducible exact spec_CosOf.mono _ _)
   | (with_reducible exact spec_FixMul.mono _ _ _)
   | (with_reducible exact spec_GoodCloud.mono _ _ _ _)
   | (with_reducible exact spec_SinOf.mono _ _)
   | (with_reducible exact LeO.refl _)
   | (with_reducible exact LeO.none _)
   | (with_reducible refine LeO.ite ?_ ?_)
   | (with_reducible refine LeO.bind ?_ (fun _ => ?_))
   | exact ih0 _ _ _ _ _ _ _ _ _ _ _
   | exact ih1 _ _ _ _ _ _ _ _ _ _ _ _ _ _ _ _
   | exact ih2 _ _ _ _ _ _ _ _ _ _ _
   | exact ih3 _ _ _ _ _ _ _ _ _ _ _ _
   | exact spec_CosOf.mono _ _
   | exact spec_FixMul.mono _ _ _
   | exact spec_GoodCloud.mono _ _ _ _
   | exact spec_SinOf.mono _ _
   | exact LeO.none _
   | refine LeO.ite ?_ ?_
   | refine LeO.bind ?_ (fun _ => ?_)
  ·intro y0 y1 y2 y3 y4 y5 y6 y7 y8 y9 y10
   unfold spec_StepCloud.l1
   repeat' first
   | (with_reducible exact ih0 _ _ _ _ _ _ _ _ _ _ _)
   | (with_reducible exact ih1 _ _ _ _ _ _ _ _ _ _ _ _ _ _ _ _)
   | (with_reducible exact ih2 _ _ _ _ _ _ _ _ _ _ _)
   | (with_reducible exact ih3 _ _ _ _ _ _ _ _ _ _ _ _)
   | (with_reducible exact spec_CosOf.mono _ _)
   | (with_reducible exact spec_FixMul.mono _ _ _)
   | (with_reducible exact spec_GoodCloud.mono _ _ _ _)
   | (with_reducible exact spec_SinOf.mono _ _)
   | (with_reducible exact LeO.refl _)
   | (with_reducible exact LeO.none _)
   | (with_reducible refine LeO.ite ?_ ?_)
   | (with_reducible refine LeO.bind ?_ (fun _ => ?_))
   | exact ih0 _ _ _ _ _ _ _ _ _ _ _
   | exact ih1 _ _ _ _ _ _ _ _ _ _ _ _ _ _ _ _
   | exact ih2 _ _ _ _ _ _ _ _ _ _ _
   | exact ih3 _ _ _ _ _ _ _ _ _ _ _ _
   | exact spec_CosOf.mono _ _
   | exact spec_FixMul.mono _ _ _
   | exact spec_GoodCloud.mono _ _ _ _
   | exact spec_SinOf.mono _ _
   | exact LeO.none _
   | refine LeO.ite ?_ ?_
   | refine LeO.bind ?_ (fun _ => ?_)
  ·intro y0 y1 y2 y3 y4 y5 y6 y7 y8 y9 y10 y11
   unfold spec_StepCloud.j3
   repeat' first
   | (with_reducible exact ih0 _ _ _ _ _ _ _ _ _ _ _)
   | (with_reducible exact ih1 _ _ _ _ _ _ _ _ _ _ _ _ _ _ _ _)
   | (with_reducible exact ih2 _ _ _ _ _ _ _ _ _ _ _)
   | (with_reducible exact ih3 _ _ _ _ _ _ _ _ _ _ _ _)
   | (with_reducible exact spec_CosOf.mono _ _)
   | (with_reducible exact spec_FixMul.mono _ _ _)
   | (with_reducible exact spec_GoodCloud.mono _ _ _ _)
   | (with_reducible exact spec_SinOf.mono _ _)
   | (with_reducible exact LeO.refl _)
   | (with_reducible exact LeO.none _)
   | (with_reducible refine LeO.ite ?_ ?_)
   | (with_reducible refine LeO.bind ?_ (fun _ => ?_))
   | exact ih0 _ _ _ _ _ _ _ _ _ _ _
   | exact ih1 _ _ _ _ _ _ _ _ _ _ _ _ _ _ _ _
   | exact ih2 _ _ _ _ _ _ _ _ _ _ _
   | exact ih3 _ _ _ _ _ _ _ _ _ _ _ _
   | exact spec_CosOf.mono _ _
   | exact spec_FixMul.mono _ _ _
   | exact spec_GoodCloud.mono _ _ _ _
   | exact spec_SinOf.mono _ _
   | exact LeO.none _
   | refine LeO.ite ?_ ?_
   | refine LeO.bind ?_ (fun _ => ?_)
theorem spec_StepCloud.mono : ∀ a0 a1 a2 a3 a4 a5 a6 a7 a8 a9 k, LeO (spec_StepCloud.f k a0 a1 a2 a3 a4 a5 a6 a7 a8 a9) (spec_StepCloud.f (k + 1) a0 a1 a2 a3 a4 a5 a6 a7 a8 a9) := by
 intro a0 a1 a2 a3 a4 a5 a6 a7 a8 a9 k
 obtain ⟨ih0, ih1, ih2, ih3⟩ := spec_StepCloud.mono_l k
 unfold spec_StepCloud.f
 repeat' first
   | (with_reducible exact ih0 _ _ _ _ _ _ _ _ _ _ _)
   | (with_reducible exact ih1 _ _ _ _ _ _ _ _ _ _ _ _ _ _ _ _)
   | (with_reducible exact ih2 _ _ _ _ _ _ _ _ _ _ _)
   | (with_reducible exact ih3 _ _ _ _ _ _ _ _ _ _ _ _)
   | (with_reducible exact spec_CosOf.mono _ _)
   | (with_reducible exact spec_FixMul.mono _ _ _)
   | (with_reducible exact spec_GoodCloud.mono _ _ _ _)
   | (with_reducible exact spec_SinOf.mono _ _)
   | (with_reducible exact LeO.refl _)
   | (with_reducible exact LeO.none _)
   | (with_reducible refine LeO.ite ?_ ?_)
   | (with_reducible refine LeO.bind ?_ (fun _ => ?_))
   | exact ih0 _ _ _ _ _ _ _ _ _ _ _
   | exact ih1 _ _ _ _ _ _ _ _ _ _ _ _ _ _ _ _
   | exact ih2 _ _ _ _ _ _ _ _ _ _ _
   | exact ih3 _ _ _ _ _ _ _ _ _ _ _ _
   | exact spec_CosOf.mono _ _
   | exact spec_FixMul.mono _ _ _
   | exact spec_GoodCloud.mono _ _ _ _
   | exact spec_SinOf.mono _ _
   | exact LeO.none _
   | refine LeO.ite ?_ ?_
   | refine LeO.bind ?_ (fun _ => ?_)
def spec_StepCloud.T22 : Bool × List (List Nat × List Nat) := (true, [([], []), ([0], [0]), ([], []), ([2], [2]), ([], []), ([4], [4]), ([], []), ([], []), ([7], [7]), ([8], [8]), ([6, 9, 9], [6, 9]), ([], []), ([], []), ([12], [12]), ([13, 10], [13]), ([11, 14, 14], [11, 14]), ([], []), ([16], [16]), ([3, 5, 10, 15, 17], [3, 5, 10, 15, 17]), ([18], [18]), ([1, 19, 15], [1, 19]), ([0, 1, 2, 3, 4, 5, 6, 7, 8, 9, 10, 11, 12, 13, 14, 15, 16, 17, 18, 19, 20], []), ([21, 20, 20, 0, 1, 2, 3, 4, 5, 6, 7, 8, 9, 10, 11, 12, 13, 14, 15, 16, 17, 18, 19, 20], [20, 21])])
def spec_StepCloud.B22 : List Nat := [0, 1, 0, 4, 0, 16, 0, 0, 128, 384, 960, 0, 0, 4096, 14272, 32704, 0, 65536, 262140, 524284, 1048575, 2097151, 4194303]
theorem spec_StepCloud.tab22 : rtab .any (opsOf Try.f10 22) = spec_StepCloud.T22 := by kernel_rfl
theorem spec_StepCloud.bits22 : waitsOk spec_StepCloud.T22.2 spec_StepCloud.B22 = true := by kernel_rfl
set_option maxHeartbeats 8000000 in
set_option maxRecDepth 100000 in
theorem spec_StepCloud.calls (k : Nat) (a0_0 : Int) (a0_1 : Int) (a0_2 : Int) (a0_3 : Int) (a0_4 : Int) (a0_5 : Int) (a0_6 : Int) (a1_0 : Int) (a1_1 : Int) (A1_2 : Option Addr) (c1_2 : Nat) (l1_2 : List (S48)) (r1 : Int) (r2 : Int) (r3 : List (S48)) (r4 : Bool) (w : World) (hr1_2 : Kd.C k48 w A1_2 l1_2.length l1_2) (hc1_2 : l1_2.length ≤ c1_2) (h : spec_StepCloud.f k a0_0 a0_1 a0_2 a0_3 a0_4 a0_5 a0_6 a1_0 a1_1 l1_2 = some (r1, r2, r3, r4)) :
  Calls Try.prog 10 #[.agg #[.int .i64 a0_0, .int .i64 a0_1, .int .i64 a0_2, .int .i64 a0_3, .int .i64 a0_4, .int .i64 a0_5, .int .i64 a0_6], .agg #[.int .i64 a1_0, .int .i64 a1_1, .slice A1_2 l1_2.length c1_2]] w fun e w' => ∃ v2_ : Value, e = .returned (.tuple #[.agg #[.int .i64 r1, .int .i64 r2, v2_], .bool r4]) ∧ Kd.R k48 48 w' w.heap.size (fun _ => True) v2_ r3 ∧ Below w.heap.size w w' := by
 have hu26 := Try.underlying26
 have hu35 := Try.underlying35
 have hu48 := Try.underlying48
 have HR1_2 := Aside0.mk hr1_2
 have HC1_2 := Aside0.mk hc1_2
 clear hr1_2 hc1_2
 have HB := Aside0.mk (Below.refl w.heap.size w)
 have H : ((spec_GoodEmitter.f a0_0 a0_1 a0_2 a0_3 a0_4 a0_5 a0_6).bind fun t215 => (if t215 = true then ((spec_GoodCloud.f k a1_0 a1_1 l1_2).bind fun t216 => (if t216 = true then (spec_StepCloud.j0 k (a1_1 == 200) a0_0 a0_1 a0_2 a0_3 a0_4 a0_5 a0_6 a1_0 a1_1 l1_2) else (spec_StepCloud.j0 k true a0_0 a0_1 a0_2 a0_3 a0_4 a0_5 a0_6 a1_0 a1_1 l1_2))) else (spec_StepCloud.j0 k true a0_0 a0_1 a0_2 a0_3 a0_4 a0_5 a0_6 a1_0 a1_1 l1_2))) = some (r1, r2, r3, r4) := h
 clear h
 have HC3 := Aside0.mk H
 clear H
 go_enter Try.func10, Try.ntmps10
 go_upto_region 1 with (first | ((with_reducible refine gate_dst (N := 2) rfl ?_); (try (refine gate_guard (by rfl) ?_; dsimp only)); refine box_event rfl (N := 2) rfl (cs := #[.int .i64 a0_0, .int .i64 a0_1, .int .i64 a0_2, .int .i64 a0_3, .int .i64 a0_4, .int .i64 a0_5, .int .i64 a0_6]) (t := 26) sE ?_; intro gb212 hg w4 hbox hb; have BK212 := Aside0.mk hbox; have GW212 := gS w hg (lU); have GE212 := GW212; replace HB := bH (lU) hb; clear hb hbox hg) | ((with_reducible refine gate_dst (N := 3) rfl ?_); (try (refine gate_guard (by rfl) ?_; dsimp only)); refine box_event rfl (N := 3) rfl (cs := #[.int .i64 a1_0, .int .i64 a1_1, .slice A1_2 l1_2.length c1_2]) (t := 35) sE ?_; intro gb213 hg w5 hbox hb; have BK213 := Aside0.mk hbox; have GW213 := gS w hg (lV1 GE212); have GE213 := GW213; replace HB := bH (lV1 GE212) hb; have NB212_213 := nL hg (bV BK212); have NB213_212 := nG hg (bV BK212); replace BK212 := bB (bV BK212) hb; clear hb hbox hg) | ((with_reducible refine gate_dst (N := 4) rfl ?_); (try (refine gate_guard (by rfl) ?_; dsimp only)); refine box_event rfl (N := 4) rfl (cs := #[.int .i64 0, .int .i64 0, .slice none 0 0]) (t := 35) sE ?_; intro gb214 hg w6 hbox hb; have BK214 := Aside0.mk hbox; have GW214 := gS w hg (lV2 GE212 GE213); have GE214 := GW214; replace HB := bH (lV2 GE212 GE213) hb; have NB212_214 := nL hg (bV BK212); have NB214_212 := nG hg (bV BK212); replace BK212 := bB (bV BK212) hb; have NB213_214 := nL hg (bV BK213); have NB214_213 := nG hg (bV BK213); replace BK213 := bB (bV BK213) hb; clear hb hbox hg))
 (try simp only [Act.put, List.setIfInBounds_toArray, List.set_cons_zero, List.set_cons_succ])
 go_cut [27] (fun v27 wc => ∃ (kq : Nat) (x27_2 : Bool), v27 = .bool x27_2 ∧ Aside0 (spec_StepCloud.j0 kq x27_2 a0_0 a0_1 a0_2 a0_3 a0_4 a0_5 a0_6 a1_0 a1_1 l1_2 = some (r1, r2, r3, r4)) ∧ Aside0 (kq ≤ k) ∧ Aside0 (wc.heap[gb212]? = some (.cells #[.int .i64 a0_0, .int .i64 a0_1, .int .i64 a0_2, .int .i64 a0_3, .int .i64 a0_4, .int .i64 a0_5, .int .i64 a0_6] 26 (0, 0))) ∧ Aside0 (wc.heap[gb213]? = some (.cells #[.int .i64 a1_0, .int .i64 a1_1, (.slice A1_2 l1_2.length c1_2)] 35 (0, 0))) ∧ Aside0 (wc.heap[gb214]? = some (.cells #[.int .i64 0, .int .i64 0, (.slice none 0 0)] 35 (0, 0))) ∧ Aside0 (Below w.heap.size w wc))
 case first =>
  have H := HC3.out
  clear HC3
  replace H := Option.bind_eq_some_iff.mp H
  obtain ⟨t215, A70, H⟩ := H
  replace H : (if t215 = true then ((spec_GoodCloud.f k a1_0 a1_1 l1_2).bind fun t216 => (if t216 = true then (spec_StepCloud.j0 k (a1_1 == 200) a0_0 a0_1 a0_2 a0_3 a0_4 a0_5 a0_6 a1_0 a1_1 l1_2) else (spec_StepCloud.j0 k true a0_0 a0_1 a0_2 a0_3 a0_4 a0_5 a0_6 a1_0 a1_1 l1_2))) else (spec_StepCloud.j0 k true a0_0 a0_1 a0_2 a0_3 a0_4 a0_5 a0_6 a1_0 a1_1 l1_2)) = some (r1, r2, r3, r4) := H
  have A7 := Aside0.mk A70
  clear A70
  by_cases c8 : t215 = true
  ·subst c8
   have H1 : ((spec_GoodCloud.f k a1_0 a1_1 l1_2).bind fun t216 => (if t216 = true then (spec_StepCloud.j0 k (a1_1 == 200) a0_0 a0_1 a0_2 a0_3 a0_4 a0_5 a0_6 a1_0 a1_1 l1_2) else (spec_StepCloud.j0 k true a0_0 a0_1 a0_2 a0_3 a0_4 a0_5 a0_6 a1_0 a1_1 l1_2))) = some (r1, r2, r3, r4) := by rw [if_pos rfl] at H; exact H
   clear H
   have H := H1
   clear H1
   replace H := Option.bind_eq_some_iff.mp H
   obtain ⟨t216, A90, H⟩ := H
   replace H : (if t216 = true then (spec_StepCloud.j0 k (a1_1 == 200) a0_0 a0_1 a0_2 a0_3 a0_4 a0_5 a0_6 a1_0 a1_1 l1_2) else (spec_StepCloud.j0 k true a0_0 a0_1 a0_2 a0_3 a0_4 a0_5 a0_6 a1_0 a1_1 l1_2)) = some (r1, r2, r3, r4) := H
   have A9 := Aside0.mk A90
   clear A90
   by_cases c10 : t216 = true
   ·subst c10
    have H1 : (spec_StepCloud.j0 k (a1_1 == 200) a0_0 a0_1 a0_2 a0_3 a0_4 a0_5 a0_6 a1_0 a1_1 l1_2) = some (r1, r2, r3, r4) := by rw [if_pos rfl] at H; exact H
    clear H
    have H := H1
    clear H1
    have H' := Aside0.mk H
    clear H
    have hnb11 := NB212_213.out
    have hnc11 := NB213_212.out
    have hnb12 := NB212_214.out
    have hnc12 := NB214_212.out
    have hcz13_0 := cz BK212 0 (.int .i64 a0_0)
    have hcz13_1 := cz BK212 1 (.int .i64 a0_1)
    have hcz13_2 := cz BK212 2 (.int .i64 a0_2)
    have hcz13_3 := cz BK212 3 (.int .i64 a0_3)
    have hcz13_4 := cz BK212 4 (.int .i64 a0_4)
    have hcz13_5 := cz BK212 5 (.int .i64 a0_5)
    have hcz13_6 := cz BK212 6 (.int .i64 a0_6)
    have hfz13_0 := fz BK212 0
    have hfz13_1 := fz BK212 1
    have hfz13_2 := fz BK212 2
    have hfz13_3 := fz BK212 3
    have hfz13_4 := fz BK212 4
    have hfz13_5 := fz BK212 5
    have hfz13_6 := fz BK212 6
    go_wp2_with (first | ((with_reducible refine gate_callee (f := 19) rfl ?_); refine goesL_ (some 16) rfl rfl Try.func19 (by kernel_rfl) rfl #[.agg #[.int .i64 a0_0, .int .i64 a0_1, .int .i64 a0_2, .int .i64 a0_3, .int .i64 a0_4, .int .i64 a0_5, .int .i64 a0_6]] rfl aE ?_; (with_reducible refine (spec_GoodEmitter.calls a0_0 a0_1 a0_2 a0_3 a0_4 a0_5 a0_6 true _ A7.out).mono ?_); rintro e w14 ⟨rfl, hb⟩; refine ⟨_, rfl, ?_⟩; replace BK212 := bB (bV BK212) hb; replace BK213 := bB (bV BK213) hb; replace BK214 := bB (bV BK214) hb; replace HB := bH (lV3 GE212 GE213 GE214) hb; (try clear hb); have hnb15 := NB213_214.out; have hnc15 := NB214_213.out; have hcz16_0 := cz BK213 0 (.int .i64 a1_0); have hcz16_1 := cz BK213 1 (.int .i64 a1_1); have hcz16_2 := cz BK213 2 (.slice A1_2 l1_2.length c1_2); have hfz16_0 := fz BK213 0; have hfz16_1 := fz BK213 1; have hfz16_2 := fz BK213 2) | (go_at_call 20; (with_reducible refine (spec_GoodCloud.calls k a1_0 a1_1 _ _ l1_2 true _ ?side1 ?side2 A9.out).mono ?_); (case side1 => exact cU (Kd.C_below HR1_2.out HB.out)); (case side2 => exact HC1_2.out); rintro e w17 ⟨rfl, hb⟩; replace BK212 := bB (bV BK212) hb; replace BK213 := bB (bV BK213) hb; replace BK214 := bB (bV BK214) hb; replace HB := bH (lV3 GE212 GE213 GE214) hb; (try clear hb); have hcz18_0 := cz BK213 0 (.int .i64 a1_0); have hcz18_1 := cz BK213 1 (.int .i64 a1_1); have hcz18_2 := cz BK213 2 (.slice A1_2 l1_2.length c1_2); have hfz18_0 := fz BK213 0; have hfz18_1 := fz BK213 1; have hfz18_2 := fz BK213 2))
    go_meet
    case rel => exact ⟨_, ((a1_1 == 200)), tE, H', ⟨by first | omega | exact Nat.le_refl _⟩, ⟨by refine bU ?_; exact BK212.out⟩, ⟨by refine bU ?_; exact BK213.out⟩, ⟨by refine bU ?_; exact BK214.out⟩, ⟨by repeat (first | (with_reducible first | exact HB.out | apply below_alloc | apply pw_below_drewN | apply below_drew1 | refine below_set ?_ GE212.out | refine below_set ?_ GE213.out | refine below_set ?_ GE214.out) | exact HB.out)⟩⟩
   ·replace c10 := Bool.eq_false_iff.mpr c10
    subst c10
    have H1 : (spec_StepCloud.j0 k true a0_0 a0_1 a0_2 a0_3 a0_4 a0_5 a0_6 a1_0 a1_1 l1_2) = some (r1, r2, r3, r4) := by rw [if_neg (show ¬ (false = true) by decide)] at H; exact H
    clear H
    have H := H1
    clear H1
    have H' := Aside0.mk H
    clear H
    have hnb19 := NB212_213.out
    have hnc19 := NB213_212.out
    have hnb20 := NB212_214.out
    have hnc20 := NB214_212.out
    have hcz21_0 := cz BK212 0 (.int .i64 a0_0)
    have hcz21_1 := cz BK212 1 (.int .i64 a0_1)
    have hcz21_2 := cz BK212 2 (.int .i64 a0_2)
    have hcz21_3 := cz BK212 3 (.int .i64 a0_3)
    have hcz21_4 := cz BK212 4 (.int .i64 a0_4)
    have hcz21_5 := cz BK212 5 (.int .i64 a0_5)
    have hcz21_6 := cz BK212 6 (.int .i64 a0_6)
    have hfz21_0 := fz BK212 0
    have hfz21_1 := fz BK212 1
    have hfz21_2 := fz BK212 2
    have hfz21_3 := fz BK212 3
    have hfz21_4 := fz BK212 4
    have hfz21_5 := fz BK212 5
    have hfz21_6 := fz BK212 6
    go_wp2_with (first | ((with_reducible refine gate_callee (f := 19) rfl ?_); refine goesL_ (some 16) rfl rfl Try.func19 (by kernel_rfl) rfl #[.agg #[.int .i64 a0_0, .int .i64 a0_1, .int .i64 a0_2, .int .i64 a0_3, .int .i64 a0_4, .int .i64 a0_5, .int .i64 a0_6]] rfl aE ?_; (with_reducible refine (spec_GoodEmitter.calls a0_0 a0_1 a0_2 a0_3 a0_4 a0_5 a0_6 true _ A7.out).mono ?_); rintro e w22 ⟨rfl, hb⟩; refine ⟨_, rfl, ?_⟩; replace BK212 := bB (bV BK212) hb; replace BK213 := bB (bV BK213) hb; replace BK214 := bB (bV BK214) hb; replace HB := bH (lV3 GE212 GE213 GE214) hb; (try clear hb); have hnb23 := NB213_214.out; have hnc23 := NB214_213.out; have hcz24_0 := cz BK213 0 (.int .i64 a1_0); have hcz24_1 := cz BK213 1 (.int .i64 a1_1); have hcz24_2 := cz BK213 2 (.slice A1_2 l1_2.length c1_2); have hfz24_0 := fz BK213 0; have hfz24_1 := fz BK213 1; have hfz24_2 := fz BK213 2) | (go_at_call 20; (with_reducible refine (spec_GoodCloud.calls k a1_0 a1_1 _ _ l1_2 false _ ?side1 ?side2 A9.out).mono ?_); (case side1 => exact cU (Kd.C_below HR1_2.out HB.out)); (case side2 => exact HC1_2.out); rintro e w25 ⟨rfl, hb⟩; replace BK212 := bB (bV BK212) hb; replace BK213 := bB (bV BK213) hb; replace BK214 := bB (bV BK214) hb; replace HB := bH (lV3 GE212 GE213 GE214) hb; (try clear hb)))
    go_meet
    case rel => exact ⟨_, (true), tE, H', ⟨by first | omega | exact Nat.le_refl _⟩, ⟨by refine bU ?_; exact BK212.out⟩, ⟨by refine bU ?_; exact BK213.out⟩, ⟨by refine bU ?_; exact BK214.out⟩, ⟨by repeat (first | (with_reducible first | exact HB.out | apply below_alloc | apply pw_below_drewN | apply below_drew1 | refine below_set ?_ GE212.out | refine below_set ?_ GE213.out | refine below_set ?_ GE214.out) | exact HB.out)⟩⟩
  ·replace c8 := Bool.eq_false_iff.mpr c8
   subst c8
   have H1 : (spec_StepCloud.j0 k true a0_0 a0_1 a0_2 a0_3 a0_4 a0_5 a0_6 a1_0 a1_1 l1_2) = some (r1, r2, r3, r4) := by rw [if_neg (show ¬ (false = true) by decide)] at H; exact H
   clear H
   have H := H1
   clear H1
   have H' := Aside0.mk H
   clear H
   have hnb26 := NB212_213.out
   have hnc26 := NB213_212.out
   have hnb27 := NB212_214.out
   have hnc27 := NB214_212.out
   have hcz28_0 := cz BK212 0 (.int .i64 a0_0)
   have hcz28_1 := cz BK212 1 (.int .i64 a0_1)
   have hcz28_2 := cz BK212 2 (.int .i64 a0_2)
   have hcz28_3 := cz BK212 3 (.int .i64 a0_3)
   have hcz28_4 := cz BK212 4 (.int .i64 a0_4)
   have hcz28_5 := cz BK212 5 (.int .i64 a0_5)
   have hcz28_6 := cz BK212 6 (.int .i64 a0_6)
   have hfz28_0 := fz BK212 0
   have hfz28_1 := fz BK212 1
   have hfz28_2 := fz BK212 2
   have hfz28_3 := fz BK212 3
   have hfz28_4 := fz BK212 4
   have hfz28_5 := fz BK212 5
   have hfz28_6 := fz BK212 6
   go_wp2_with (first | ((with_reducible refine gate_callee (f := 19) rfl ?_); refine goesL_ (some 16) rfl rfl Try.func19 (by kernel_rfl) rfl #[.agg #[.int .i64 a0_0, .int .i64 a0_1, .int .i64 a0_2, .int .i64 a0_3, .int .i64 a0_4, .int .i64 a0_5, .int .i64 a0_6]] rfl aE ?_; (with_reducible refine (spec_GoodEmitter.calls a0_0 a0_1 a0_2 a0_3 a0_4 a0_5 a0_6 false _ A7.out).mono ?_); rintro e w29 ⟨rfl, hb⟩; refine ⟨_, rfl, ?_⟩; replace BK212 := bB (bV BK212) hb; replace BK213 := bB (bV BK213) hb; replace BK214 := bB (bV BK214) hb; replace HB := bH (lV3 GE212 GE213 GE214) hb; (try clear hb)))
   go_meet
   case rel => exact ⟨_, (true), tE, H', ⟨by first | omega | exact Nat.le_refl _⟩, ⟨by refine bU ?_; exact BK212.out⟩, ⟨by refine bU ?_; exact BK213.out⟩, ⟨by refine bU ?_; exact BK214.out⟩, ⟨by repeat (first | (with_reducible first | exact HB.out | apply below_alloc | apply pw_below_drewN | apply below_drew1 | refine below_set ?_ GE212.out | refine below_set ?_ GE213.out | refine below_set ?_ GE214.out) | exact HB.out)⟩⟩
 case rest =>
  clear HC3
  try clear c1
  try clear c2
  try clear p2
  try clear c8
  try clear c10
  try clear c11
  try clear c12
  try clear c15
  try clear c19
  try clear c20
  try clear c23
  try clear c26
  try clear c27
  try clear hcz13_0
  try clear hcz13_1
  try clear hcz13_2
  try clear hcz13_3
  try clear hcz13_4
  try clear hcz13_5
  try clear hcz13_6
  try clear hcz16_0
  try clear hcz16_1
  try clear hcz16_2
  try clear hcz18_0
  try clear hcz18_1
  try clear hcz18_2
  try clear hcz21_0
  try clear hcz21_1
  try clear hcz21_2
  try clear hcz21_3
  try clear hcz21_4
  try clear hcz21_5
  try clear hcz21_6
  try clear hcz24_0
  try clear hcz24_1
  try clear hcz24_2
  try clear hcz28_0
  try clear hcz28_1
  try clear hcz28_2
  try clear hcz28_3
  try clear hcz28_4
  try clear hcz28_5
  try clear hcz28_6
  try clear hfz13_0
  try clear hfz13_1
  try clear hfz13_2
  try clear hfz13_3
  try clear hfz13_4
  try clear hfz13_5
  try clear hfz13_6
  try clear hfz16_0
  try clear hfz16_1
  try clear hfz16_2
  try clear hfz18_0
  try clear hfz18_1
  try clear hfz18_2
  try clear hfz21_0
  try clear hfz21_1
  try clear hfz21_2
  try clear hfz21_3
  try clear hfz21_4
  try clear hfz21_5
  try clear hfz21_6
  try clear hfz24_0
  try clear hfz24_1
  try clear hfz24_2
  try clear hfz28_0
  try clear hfz28_1
  try clear hfz28_2
  try clear hfz28_3
  try clear hfz28_4
  try clear hfz28_5
  try clear hfz28_6
  obtain ⟨kq, x27_2, rfl, HA, HJ2, BK212, BK213, BK214, HB⟩ := hcut
  cases kq with
  | zero => exact absurd HA.out (by simp [spec_StepCloud.j0])
  | succ kj2 =>
   have H := HA.out
   clear HA
   simp only [spec_StepCloud.j0] at H
   by_cases c30 : x27_2 = true
   ·subst c30
    have H1 : (some (0, 0, ([] : List (S48)), false)) = some (r1, r2, r3, r4) := by rw [if_pos rfl] at H; exact H
    clear H
    have H := H1
    clear H1
    simp only [Option.some.injEq, Prod.mk.injEq] at H
    obtain ⟨rfl, rfl, rfl, rfl⟩ := H
    have hnb31 := NB214_212.out
    have hnc31 := NB212_214.out
    have hnb32 := NB214_213.out
    have hnc32 := NB213_214.out
    have hcz33_0 := cz BK214 0 (.int .i64 0)
    have hcz33_1 := cz BK214 1 (.int .i64 0)
    have hcz33_2 := cz BK214 2 (.slice none 0 0)
    have hfz33_0 := fz BK214 0
    have hfz33_1 := fz BK214 1
    have hfz33_2 := fz BK214 2
    go_wp2_with (first | ((with_reducible refine gate_store (t := 35) (p := 4) rfl ?_); refine store_event (t := 35) (p := 4) (v := ?vo_w34) (w1 := (((wc.setCell ⟨gb214, 0, none⟩ (.int .i64 0)).setCell ⟨gb214, 1, none⟩ (.int .i64 0)).setCell ⟨gb214, 2, none⟩ (.slice none 0 0))) ?hg ?ho ?hn ?hr ?_; (case ho => rfl); (case hg => rfl); (case hn => rfl); (case hr => first | (go_simp; done) | (go_simp; rfl) | (have hq0_ := (blk_cell BK214.out 0).trans (show _ = some _ from rfl); have hf0_ := blk_frozen BK214.out 0; have hq1_ := (blk_cell BK214.out 1).trans (show _ = some _ from rfl); have hf1_ := blk_frozen BK214.out 1; have hq2_ := (blk_cell BK214.out 2).trans (show _ = some _ from rfl); have hf2_ := blk_frozen BK214.out 2; first | (go_simp; done) | (go_simp; rfl))); intro w34 hw; replace BK212 : Aside0 (w34.heap[gb212]? = some (.cells #[.int .i64 a0_0, .int .i64 a0_1, .int .i64 a0_2, .int .i64 a0_3, .int .i64 a0_4, .int .i64 a0_5, .int .i64 a0_6] 26 (0, 0))) := ⟨(by rw [hw]; exact (bG NB212_214 BK212))⟩; replace BK213 : Aside0 (w34.heap[gb213]? = some (.cells #[.int .i64 a1_0, .int .i64 a1_1, .slice A1_2 l1_2.length c1_2] 35 (0, 0))) := ⟨(by rw [hw]; exact (bG NB213_214 BK213))⟩; replace BK214 : Aside0 (w34.heap[gb214]? = some (.cells #[.int .i64 0, .int .i64 0, .slice none 0 0] 35 (0, 0))) := ⟨(by rw [hw]; exact (by refine bU ?_; refine blk_put (cs := #[.int .i64 0, .int .i64 0, .slice none 0 0]) ?_ 2 _ rfl; refine bU ?_; refine blk_put (cs := #[.int .i64 0, .int .i64 0, .slice none 0 0]) ?_ 1 _ rfl; refine bU ?_; refine blk_put (cs := #[.int .i64 0, .int .i64 0, .slice none 0 0]) ?_ 0 _ rfl; refine bU ?_; exact BK214.out))⟩; replace HB : Aside0 (Below w.heap.size w w34) := ⟨(by rw [hw]; exact (lV3 GE212 GE213 GE214))⟩; clear hw))
    refine bodyPost_ret (results_ct rfl _ _ gb214 35 #[.int .i64 0, .int .i64 0, .slice none 0 0] (0, 0) _ rfl (bV BK214) Try.underlying35 rfl (by kernel_rfl)) rfl ?_
    exact ⟨_, eE, by first | exact Kd.R_nil _ _ _ _ _ | exact Kd.N_nil _ _ _ _ _ | exact Kd.V_nil _ _ _ _ _ | exact Kd.Q_nil _ _ _ _ _ | exact Kd.S_nil _ _ _ _ _, lV3 GE212 GE213 GE214⟩
   ·replace c30 := Bool.eq_false_iff.mpr c30
    subst c30
    have H1 : (spec_StepCloud.l0 kj2 l1_2 (l1_2.length : Int) 0 a0_0 a0_1 a0_2 a0_3 a0_4 a0_5 a0_6 a1_0 a1_1 l1_2 a1_0 (wrap64 (a1_1 + 1)) ([] : List (S48))) = some (r1, r2, r3, r4) := by rw [if_neg (show ¬ (false = true) by decide)] at H; exact H
    clear H
    have H := H1
    clear H1
    have H' := Aside0.mk H
    clear H
    have hnb35 := NB213_212.out
    have hnc35 := NB212_213.out
    have hnb36 := NB213_214.out
    have hnc36 := NB214_213.out
    have hcz37_0 := cz BK213 0 (.int .i64 a1_0)
    have hcz37_1 := cz BK213 1 (.int .i64 a1_1)
    have hcz37_2 := cz BK213 2 (.slice A1_2 l1_2.length c1_2)
    have hfz37_0 := fz BK213 0
    have hfz37_1 := fz BK213 1
    have hfz37_2 := fz BK213 2
    go_wp2_with (first | ((with_reducible refine gate_dst (N := 6) rfl ?_); (try (refine gate_guard (by rfl) ?_; dsimp only)); refine box_event rfl (N := 6) rfl (cs := #[.int .i64 0, .int .i64 0, .slice none 0 0]) (t := 35) sE ?_; intro gb217 hg w38 hbox hb; have BK217 := Aside0.mk hbox; have GW217 := gS w hg (lV3 GE212 GE213 GE214); have GE217 := GW217; replace HB := bH (lV3 GE212 GE213 GE214) hb; have NB212_217 := nL hg (bV BK212); have NB217_212 := nG hg (bV BK212); replace BK212 := bB (bV BK212) hb; have NB213_217 := nL hg (bV BK213); have NB217_213 := nG hg (bV BK213); replace BK213 := bB (bV BK213) hb; have NB214_217 := nL hg (bV BK214); have NB217_214 := nG hg (bV BK214); replace BK214 := bB (bV BK214) hb; clear hb hbox hg; have hnb39 := NB217_212.out; have hnc39 := NB212_217.out; have hnb40 := NB217_213.out; have hnc40 := NB213_217.out; have hnb41 := NB217_214.out; have hnc41 := NB214_217.out; have hcz42_0 := cz BK217 0 (.int .i64 0); have hcz42_1 := cz BK217 1 (.int .i64 0); have hcz42_2 := cz BK217 2 (.slice none 0 0); have hfz42_0 := fz BK217 0; have hfz42_1 := fz BK217 1; have hfz42_2 := fz BK217 2) | ((with_reducible refine gate_store (t := 35) (p := 6) rfl ?_); refine store_event (t := 35) (p := 6) (v := ?vo_w43) (w1 := (((w38.setCell ⟨gb217, 0, none⟩ (.int .i64 a1_0)).setCell ⟨gb217, 1, none⟩ (.int .i64 (wrap64 (a1_1 + 1)))).setCell ⟨gb217, 2, none⟩ (.slice none 0 0))) ?hg ?ho ?hn ?hr ?_; (case ho => rfl); (case hg => rfl); (case hn => rfl); (case hr => first | (go_simp; done) | (go_simp; rfl) | (have hq0_ := (blk_cell BK217.out 0).trans (show _ = some _ from rfl); have hf0_ := blk_frozen BK217.out 0; have hq1_ := (blk_cell BK217.out 1).trans (show _ = some _ from rfl); have hf1_ := blk_frozen BK217.out 1; have hq2_ := (blk_cell BK217.out 2).trans (show _ = some _ from rfl); have hf2_ := blk_frozen BK217.out 2; first | (go_simp; done) | (go_simp; rfl))); intro w43 hw; replace BK212 : Aside0 (w43.heap[gb212]? = some (.cells #[.int .i64 a0_0, .int .i64 a0_1, .int .i64 a0_2, .int .i64 a0_3, .int .i64 a0_4, .int .i64 a0_5, .int .i64 a0_6] 26 (0, 0))) := ⟨(by rw [hw]; exact (bG NB212_217 BK212))⟩; replace BK213 : Aside0 (w43.heap[gb213]? = some (.cells #[.int .i64 a1_0, .int .i64 a1_1, .slice A1_2 l1_2.length c1_2] 35 (0, 0))) := ⟨(by rw [hw]; exact (bG NB213_217 BK213))⟩; replace BK214 : Aside0 (w43.heap[gb214]? = some (.cells #[.int .i64 0, .int .i64 0, .slice none 0 0] 35 (0, 0))) := ⟨(by rw [hw]; exact (bG NB214_217 BK214))⟩; replace BK217 : Aside0 (w43.heap[gb217]? = some (.cells #[.int .i64 a1_0, .int .i64 (wrap64 (a1_1 + 1)), .slice none 0 0] 35 (0, 0))) := ⟨(by rw [hw]; exact (by refine bU ?_; refine blk_put (cs := #[.int .i64 a1_0, .int .i64 (wrap64 (a1_1 + 1)), .slice none 0 0]) ?_ 2 _ rfl; refine bU ?_; refine blk_put (cs := #[.int .i64 a1_0, .int .i64 0, .slice none 0 0]) ?_ 1 _ rfl; refine bU ?_; refine blk_put (cs := #[.int .i64 0, .int .i64 0, .slice none 0 0]) ?_ 0 _ rfl; refine bU ?_; exact BK217.out))⟩; replace HB : Aside0 (Below w.heap.size w w43) := ⟨(by rw [hw]; exact (lV4 GE212 GE213 GE214 GE217))⟩; clear hw; have hcz44_0 := cz BK213 0 (.int .i64 a1_0); have hcz44_1 := cz BK213 1 (.int .i64 a1_1); have hcz44_2 := cz BK213 2 (.slice A1_2 l1_2.length c1_2); have hfz44_0 := fz BK213 0; have hfz44_1 := fz BK213 1; have hfz44_2 := fz BK213 2))
    (try simp only [Act.put, List.setIfInBounds_toArray, List.set_cons_zero, List.set_cons_succ])
    go_loopg [38] kj2 (fun kq v38 w' => ∃ (x38_2 : Int) (x218002_2 : List (S48)) (u218002 : Value), v38 = .int .i64 x38_2 ∧ Aside0 (spec_StepCloud.l0 kq l1_2 (l1_2.length : Int) x38_2 a0_0 a0_1 a0_2 a0_3 a0_4 a0_5 a0_6 a1_0 a1_1 l1_2 a1_0 (wrap64 (a1_1 + 1)) x218002_2 = some (r1, r2, r3, r4)) ∧ Aside0 (kq ≤ kj2) ∧ Aside0 (Kd.R k48 48 w' w.heap.size (fun _ => True) u218002 x218002_2) ∧ Aside0 (w'.heap[gb212]? = some (.cells #[.int .i64 a0_0, .int .i64 a0_1, .int .i64 a0_2, .int .i64 a0_3, .int .i64 a0_4, .int .i64 a0_5, .int .i64 a0_6] 26 (0, 0))) ∧ Aside0 (w'.heap[gb213]? = some (.cells #[.int .i64 a1_0, .int .i64 a1_1, (.slice A1_2 l1_2.length c1_2)] 35 (0, 0))) ∧ Aside0 (w'.heap[gb214]? = some (.cells #[.int .i64 0, .int .i64 0, (.slice none 0 0)] 35 (0, 0))) ∧ Aside0 (w'.heap[gb217]? = some (.cells #[.int .i64 a1_0, .int .i64 (wrap64 (a1_1 + 1)), u218002] 35 (0, 0))) ∧ Aside0 (Below w.heap.size w w'))
    case atStart => exact ⟨(0), (([] : List (S48))), (.slice none 0 0), tE, H', ⟨Nat.le_refl _⟩, ⟨by first | exact Kd.R_nil _ _ _ _ _ | exact Kd.N_nil _ _ _ _ _ | exact Kd.V_nil _ _ _ _ _ | exact Kd.Q_nil _ _ _ _ _ | exact Kd.S_nil _ _ _ _ _⟩, ⟨by refine bU ?_; exact BK212.out⟩, ⟨by refine bU ?_; exact BK213.out⟩, ⟨by refine bU ?_; exact BK214.out⟩, ⟨by refine bU ?_; exact BK217.out⟩, ⟨by repeat (first | (with_reducible first | exact HB.out | apply below_alloc | apply pw_below_drewN | apply below_drew1 | refine below_set ?_ GE212.out | refine below_set ?_ GE213.out | refine below_set ?_ GE214.out | refine below_set ?_ GE217.out) | exact HB.out)⟩⟩
    case round =>
     clear H'
     try clear c1
     try clear q1
     try clear c2
     try clear p2
     try clear q2
     try clear hf2
     try clear c3
     try clear c4
     try clear p6
     try clear c8
     try clear c10
     try clear c11
     try clear c12
     try clear c15
     try clear c19
     try clear c20
     try clear c23
     try clear c26
     try clear c27
     try clear c30
     try clear c31
     try clear c32
     try clear c35
     try clear c36
     try clear c39
     try clear c40
     try clear c41
     try clear hcz13_0
     try clear hcz13_1
     try clear hcz13_2
     try clear hcz13_3
     try clear hcz13_4
     try clear hcz13_5
     try clear hcz13_6
     try clear hcz16_0
     try clear hcz16_1
     try clear hcz16_2
     try clear hcz18_0
     try clear hcz18_1
     try clear hcz18_2
     try clear hcz21_0
     try clear hcz21_1
     try clear hcz21_2
     try clear hcz21_3
     try clear hcz21_4
     try clear hcz21_5
     try clear hcz21_6
     try clear hcz24_0
     try clear hcz24_1
     try clear hcz24_2
     try clear hcz28_0
     try clear hcz28_1
     try clear hcz28_2
     try clear hcz28_3
     try clear hcz28_4
     try clear hcz28_5
     try clear hcz28_6
     try clear hcz33_0
     try clear hcz33_1
     try clear hcz33_2
     try clear hcz37_0
     try clear hcz37_1
     try clear hcz37_2
     try clear hcz42_0
     try clear hcz42_1
     try clear hcz42_2
     try clear hcz44_0
     try clear hcz44_1
     try clear hcz44_2
     try clear hfz13_0
     try clear hfz13_1
     try clear hfz13_2
     try clear hfz13_3
     try clear hfz13_4
     try clear hfz13_5
     try clear hfz13_6
     try clear hfz16_0
     try clear hfz16_1
     try clear hfz16_2
     try clear hfz18_0
     try clear hfz18_1
     try clear hfz18_2
     try clear hfz21_0
     try clear hfz21_1
     try clear hfz21_2
     try clear hfz21_3
     try clear hfz21_4
     try clear hfz21_5
     try clear hfz21_6
     try clear hfz24_0
     try clear hfz24_1
     try clear hfz24_2
     try clear hfz28_0
     try clear hfz28_1
     try clear hfz28_2
     try clear hfz28_3
     try clear hfz28_4
     try clear hfz28_5
     try clear hfz28_6
     try clear hfz33_0
     try clear hfz33_1
     try clear hfz33_2
     try clear hfz37_0
     try clear hfz37_1
     try clear hfz37_2
     try clear hfz42_0
     try clear hfz42_1
     try clear hfz42_2
     try clear hfz44_0
     try clear hfz44_1
     try clear hfz44_2
     try clear p2
     obtain ⟨x38_2, x218002_2, u218002, rfl, HA, HK2, HO_218002, BK212, BK213, BK214, BK217, HB⟩ := hrel
     cases gk with
     | zero => exact absurd HA.out (by simp [spec_StepCloud.l0])
     | succ k2 =>
      have H := HA.out
      clear HA
      simp only [spec_StepCloud.l0] at H
      by_cases c45 : x38_2 < (l1_2.length : Int)
      ·rw [if_pos c45] at H
       have c45b0 : decide (x38_2 < (l1_2.length : Int)) = true := decide_eq_true c45
       clear c45
       by_cases c46 : 0 ≤ x38_2
       ·rw [if_pos c46] at H
        have c46b0 : decide (0 ≤ x38_2) = true := decide_eq_true c46
        clear c46
        by_cases c47 : x38_2 < (l1_2.length : Int)
        ·rw [if_pos c47] at H
         have c47b0 : decide (x38_2 < (l1_2.length : Int)) = true := decide_eq_true c47
         clear c47
         by_cases c48 : (wrap64 (((rd_T48 l1_2 x38_2).f4) - 1)) = 0
         ·rw [if_pos c48] at H
          have c48b0 : ((wrap64 (((rd_T48 l1_2 x38_2).f4) - 1)) == 0) = true := beq_iff_eq.mpr c48
          have c48b1 : ((wrap64 (((rd_T48 l1_2 x38_2).f4) - 1)) != 0) = false := bne_eq_false_iff_eq.mpr c48
          clear c48
          have H' := Aside0.mk H
          clear H
          have p218 : 0 ≤ (x38_2 : Int) := of_decide_eq_true hE
          have q218 : x38_2 < (l1_2.length : Int) := of_decide_eq_true hE
          obtain ⟨ad218, e218, hx218_0, hx218_1, hx218_2, hx218_3, hx218_4⟩ := at_T48 HR1_2.out x38_2 p218 q218
          cases e218
          replace hx218_0 := (HB.out.cell (World.block_lt_of_cell? w _ hx218_0)).trans hx218_0
          replace hx218_1 := (HB.out.cell (World.block_lt_of_cell? w _ hx218_1)).trans hx218_1
          replace hx218_2 := (HB.out.cell (World.block_lt_of_cell? w _ hx218_2)).trans hx218_2
          replace hx218_3 := (HB.out.cell (World.block_lt_of_cell? w _ hx218_3)).trans hx218_3
          replace hx218_4 := (HB.out.cell (World.block_lt_of_cell? w _ hx218_4)).trans hx218_4
          replace p218 := eq_true p218
          replace q218 := eq_true q218
          go_wp2_with (first | ((with_reducible refine gate_dst (N := 8) rfl ?_); (try (refine gate_guard (by rfl) ?_; dsimp only)); refine box_event rfl (N := 8) rfl (cs := #[.int .i64 0, .int .i64 0, .int .i64 0, .int .i64 0, .int .i64 0]) (t := 48) sE ?_; intro gb219 hg w49 hbox hb; replace HO_218002 := Aside0.mk (Kd.R_below (Kd.R_elderB (rU HO_218002.out) gb219 (Nat.le_of_eq hg.symm)) hb); have BK219 := Aside0.mk hbox; have GW219 := gS w hg (lV4 GE212 GE213 GE214 GE217); have GE219 := GW219; replace HB := bH (lV4 GE212 GE213 GE214 GE217) hb; have NB212_219 := nL hg (bV BK212); have NB219_212 := nG hg (bV BK212); replace BK212 := bB (bV BK212) hb; have NB213_219 := nL hg (bV BK213); have NB219_213 := nG hg (bV BK213); replace BK213 := bB (bV BK213) hb; have NB214_219 := nL hg (bV BK214); have NB219_214 := nG hg (bV BK214); replace BK214 := bB (bV BK214) hb; have NB217_219 := nL hg (bV BK217); have NB219_217 := nG hg (bV BK217); replace BK217 := bB (bV BK217) hb; clear hb hbox hg; have hnb50 := NB219_212.out; have hnc50 := NB212_219.out; have hnb51 := NB219_213.out; have hnc51 := NB213_219.out; have hnb52 := NB219_214.out; have hnc52 := NB214_219.out; have hnb53 := NB219_217.out; have hnc53 := NB217_219.out; have hcz54_0 := cz BK219 0 (.int .i64 0); have hcz54_1 := cz BK219 1 (.int .i64 0); have hcz54_2 := cz BK219 2 (.int .i64 0); have hcz54_3 := cz BK219 3 (.int .i64 0); have hcz54_4 := cz BK219 4 (.int .i64 0); have hfz54_0 := fz BK219 0; have hfz54_1 := fz BK219 1; have hfz54_2 := fz BK219 2; have hfz54_3 := fz BK219 3; have hfz54_4 := fz BK219 4) | ((with_reducible refine gate_store (t := 48) (p := 8) rfl ?_); refine store_event (t := 48) (p := 8) (v := ?vo_w55) (w1 := (((((w49.setCell ⟨gb219, 0, none⟩ (.int .i64 ((rd_T48 l1_2 x38_2).f0))).setCell ⟨gb219, 1, none⟩ (.int .i64 ((rd_T48 l1_2 x38_2).f1))).setCell ⟨gb219, 2, none⟩ (.int .i64 ((rd_T48 l1_2 x38_2).f2))).setCell ⟨gb219, 3, none⟩ (.int .i64 ((rd_T48 l1_2 x38_2).f3))).setCell ⟨gb219, 4, none⟩ (.int .i64 ((rd_T48 l1_2 x38_2).f4)))) ?hg ?ho ?hn ?hr ?_; (case ho => rfl); (case hg => rfl); (case hn => rfl); (case hr => first | (go_simp; done) | (go_simp; rfl) | (have hq0_ := (blk_cell BK219.out 0).trans (show _ = some _ from rfl); have hf0_ := blk_frozen BK219.out 0; have hq1_ := (blk_cell BK219.out 1).trans (show _ = some _ from rfl); have hf1_ := blk_frozen BK219.out 1; have hq2_ := (blk_cell BK219.out 2).trans (show _ = some _ from rfl); have hf2_ := blk_frozen BK219.out 2; have hq3_ := (blk_cell BK219.out 3).trans (show _ = some _ from rfl); have hf3_ := blk_frozen BK219.out 3; have hq4_ := (blk_cell BK219.out 4).trans (show _ = some _ from rfl); have hf4_ := blk_frozen BK219.out 4; first | (go_simp; done) | (go_simp; rfl))); intro w55 hw; replace HO_218002 : Aside0 (Kd.R k48 48 w55 w.heap.size (fun k_ => k_ ≠ gb219) u218002 x218002_2) := ⟨(by rw [hw]; exact (by (with_reducible repeat (first | apply Kd.R_alloc | apply Kd.R_drewN | apply Kd.R_drew)); exact Kd.R_mono (Kd.R_far (p := ⟨gb219, 4, none⟩) (Kd.R_far (p := ⟨gb219, 3, none⟩) (Kd.R_far (p := ⟨gb219, 2, none⟩) (Kd.R_far (p := ⟨gb219, 1, none⟩) (Kd.R_far (p := ⟨gb219, 0, none⟩) (Kd.R_mono HO_218002.out (fun k_ hk => (⟨hk, hk.2⟩ : _ ∧ k_ ≠ gb219))) (fun _ hk => hk.2) (.int .i64 ((rd_T48 l1_2 x38_2).f0))) (fun _ hk => hk.2) (.int .i64 ((rd_T48 l1_2 x38_2).f1))) (fun _ hk => hk.2) (.int .i64 ((rd_T48 l1_2 x38_2).f2))) (fun _ hk => hk.2) (.int .i64 ((rd_T48 l1_2 x38_2).f3))) (fun _ hk => hk.2) (.int .i64 ((rd_T48 l1_2 x38_2).f4))) (fun _ hk => hk.1.2)))⟩; replace BK212 : Aside0 (w55.heap[gb212]? = some (.cells #[.int .i64 a0_0, .int .i64 a0_1, .int .i64 a0_2, .int .i64 a0_3, .int .i64 a0_4, .int .i64 a0_5, .int .i64 a0_6] 26 (0, 0))) := ⟨(by rw [hw]; exact (bG NB212_219 BK212))⟩; replace BK213 : Aside0 (w55.heap[gb213]? = some (.cells #[.int .i64 a1_0, .int .i64 a1_1, .slice (some ad218) l1_2.length c1_2] 35 (0, 0))) := ⟨(by rw [hw]; exact (bG NB213_219 BK213))⟩; replace BK214 : Aside0 (w55.heap[gb214]? = some (.cells #[.int .i64 0, .int .i64 0, .slice none 0 0] 35 (0, 0))) := ⟨(by rw [hw]; exact (bG NB214_219 BK214))⟩; replace BK217 : Aside0 (w55.heap[gb217]? = some (.cells #[.int .i64 a1_0, .int .i64 (wrap64 (a1_1 + 1)), u218002] 35 (0, 0))) := ⟨(by rw [hw]; exact (bG NB217_219 BK217))⟩; replace BK219 : Aside0 (w55.heap[gb219]? = some (.cells #[.int .i64 ((rd_T48 l1_2 x38_2).f0), .int .i64 ((rd_T48 l1_2 x38_2).f1), .int .i64 ((rd_T48 l1_2 x38_2).f2), .int .i64 ((rd_T48 l1_2 x38_2).f3), .int .i64 ((rd_T48 l1_2 x38_2).f4)] 48 (0, 0))) := ⟨(by rw [hw]; exact (by refine bU ?_; refine blk_put (cs := #[.int .i64 ((rd_T48 l1_2 x38_2).f0), .int .i64 ((rd_T48 l1_2 x38_2).f1), .int .i64 ((rd_T48 l1_2 x38_2).f2), .int .i64 ((rd_T48 l1_2 x38_2).f3), .int .i64 0]) ?_ 4 _ rfl; refine bU ?_; refine blk_put (cs := #[.int .i64 ((rd_T48 l1_2 x38_2).f0), .int .i64 ((rd_T48 l1_2 x38_2).f1), .int .i64 ((rd_T48 l1_2 x38_2).f2), .int .i64 0, .int .i64 0]) ?_ 3 _ rfl; refine bU ?_; refine blk_put (cs := #[.int .i64 ((rd_T48 l1_2 x38_2).f0), .int .i64 ((rd_T48 l1_2 x38_2).f1), .int .i64 0, .int .i64 0, .int .i64 0]) ?_ 2 _ rfl; refine bU ?_; refine blk_put (cs := #[.int .i64 ((rd_T48 l1_2 x38_2).f0), .int .i64 0, .int .i64 0, .int .i64 0, .int .i64 0]) ?_ 1 _ rfl; refine bU ?_; refine blk_put (cs := #[.int .i64 0, .int .i64 0, .int .i64 0, .int .i64 0, .int .i64 0]) ?_ 0 _ rfl; refine bU ?_; exact BK219.out))⟩; replace HB : Aside0 (Below w.heap.size w w55) := ⟨(by rw [hw]; exact (lV5 GE212 GE213 GE214 GE217 GE219))⟩; clear hw; have hcz56_0 := cz BK219 0 (.int .i64 ((rd_T48 l1_2 x38_2).f0)); have hcz56_1 := cz BK219 1 (.int .i64 ((rd_T48 l1_2 x38_2).f1)); have hcz56_2 := cz BK219 2 (.int .i64 ((rd_T48 l1_2 x38_2).f2)); have hcz56_3 := cz BK219 3 (.int .i64 ((rd_T48 l1_2 x38_2).f3)); have hcz56_4 := cz BK219 4 (.int .i64 ((rd_T48 l1_2 x38_2).f4)); have hfz56_0 := fz BK219 0; have hfz56_1 := fz BK219 1; have hfz56_2 := fz BK219 2; have hfz56_3 := fz BK219 3; have hfz56_4 := fz BK219 4) | ((with_reducible refine gate_store (t := 3) (p := 45) rfl ?_); refine store_event (t := 3) (p := 45) (v := ?vo_w57) (w1 := (w55.setCell ⟨gb219, 4, none⟩ (.int .i64 (wrap64 (((rd_T48 l1_2 x38_2).f4) - 1))))) ?hg ?ho ?hn ?hr ?_; (case ho => rfl); (case hg => rfl); (case hn => rfl); (case hr => first | (go_simp; done) | (go_simp; rfl) | (have hq0_ := (blk_cell BK219.out 4).trans (show _ = some _ from rfl); have hf0_ := blk_frozen BK219.out 4; first | (go_simp; done) | (go_simp; rfl))); intro w57 hw; replace HO_218002 : Aside0 (Kd.R k48 48 w57 w.heap.size (fun k_ => k_ ≠ gb219) u218002 x218002_2) := ⟨(by rw [hw]; exact (by (with_reducible repeat (first | apply Kd.R_alloc | apply Kd.R_drewN | apply Kd.R_drew)); exact Kd.R_mono (Kd.R_far (p := ⟨gb219, 4, none⟩) (Kd.R_mono HO_218002.out (fun k_ hk => (⟨hk, hk⟩ : _ ∧ k_ ≠ gb219))) (fun _ hk => hk.2) (.int .i64 (wrap64 (((rd_T48 l1_2 x38_2).f4) - 1)))) (fun _ hk => hk.1)))⟩; replace BK212 : Aside0 (w57.heap[gb212]? = some (.cells #[.int .i64 a0_0, .int .i64 a0_1, .int .i64 a0_2, .int .i64 a0_3, .int .i64 a0_4, .int .i64 a0_5, .int .i64 a0_6] 26 (0, 0))) := ⟨(by rw [hw]; exact (bG NB212_219 BK212))⟩; replace BK213 : Aside0 (w57.heap[gb213]? = some (.cells #[.int .i64 a1_0, .int .i64 a1_1, .slice (some ad218) l1_2.length c1_2] 35 (0, 0))) := ⟨(by rw [hw]; exact (bG NB213_219 BK213))⟩; replace BK214 : Aside0 (w57.heap[gb214]? = some (.cells #[.int .i64 0, .int .i64 0, .slice none 0 0] 35 (0, 0))) := ⟨(by rw [hw]; exact (bG NB214_219 BK214))⟩; replace BK217 : Aside0 (w57.heap[gb217]? = some (.cells #[.int .i64 a1_0, .int .i64 (wrap64 (a1_1 + 1)), u218002] 35 (0, 0))) := ⟨(by rw [hw]; exact (bG NB217_219 BK217))⟩; replace BK219 : Aside0 (w57.heap[gb219]? = some (.cells #[.int .i64 ((rd_T48 l1_2 x38_2).f0), .int .i64 ((rd_T48 l1_2 x38_2).f1), .int .i64 ((rd_T48 l1_2 x38_2).f2), .int .i64 ((rd_T48 l1_2 x38_2).f3), .int .i64 (wrap64 (((rd_T48 l1_2 x38_2).f4) - 1))] 48 (0, 0))) := ⟨(by rw [hw]; exact (by refine bU ?_; refine blk_put (cs := #[.int .i64 ((rd_T48 l1_2 x38_2).f0), .int .i64 ((rd_T48 l1_2 x38_2).f1), .int .i64 ((rd_T48 l1_2 x38_2).f2), .int .i64 ((rd_T48 l1_2 x38_2).f3), .int .i64 ((rd_T48 l1_2 x38_2).f4)]) ?_ 4 _ rfl; refine bU ?_; exact BK219.out))⟩; replace HB : Aside0 (Below w.heap.size w w57) := ⟨(by rw [hw]; exact (lV5 GE212 GE213 GE214 GE217 GE219))⟩; clear hw; have hcz58_0 := cz BK219 0 (.int .i64 ((rd_T48 l1_2 x38_2).f0)); have hcz58_1 := cz BK219 1 (.int .i64 ((rd_T48 l1_2 x38_2).f1)); have hcz58_2 := cz BK219 2 (.int .i64 ((rd_T48 l1_2 x38_2).f2)); have hcz58_3 := cz BK219 3 (.int .i64 ((rd_T48 l1_2 x38_2).f3)); have hcz58_4 := cz BK219 4 (.int .i64 (wrap64 (((rd_T48 l1_2 x38_2).f4) - 1))); have hfz58_0 := fz BK219 0; have hfz58_1 := fz BK219 1; have hfz58_2 := fz BK219 2; have hfz58_3 := fz BK219 3; have hfz58_4 := fz BK219 4))
          go_roundg k2
          case measure => have := HJ2.out; have := HK2.out; omega
          case rel => exact ⟨(wrap64 (x38_2 + 1)), (x218002_2), (u218002), tE, H', ⟨by have := HJ2.out; have := HK2.out; omega⟩, ⟨by (with_reducible repeat (first | apply Kd.R_alloc | apply Kd.R_drewN | apply Kd.R_drew)); exact Kd.R_mono HO_218002.out (fun _ hk => trivial)⟩, ⟨by refine bU ?_; exact BK212.out⟩, ⟨by refine bU ?_; exact BK213.out⟩, ⟨by refine bU ?_; exact BK214.out⟩, ⟨by refine bU ?_; exact BK217.out⟩, ⟨by repeat (first | (with_reducible first | exact HB.out | apply below_alloc | apply pw_below_drewN | apply below_drew1 | refine below_set ?_ GE212.out | refine below_set ?_ GE213.out | refine below_set ?_ GE214.out | refine below_set ?_ GE217.out | refine below_set ?_ GE219.out) | exact HB.out)⟩⟩
         ·rw [if_neg c48] at H
          have c48b0 : ((wrap64 (((rd_T48 l1_2 x38_2).f4) - 1)) == 0) = false := beq_eq_false_iff_ne.mpr c48
          have c48b1 : ((wrap64 (((rd_T48 l1_2 x38_2).f4) - 1)) != 0) = true := bne_iff_ne.mpr c48
          by_cases c59 : x218002_2.length < 3518437208883
          ·rw [if_pos c59] at H
           have LMc59 := Aside0.mk c59
           clear c59
           obtain ⟨y220, hy220⟩ : ∃ y_ : List (S48), y_ = (x218002_2 ++ [(⟨wrap64 (((rd_T48 l1_2 x38_2).f0) + ((rd_T48 l1_2 x38_2).f2)), wrap64 (((rd_T48 l1_2 x38_2).f1) + ((rd_T48 l1_2 x38_2).f3)), (rd_T48 l1_2 x38_2).f2, wrap64 (((rd_T48 l1_2 x38_2).f3) - a0_6), wrap64 (((rd_T48 l1_2 x38_2).f4) - 1)⟩ : S48)]) := ⟨_, rfl⟩
           replace H : (spec_StepCloud.l0 k2 l1_2 (l1_2.length : Int) (wrap64 (x38_2 + 1)) a0_0 a0_1 a0_2 a0_3 a0_4 a0_5 a0_6 a1_0 a1_1 l1_2 a1_0 (wrap64 (a1_1 + 1)) y220) = some (r1, r2, r3, r4) := by first | (rw [hy220]; with_reducible exact H) | (have H2_ := (Option.bind_some _ _).symm.trans H; rw [hy220]; with_reducible exact H2_) | (have H2_ := (Option.bind_some _ _).symm.trans H; with_reducible exact H2_) | with_reducible exact H | (rw [hy220]; exact H) | exact H
           have Ny220 := Aside0.mk hy220
           clear hy220
           have H' := Aside0.mk H
           clear H
           have p218 : 0 ≤ (x38_2 : Int) := of_decide_eq_true hE
           have q218 : x38_2 < (l1_2.length : Int) := of_decide_eq_true hE
           obtain ⟨ad218, e218, hx218_0, hx218_1, hx218_2, hx218_3, hx218_4⟩ := at_T48 HR1_2.out x38_2 p218 q218
           cases e218
           replace hx218_0 := (HB.out.cell (World.block_lt_of_cell? w _ hx218_0)).trans hx218_0
           replace hx218_1 := (HB.out.cell (World.block_lt_of_cell? w _ hx218_1)).trans hx218_1
           replace hx218_2 := (HB.out.cell (World.block_lt_of_cell? w _ hx218_2)).trans hx218_2
           replace hx218_3 := (HB.out.cell (World.block_lt_of_cell? w _ hx218_3)).trans hx218_3
           replace hx218_4 := (HB.out.cell (World.block_lt_of_cell? w _ hx218_4)).trans hx218_4
           replace p218 := eq_true p218
           replace q218 := eq_true q218
           go_wp2_with (first | ((with_reducible refine gate_dst (N := 8) rfl ?_); (try (refine gate_guard (by rfl) ?_; dsimp only)); refine box_event rfl (N := 8) rfl (cs := #[.int .i64 0, .int .i64 0, .int .i64 0, .int .i64 0, .int .i64 0]) (t := 48) sE ?_; intro gb219 hg w60 hbox hb; replace HO_218002 := Aside0.mk (Kd.R_below (Kd.R_elderB (rU HO_218002.out) gb219 (Nat.le_of_eq hg.symm)) hb); have BK219 := Aside0.mk hbox; have GW219 := gS w hg (lV4 GE212 GE213 GE214 GE217); have GE219 := GW219; replace HB := bH (lV4 GE212 GE213 GE214 GE217) hb; have NB212_219 := nL hg (bV BK212); have NB219_212 := nG hg (bV BK212); replace BK212 := bB (bV BK212) hb; have NB213_219 := nL hg (bV BK213); have NB219_213 := nG hg (bV BK213); replace BK213 := bB (bV BK213) hb; have NB214_219 := nL hg (bV BK214); have NB219_214 := nG hg (bV BK214); replace BK214 := bB (bV BK214) hb; have NB217_219 := nL hg (bV BK217); have NB219_217 := nG hg (bV BK217); replace BK217 := bB (bV BK217) hb; clear hb hbox hg; have hnb61 := NB219_212.out; have hnc61 := NB212_219.out; have hnb62 := NB219_213.out; have hnc62 := NB213_219.out; have hnb63 := NB219_214.out; have hnc63 := NB214_219.out; have hnb64 := NB219_217.out; have hnc64 := NB217_219.out; have hcz65_0 := cz BK219 0 (.int .i64 0); have hcz65_1 := cz BK219 1 (.int .i64 0); have hcz65_2 := cz BK219 2 (.int .i64 0); have hcz65_3 := cz BK219 3 (.int .i64 0); have hcz65_4 := cz BK219 4 (.int .i64 0); have hfz65_0 := fz BK219 0; have hfz65_1 := fz BK219 1; have hfz65_2 := fz BK219 2; have hfz65_3 := fz BK219 3; have hfz65_4 := fz BK219 4) | ((with_reducible refine gate_store (t := 48) (p := 8) rfl ?_); refine store_event (t := 48) (p := 8) (v := ?vo_w66) (w1 := (((((w60.setCell ⟨gb219, 0, none⟩ (.int .i64 ((rd_T48 l1_2 x38_2).f0))).setCell ⟨gb219, 1, none⟩ (.int .i64 ((rd_T48 l1_2 x38_2).f1))).setCell ⟨gb219, 2, none⟩ (.int .i64 ((rd_T48 l1_2 x38_2).f2))).setCell ⟨gb219, 3, none⟩ (.int .i64 ((rd_T48 l1_2 x38_2).f3))).setCell ⟨gb219, 4, none⟩ (.int .i64 ((rd_T48 l1_2 x38_2).f4)))) ?hg ?ho ?hn ?hr ?_; (case ho => rfl); (case hg => rfl); (case hn => rfl); (case hr => first | (go_simp; done) | (go_simp; rfl) | (have hq0_ := (blk_cell BK219.out 0).trans (show _ = some _ from rfl); have hf0_ := blk_frozen BK219.out 0; have hq1_ := (blk_cell BK219.out 1).trans (show _ = some _ from rfl); have hf1_ := blk_frozen BK219.out 1; have hq2_ := (blk_cell BK219.out 2).trans (show _ = some _ from rfl); have hf2_ := blk_frozen BK219.out 2; have hq3_ := (blk_cell BK219.out 3).trans (show _ = some _ from rfl); have hf3_ := blk_frozen BK219.out 3; have hq4_ := (blk_cell BK219.out 4).trans (show _ = some _ from rfl); have hf4_ := blk_frozen BK219.out 4; first | (go_simp; done) | (go_simp; rfl))); intro w66 hw; replace HO_218002 : Aside0 (Kd.R k48 48 w66 w.heap.size (fun k_ => k_ ≠ gb219) u218002 x218002_2) := ⟨(by rw [hw]; exact (by (with_reducible repeat (first | apply Kd.R_alloc | apply Kd.R_drewN | apply Kd.R_drew)); exact Kd.R_mono (Kd.R_far (p := ⟨gb219, 4, none⟩) (Kd.R_far (p := ⟨gb219, 3, none⟩) (Kd.R_far (p := ⟨gb219, 2, none⟩) (Kd.R_far (p := ⟨gb219, 1, none⟩) (Kd.R_far (p := ⟨gb219, 0, none⟩) (Kd.R_mono HO_218002.out (fun k_ hk => (⟨hk, hk.2⟩ : _ ∧ k_ ≠ gb219))) (fun _ hk => hk.2) (.int .i64 ((rd_T48 l1_2 x38_2).f0))) (fun _ hk => hk.2) (.int .i64 ((rd_T48 l1_2 x38_2).f1))) (fun _ hk => hk.2) (.int .i64 ((rd_T48 l1_2 x38_2).f2))) (fun _ hk => hk.2) (.int .i64 ((rd_T48 l1_2 x38_2).f3))) (fun _ hk => hk.2) (.int .i64 ((rd_T48 l1_2 x38_2).f4))) (fun _ hk => hk.1.2)))⟩; replace BK212 : Aside0 (w66.heap[gb212]? = some (.cells #[.int .i64 a0_0, .int .i64 a0_1, .int .i64 a0_2, .int .i64 a0_3, .int .i64 a0_4, .int .i64 a0_5, .int .i64 a0_6] 26 (0, 0))) := ⟨(by rw [hw]; exact (bG NB212_219 BK212))⟩; replace BK213 : Aside0 (w66.heap[gb213]? = some (.cells #[.int .i64 a1_0, .int .i64 a1_1, .slice (some ad218) l1_2.length c1_2] 35 (0, 0))) := ⟨(by rw [hw]; exact (bG NB213_219 BK213))⟩; replace BK214 : Aside0 (w66.heap[gb214]? = some (.cells #[.int .i64 0, .int .i64 0, .slice none 0 0] 35 (0, 0))) := ⟨(by rw [hw]; exact (bG NB214_219 BK214))⟩; replace BK217 : Aside0 (w66.heap[gb217]? = some (.cells #[.int .i64 a1_0, .int .i64 (wrap64 (a1_1 + 1)), u218002] 35 (0, 0))) := ⟨(by rw [hw]; exact (bG NB217_219 BK217))⟩; replace BK219 : Aside0 (w66.heap[gb219]? = some (.cells #[.int .i64 ((rd_T48 l1_2 x38_2).f0), .int .i64 ((rd_T48 l1_2 x38_2).f1), .int .i64 ((rd_T48 l1_2 x38_2).f2), .int .i64 ((rd_T48 l1_2 x38_2).f3), .int .i64 ((rd_T48 l1_2 x38_2).f4)] 48 (0, 0))) := ⟨(by rw [hw]; exact (by refine bU ?_; refine blk_put (cs := #[.int .i64 ((rd_T48 l1_2 x38_2).f0), .int .i64 ((rd_T48 l1_2 x38_2).f1), .int .i64 ((rd_T48 l1_2 x38_2).f2), .int .i64 ((rd_T48 l1_2 x38_2).f3), .int .i64 0]) ?_ 4 _ rfl; refine bU ?_; refine blk_put (cs := #[.int .i64 ((rd_T48 l1_2 x38_2).f0), .int .i64 ((rd_T48 l1_2 x38_2).f1), .int .i64 ((rd_T48 l1_2 x38_2).f2), .int .i64 0, .int .i64 0]) ?_ 3 _ rfl; refine bU ?_; refine blk_put (cs := #[.int .i64 ((rd_T48 l1_2 x38_2).f0), .int .i64 ((rd_T48 l1_2 x38_2).f1), .int .i64 0, .int .i64 0, .int .i64 0]) ?_ 2 _ rfl; refine bU ?_; refine blk_put (cs := #[.int .i64 ((rd_T48 l1_2 x38_2).f0), .int .i64 0, .int .i64 0, .int .i64 0, .int .i64 0]) ?_ 1 _ rfl; refine bU ?_; refine blk_put (cs := #[.int .i64 0, .int .i64 0, .int .i64 0, .int .i64 0, .int .i64 0]) ?_ 0 _ rfl; refine bU ?_; exact BK219.out))⟩; replace HB : Aside0 (Below w.heap.size w w66) := ⟨(by rw [hw]; exact (lV5 GE212 GE213 GE214 GE217 GE219))⟩; clear hw; have hcz67_0 := cz BK219 0 (.int .i64 ((rd_T48 l1_2 x38_2).f0)); have hcz67_1 := cz BK219 1 (.int .i64 ((rd_T48 l1_2 x38_2).f1)); have hcz67_2 := cz BK219 2 (.int .i64 ((rd_T48 l1_2 x38_2).f2)); have hcz67_3 := cz BK219 3 (.int .i64 ((rd_T48 l1_2 x38_2).f3)); have hcz67_4 := cz BK219 4 (.int .i64 ((rd_T48 l1_2 x38_2).f4)); have hfz67_0 := fz BK219 0; have hfz67_1 := fz BK219 1; have hfz67_2 := fz BK219 2; have hfz67_3 := fz BK219 3; have hfz67_4 := fz BK219 4) | ((with_reducible refine gate_store (t := 3) (p := 45) rfl ?_); refine store_event (t := 3) (p := 45) (v := ?vo_w68) (w1 := (w66.setCell ⟨gb219, 4, none⟩ (.int .i64 (wrap64 (((rd_T48 l1_2 x38_2).f4) - 1))))) ?hg ?ho ?hn ?hr ?_; (case ho => rfl); (case hg => rfl); (case hn => rfl); (case hr => first | (go_simp; done) | (go_simp; rfl) | (have hq0_ := (blk_cell BK219.out 4).trans (show _ = some _ from rfl); have hf0_ := blk_frozen BK219.out 4; first | (go_simp; done) | (go_simp; rfl))); intro w68 hw; replace HO_218002 : Aside0 (Kd.R k48 48 w68 w.heap.size (fun k_ => k_ ≠ gb219) u218002 x218002_2) := ⟨(by rw [hw]; exact (by (with_reducible repeat (first | apply Kd.R_alloc | apply Kd.R_drewN | apply Kd.R_drew)); exact Kd.R_mono (Kd.R_far (p := ⟨gb219, 4, none⟩) (Kd.R_mono HO_218002.out (fun k_ hk => (⟨hk, hk⟩ : _ ∧ k_ ≠ gb219))) (fun _ hk => hk.2) (.int .i64 (wrap64 (((rd_T48 l1_2 x38_2).f4) - 1)))) (fun _ hk => hk.1)))⟩; replace BK212 : Aside0 (w68.heap[gb212]? = some (.cells #[.int .i64 a0_0, .int .i64 a0_1, .int .i64 a0_2, .int .i64 a0_3, .int .i64 a0_4, .int .i64 a0_5, .int .i64 a0_6] 26 (0, 0))) := ⟨(by rw [hw]; exact (bG NB212_219 BK212))⟩; replace BK213 : Aside0 (w68.heap[gb213]? = some (.cells #[.int .i64 a1_0, .int .i64 a1_1, .slice (some ad218) l1_2.length c1_2] 35 (0, 0))) := ⟨(by rw [hw]; exact (bG NB213_219 BK213))⟩; replace BK214 : Aside0 (w68.heap[gb214]? = some (.cells #[.int .i64 0, .int .i64 0, .slice none 0 0] 35 (0, 0))) := ⟨(by rw [hw]; exact (bG NB214_219 BK214))⟩; replace BK217 : Aside0 (w68.heap[gb217]? = some (.cells #[.int .i64 a1_0, .int .i64 (wrap64 (a1_1 + 1)), u218002] 35 (0, 0))) := ⟨(by rw [hw]; exact (bG NB217_219 BK217))⟩; replace BK219 : Aside0 (w68.heap[gb219]? = some (.cells #[.int .i64 ((rd_T48 l1_2 x38_2).f0), .int .i64 ((rd_T48 l1_2 x38_2).f1), .int .i64 ((rd_T48 l1_2 x38_2).f2), .int .i64 ((rd_T48 l1_2 x38_2).f3), .int .i64 (wrap64 (((rd_T48 l1_2 x38_2).f4) - 1))] 48 (0, 0))) := ⟨(by rw [hw]; exact (by refine bU ?_; refine blk_put (cs := #[.int .i64 ((rd_T48 l1_2 x38_2).f0), .int .i64 ((rd_T48 l1_2 x38_2).f1), .int .i64 ((rd_T48 l1_2 x38_2).f2), .int .i64 ((rd_T48 l1_2 x38_2).f3), .int .i64 ((rd_T48 l1_2 x38_2).f4)]) ?_ 4 _ rfl; refine bU ?_; exact BK219.out))⟩; replace HB : Aside0 (Below w.heap.size w w68) := ⟨(by rw [hw]; exact (lV5 GE212 GE213 GE214 GE217 GE219))⟩; clear hw; have hcz69_0 := cz BK219 0 (.int .i64 ((rd_T48 l1_2 x38_2).f0)); have hcz69_1 := cz BK219 1 (.int .i64 ((rd_T48 l1_2 x38_2).f1)); have hcz69_2 := cz BK219 2 (.int .i64 ((rd_T48 l1_2 x38_2).f2)); have hcz69_3 := cz BK219 3 (.int .i64 ((rd_T48 l1_2 x38_2).f3)); have hcz69_4 := cz BK219 4 (.int .i64 (wrap64 (((rd_T48 l1_2 x38_2).f4) - 1))); have hfz69_0 := fz BK219 0; have hfz69_1 := fz BK219 1; have hfz69_2 := fz BK219 2; have hfz69_3 := fz BK219 3; have hfz69_4 := fz BK219 4) | ((with_reducible refine gate_store (t := 3) (p := 54) rfl ?_); refine store_event (t := 3) (p := 54) (v := ?vo_w70) (w1 := (w68.setCell ⟨gb219, 0, none⟩ (.int .i64 (wrap64 (((rd_T48 l1_2 x38_2).f0) + ((rd_T48 l1_2 x38_2).f2)))))) ?hg ?ho ?hn ?hr ?_; (case ho => rfl); (case hg => rfl); (case hn => rfl); (case hr => first | (go_simp; done) | (go_simp; rfl) | (have hq0_ := (blk_cell BK219.out 0).trans (show _ = some _ from rfl); have hf0_ := blk_frozen BK219.out 0; first | (go_simp; done) | (go_simp; rfl))); intro w70 hw; replace HO_218002 : Aside0 (Kd.R k48 48 w70 w.heap.size (fun k_ => k_ ≠ gb219) u218002 x218002_2) := ⟨(by rw [hw]; exact (by (with_reducible repeat (first | apply Kd.R_alloc | apply Kd.R_drewN | apply Kd.R_drew)); exact Kd.R_mono (Kd.R_far (p := ⟨gb219, 0, none⟩) (Kd.R_mono HO_218002.out (fun k_ hk => (⟨hk, hk⟩ : _ ∧ k_ ≠ gb219))) (fun _ hk => hk.2) (.int .i64 (wrap64 (((rd_T48 l1_2 x38_2).f0) + ((rd_T48 l1_2 x38_2).f2))))) (fun _ hk => hk.1)))⟩; replace BK212 : Aside0 (w70.heap[gb212]? = some (.cells #[.int .i64 a0_0, .int .i64 a0_1, .int .i64 a0_2, .int .i64 a0_3, .int .i64 a0_4, .int .i64 a0_5, .int .i64 a0_6] 26 (0, 0))) := ⟨(by rw [hw]; exact (bG NB212_219 BK212))⟩; replace BK213 : Aside0 (w70.heap[gb213]? = some (.cells #[.int .i64 a1_0, .int .i64 a1_1, .slice (some ad218) l1_2.length c1_2] 35 (0, 0))) := ⟨(by rw [hw]; exact (bG NB213_219 BK213))⟩; replace BK214 : Aside0 (w70.heap[gb214]? = some (.cells #[.int .i64 0, .int .i64 0, .slice none 0 0] 35 (0, 0))) := ⟨(by rw [hw]; exact (bG NB214_219 BK214))⟩; replace BK217 : Aside0 (w70.heap[gb217]? = some (.cells #[.int .i64 a1_0, .int .i64 (wrap64 (a1_1 + 1)), u218002] 35 (0, 0))) := ⟨(by rw [hw]; exact (bG NB217_219 BK217))⟩; replace BK219 : Aside0 (w70.heap[gb219]? = some (.cells #[.int .i64 (wrap64 (((rd_T48 l1_2 x38_2).f0) + ((rd_T48 l1_2 x38_2).f2))), .int .i64 ((rd_T48 l1_2 x38_2).f1), .int .i64 ((rd_T48 l1_2 x38_2).f2), .int .i64 ((rd_T48 l1_2 x38_2).f3), .int .i64 (wrap64 (((rd_T48 l1_2 x38_2).f4) - 1))] 48 (0, 0))) := ⟨(by rw [hw]; exact (by refine bU ?_; refine blk_put (cs := #[.int .i64 ((rd_T48 l1_2 x38_2).f0), .int .i64 ((rd_T48 l1_2 x38_2).f1), .int .i64 ((rd_T48 l1_2 x38_2).f2), .int .i64 ((rd_T48 l1_2 x38_2).f3), .int .i64 (wrap64 (((rd_T48 l1_2 x38_2).f4) - 1))]) ?_ 0 _ rfl; refine bU ?_; exact BK219.out))⟩; replace HB : Aside0 (Below w.heap.size w w70) := ⟨(by rw [hw]; exact (lV5 GE212 GE213 GE214 GE217 GE219))⟩; clear hw; have hcz71_0 := cz BK219 0 (.int .i64 (wrap64 (((rd_T48 l1_2 x38_2).f0) + ((rd_T48 l1_2 x38_2).f2)))); have hcz71_1 := cz BK219 1 (.int .i64 ((rd_T48 l1_2 x38_2).f1)); have hcz71_2 := cz BK219 2 (.int .i64 ((rd_T48 l1_2 x38_2).f2)); have hcz71_3 := cz BK219 3 (.int .i64 ((rd_T48 l1_2 x38_2).f3)); have hcz71_4 := cz BK219 4 (.int .i64 (wrap64 (((rd_T48 l1_2 x38_2).f4) - 1))); have hfz71_0 := fz BK219 0; have hfz71_1 := fz BK219 1; have hfz71_2 := fz BK219 2; have hfz71_3 := fz BK219 3; have hfz71_4 := fz BK219 4) | ((with_reducible refine gate_store (t := 3) (p := 60) rfl ?_); refine store_event (t := 3) (p := 60) (v := ?vo_w72) (w1 := (w70.setCell ⟨gb219, 1, none⟩ (.int .i64 (wrap64 (((rd_T48 l1_2 x38_2).f1) + ((rd_T48 l1_2 x38_2).f3)))))) ?hg ?ho ?hn ?hr ?_; (case ho => rfl); (case hg => rfl); (case hn => rfl); (case hr => first | (go_simp; done) | (go_simp; rfl) | (have hq0_ := (blk_cell BK219.out 1).trans (show _ = some _ from rfl); have hf0_ := blk_frozen BK219.out 1; first | (go_simp; done) | (go_simp; rfl))); intro w72 hw; replace HO_218002 : Aside0 (Kd.R k48 48 w72 w.heap.size (fun k_ => k_ ≠ gb219) u218002 x218002_2) := ⟨(by rw [hw]; exact (by (with_reducible repeat (first | apply Kd.R_alloc | apply Kd.R_drewN | apply Kd.R_drew)); exact Kd.R_mono (Kd.R_far (p := ⟨gb219, 1, none⟩) (Kd.R_mono HO_218002.out (fun k_ hk => (⟨hk, hk⟩ : _ ∧ k_ ≠ gb219))) (fun _ hk => hk.2) (.int .i64 (wrap64 (((rd_T48 l1_2 x38_2).f1) + ((rd_T48 l1_2 x38_2).f3))))) (fun _ hk => hk.1)))⟩; replace BK212 : Aside0 (w72.heap[gb212]? = some (.cells #[.int .i64 a0_0, .int .i64 a0_1, .int .i64 a0_2, .int .i64 a0_3, .int .i64 a0_4, .int .i64 a0_5, .int .i64 a0_6] 26 (0, 0))) := ⟨(by rw [hw]; exact (bG NB212_219 BK212))⟩; replace BK213 : Aside0 (w72.heap[gb213]? = some (.cells #[.int .i64 a1_0, .int .i64 a1_1, .slice (some ad218) l1_2.length c1_2] 35 (0, 0))) := ⟨(by rw [hw]; exact (bG NB213_219 BK213))⟩; replace BK214 : Aside0 (w72.heap[gb214]? = some (.cells #[.int .i64 0, .int .i64 0, .slice none 0 0] 35 (0, 0))) := ⟨(by rw [hw]; exact (bG NB214_219 BK214))⟩; replace BK217 : Aside0 (w72.heap[gb217]? = some (.cells #[.int .i64 a1_0, .int .i64 (wrap64 (a1_1 + 1)), u218002] 35 (0, 0))) := ⟨(by rw [hw]; exact (bG NB217_219 BK217))⟩; replace BK219 : Aside0 (w72.heap[gb219]? = some (.cells #[.int .i64 (wrap64 (((rd_T48 l1_2 x38_2).f0) + ((rd_T48 l1_2 x38_2).f2))), .int .i64 (wrap64 (((rd_T48 l1_2 x38_2).f1) + ((rd_T48 l1_2 x38_2).f3))), .int .i64 ((rd_T48 l1_2 x38_2).f2), .int .i64 ((rd_T48 l1_2 x38_2).f3), .int .i64 (wrap64 (((rd_T48 l1_2 x38_2).f4) - 1))] 48 (0, 0))) := ⟨(by rw [hw]; exact (by refine bU ?_; refine blk_put (cs := #[.int .i64 (wrap64 (((rd_T48 l1_2 x38_2).f0) + ((rd_T48 l1_2 x38_2).f2))), .int .i64 ((rd_T48 l1_2 x38_2).f1), .int .i64 ((rd_T48 l1_2 x38_2).f2), .int .i64 ((rd_T48 l1_2 x38_2).f3), .int .i64 (wrap64 (((rd_T48 l1_2 x38_2).f4) - 1))]) ?_ 1 _ rfl; refine bU ?_; exact BK219.out))⟩; replace HB : Aside0 (Below w.heap.size w w72) := ⟨(by rw [hw]; exact (lV5 GE212 GE213 GE214 GE217 GE219))⟩; clear hw; have hcz73_0 := cz BK219 0 (.int .i64 (wrap64 (((rd_T48 l1_2 x38_2).f0) + ((rd_T48 l1_2 x38_2).f2)))); have hcz73_1 := cz BK219 1 (.int .i64 (wrap64 (((rd_T48 l1_2 x38_2).f1) + ((rd_T48 l1_2 x38_2).f3)))); have hcz73_2 := cz BK219 2 (.int .i64 ((rd_T48 l1_2 x38_2).f2)); have hcz73_3 := cz BK219 3 (.int .i64 ((rd_T48 l1_2 x38_2).f3)); have hcz73_4 := cz BK219 4 (.int .i64 (wrap64 (((rd_T48 l1_2 x38_2).f4) - 1))); have hfz73_0 := fz BK219 0; have hfz73_1 := fz BK219 1; have hfz73_2 := fz BK219 2; have hfz73_3 := fz BK219 3; have hfz73_4 := fz BK219 4; have hnb74 := NB212_213.out; have hnc74 := NB213_212.out; have hnb75 := NB212_214.out; have hnc75 := NB214_212.out; have hnb76 := NB212_217.out; have hnc76 := NB217_212.out; have hcz77_0 := cz BK212 0 (.int .i64 a0_0); have hcz77_1 := cz BK212 1 (.int .i64 a0_1); have hcz77_2 := cz BK212 2 (.int .i64 a0_2); have hcz77_3 := cz BK212 3 (.int .i64 a0_3); have hcz77_4 := cz BK212 4 (.int .i64 a0_4); have hcz77_5 := cz BK212 5 (.int .i64 a0_5); have hcz77_6 := cz BK212 6 (.int .i64 a0_6); have hfz77_0 := fz BK212 0; have hfz77_1 := fz BK212 1; have hfz77_2 := fz BK212 2; have hfz77_3 := fz BK212 3; have hfz77_4 := fz BK212 4; have hfz77_5 := fz BK212 5; have hfz77_6 := fz BK212 6) | ((with_reducible refine gate_store (t := 3) (p := 66) rfl ?_); refine store_event (t := 3) (p := 66) (v := ?vo_w78) (w1 := (w72.setCell ⟨gb219, 3, none⟩ (.int .i64 (wrap64 (((rd_T48 l1_2 x38_2).f3) - a0_6))))) ?hg ?ho ?hn ?hr ?_; (case ho => rfl); (case hg => rfl); (case hn => rfl); (case hr => first | (go_simp; done) | (go_simp; rfl) | (have hq0_ := (blk_cell BK219.out 3).trans (show _ = some _ from rfl); have hf0_ := blk_frozen BK219.out 3; first | (go_simp; done) | (go_simp; rfl))); intro w78 hw; replace HO_218002 : Aside0 (Kd.R k48 48 w78 w.heap.size (fun k_ => k_ ≠ gb219) u218002 x218002_2) := ⟨(by rw [hw]; exact (by (with_reducible repeat (first | apply Kd.R_alloc | apply Kd.R_drewN | apply Kd.R_drew)); exact Kd.R_mono (Kd.R_far (p := ⟨gb219, 3, none⟩) (Kd.R_mono HO_218002.out (fun k_ hk => (⟨hk, hk⟩ : _ ∧ k_ ≠ gb219))) (fun _ hk => hk.2) (.int .i64 (wrap64 (((rd_T48 l1_2 x38_2).f3) - a0_6)))) (fun _ hk => hk.1)))⟩; replace BK212 : Aside0 (w78.heap[gb212]? = some (.cells #[.int .i64 a0_0, .int .i64 a0_1, .int .i64 a0_2, .int .i64 a0_3, .int .i64 a0_4, .int .i64 a0_5, .int .i64 a0_6] 26 (0, 0))) := ⟨(by rw [hw]; exact (bG NB212_219 BK212))⟩; replace BK213 : Aside0 (w78.heap[gb213]? = some (.cells #[.int .i64 a1_0, .int .i64 a1_1, .slice (some ad218) l1_2.length c1_2] 35 (0, 0))) := ⟨(by rw [hw]; exact (bG NB213_219 BK213))⟩; replace BK214 : Aside0 (w78.heap[gb214]? = some (.cells #[.int .i64 0, .int .i64 0, .slice none 0 0] 35 (0, 0))) := ⟨(by rw [hw]; exact (bG NB214_219 BK214))⟩; replace BK217 : Aside0 (w78.heap[gb217]? = some (.cells #[.int .i64 a1_0, .int .i64 (wrap64 (a1_1 + 1)), u218002] 35 (0, 0))) := ⟨(by rw [hw]; exact (bG NB217_219 BK217))⟩; replace BK219 : Aside0 (w78.heap[gb219]? = some (.cells #[.int .i64 (wrap64 (((rd_T48 l1_2 x38_2).f0) + ((rd_T48 l1_2 x38_2).f2))), .int .i64 (wrap64 (((rd_T48 l1_2 x38_2).f1) + ((rd_T48 l1_2 x38_2).f3))), .int .i64 ((rd_T48 l1_2 x38_2).f2), .int .i64 (wrap64 (((rd_T48 l1_2 x38_2).f3) - a0_6)), .int .i64 (wrap64 (((rd_T48 l1_2 x38_2).f4) - 1))] 48 (0, 0))) := ⟨(by rw [hw]; exact (by refine bU ?_; refine blk_put (cs := #[.int .i64 (wrap64 (((rd_T48 l1_2 x38_2).f0) + ((rd_T48 l1_2 x38_2).f2))), .int .i64 (wrap64 (((rd_T48 l1_2 x38_2).f1) + ((rd_T48 l1_2 x38_2).f3))), .int .i64 ((rd_T48 l1_2 x38_2).f2), .int .i64 ((rd_T48 l1_2 x38_2).f3), .int .i64 (wrap64 (((rd_T48 l1_2 x38_2).f4) - 1))]) ?_ 3 _ rfl; refine bU ?_; exact BK219.out))⟩; replace HB : Aside0 (Below w.heap.size w w78) := ⟨(by rw [hw]; exact (lV5 GE212 GE213 GE214 GE217 GE219))⟩; clear hw; have hnb79 := NB217_213.out; have hnc79 := NB213_217.out; have hnb80 := NB217_214.out; have hnc80 := NB214_217.out; have hcz81_0 := cz BK217 0 (.int .i64 a1_0); have hcz81_1 := cz BK217 1 (.int .i64 (wrap64 (a1_1 + 1))); have hcz81_2 := cz BK217 2 (u218002); have hfz81_0 := fz BK217 0; have hfz81_1 := fz BK217 1; have hfz81_2 := fz BK217 2; have hcz82_0 := cz BK219 0 (.int .i64 (wrap64 (((rd_T48 l1_2 x38_2).f0) + ((rd_T48 l1_2 x38_2).f2)))); have hcz82_1 := cz BK219 1 (.int .i64 (wrap64 (((rd_T48 l1_2 x38_2).f1) + ((rd_T48 l1_2 x38_2).f3)))); have hcz82_2 := cz BK219 2 (.int .i64 ((rd_T48 l1_2 x38_2).f2)); have hcz82_3 := cz BK219 3 (.int .i64 (wrap64 (((rd_T48 l1_2 x38_2).f3) - a0_6))); have hcz82_4 := cz BK219 4 (.int .i64 (wrap64 (((rd_T48 l1_2 x38_2).f4) - 1))); have hfz82_0 := fz BK219 0; have hfz82_1 := fz BK219 1; have hfz82_2 := fz BK219 2; have hfz82_3 := fz BK219 3; have hfz82_4 := fz BK219 4) | ((with_reducible refine gate_builtin (b := .append) (xs := #[.tmp 68, .tmp 70]) rfl ?_); (try (refine gate_guard (by rfl) ?_; dsimp only)); at_builtin; refine Kd.R_append k48 (w0 := w) w.heap.size rfl (.tmp 68) (.tmp 70) 33 48 (.agg #[(.int .i64 0), (.int .i64 0), (.int .i64 0), (.int .i64 0), (.int .i64 0)]) 40 rfl Try.underlying33 info48 rfl (by decide) (by omega) u218002 x218002_2 (⟨wrap64 (((rd_T48 l1_2 x38_2).f0) + ((rd_T48 l1_2 x38_2).f2)), wrap64 (((rd_T48 l1_2 x38_2).f1) + ((rd_T48 l1_2 x38_2).f3)), (rd_T48 l1_2 x38_2).f2, wrap64 (((rd_T48 l1_2 x38_2).f3) - a0_6), wrap64 (((rd_T48 l1_2 x38_2).f4) - 1)⟩ : S48) [.int .i64 (wrap64 (((rd_T48 l1_2 x38_2).f0) + ((rd_T48 l1_2 x38_2).f2))), .int .i64 (wrap64 (((rd_T48 l1_2 x38_2).f1) + ((rd_T48 l1_2 x38_2).f3))), .int .i64 ((rd_T48 l1_2 x38_2).f2), .int .i64 (wrap64 (((rd_T48 l1_2 x38_2).f3) - a0_6)), .int .i64 (wrap64 (((rd_T48 l1_2 x38_2).f4) - 1))] (fun k_ => k_ ≠ gb219) (fun _ => False) rfl rfl ?aP (fun _ hk => hk.elim) ?aF ?aO ?aB ?aS ?aL ?_; (case aP => exact k48_mkM _ _ _ (⟨wrap64 (((rd_T48 l1_2 x38_2).f0) + ((rd_T48 l1_2 x38_2).f2)), wrap64 (((rd_T48 l1_2 x38_2).f1) + ((rd_T48 l1_2 x38_2).f3)), (rd_T48 l1_2 x38_2).f2, wrap64 (((rd_T48 l1_2 x38_2).f3) - a0_6), wrap64 (((rd_T48 l1_2 x38_2).f4) - 1)⟩ : S48)); (case aB => exact (lV5 GE212 GE213 GE214 GE217 GE219)); (case aF => exact (fun k_ hk => Kd.freshB (g := gb219) (o := .cells #[.int .i64 (wrap64 (((rd_T48 l1_2 x38_2).f0) + ((rd_T48 l1_2 x38_2).f2))), .int .i64 (wrap64 (((rd_T48 l1_2 x38_2).f1) + ((rd_T48 l1_2 x38_2).f3))), .int .i64 ((rd_T48 l1_2 x38_2).f2), .int .i64 (wrap64 (((rd_T48 l1_2 x38_2).f3) - a0_6)), .int .i64 (wrap64 (((rd_T48 l1_2 x38_2).f4) - 1))] 48 (0, 0)) (bV BK219) k_ hk)); (case aO => exact (rU HO_218002.out)); (case aS => exact (below_size (lV5 GE212 GE213 GE214 GE217 GE219))); (case aL => have := LMc59.out; omega); intro v221 w83 ho hb hg hat; rw [← Ny220.out] at ho; replace BK212 := Aside0.mk (blk_grown (g := gb212) (o := .cells #[.int .i64 a0_0, .int .i64 a0_1, .int .i64 a0_2, .int .i64 a0_3, .int .i64 a0_4, .int .i64 a0_5, .int .i64 a0_6] 26 (0, 0)) (bV BK212) hg (Kd.R_ne HO_218002.out BK212.out (by decide))); replace BK213 := Aside0.mk (blk_grown (g := gb213) (o := .cells #[.int .i64 a1_0, .int .i64 a1_1, .slice (some ad218) l1_2.length c1_2] 35 (0, 0)) (bV BK213) hg (Kd.R_ne HO_218002.out BK213.out (by decide))); replace BK214 := Aside0.mk (blk_grown (g := gb214) (o := .cells #[.int .i64 0, .int .i64 0, .slice none 0 0] 35 (0, 0)) (bV BK214) hg (Kd.R_ne HO_218002.out BK214.out (by decide))); replace BK217 := Aside0.mk (blk_grown (g := gb217) (o := .cells #[.int .i64 a1_0, .int .i64 (wrap64 (a1_1 + 1)), u218002] 35 (0, 0)) (bV BK217) hg (Kd.R_ne HO_218002.out BK217.out (by decide))); replace BK219 := Aside0.mk (blk_grown (g := gb219) (o := .cells #[.int .i64 (wrap64 (((rd_T48 l1_2 x38_2).f0) + ((rd_T48 l1_2 x38_2).f2))), .int .i64 (wrap64 (((rd_T48 l1_2 x38_2).f1) + ((rd_T48 l1_2 x38_2).f3))), .int .i64 ((rd_T48 l1_2 x38_2).f2), .int .i64 (wrap64 (((rd_T48 l1_2 x38_2).f3) - a0_6)), .int .i64 (wrap64 (((rd_T48 l1_2 x38_2).f4) - 1))] 48 (0, 0)) (bV BK219) hg (Kd.R_away HO_218002.out (fun _ hk => hk))); replace HB := Aside0.mk hb; have HO222 := Aside0.mk ho; clear HO_218002; clear ho hb hg hat; obtain ⟨Ao84, co84, eo84⟩ := Kd.R_slice HO222.out; subst eo84; have hcz85_0 := cz BK217 0 (.int .i64 a1_0); have hcz85_1 := cz BK217 1 (.int .i64 (wrap64 (a1_1 + 1))); have hcz85_2 := cz BK217 2 (u218002); have hfz85_0 := fz BK217 0; have hfz85_1 := fz BK217 1; have hfz85_2 := fz BK217 2) | ((with_reducible refine gate_store (t := 33) (p := 72) rfl ?_); refine store_event (t := 33) (p := 72) (v := ?vo_w86) (w1 := (w83.setCell ⟨gb217, 2, none⟩ (.slice Ao84 y220.length co84))) ?hg ?ho ?hn ?hr ?_; (case ho => rfl); (case hg => rfl); (case hn => rfl); (case hr => first | (go_simp; done) | (go_simp; rfl) | (have hq0_ := (blk_cell BK217.out 2).trans (show _ = some _ from rfl); have hf0_ := blk_frozen BK217.out 2; first | (go_simp; done) | (go_simp; rfl))); intro w86 hw; replace HO222 : Aside0 (Kd.R k48 48 w86 w.heap.size (fun k_ => k_ ≠ gb219) (.slice Ao84 y220.length co84) y220) := ⟨(by rw [hw]; exact (by (with_reducible repeat (first | apply Kd.R_alloc | apply Kd.R_drewN | apply Kd.R_drew)); exact Kd.R_mono (Kd.R_far (p := ⟨gb217, 2, none⟩) (Kd.R_types HO222.out BK217.out (by decide)) (fun _ hk => hk.2) (.slice Ao84 y220.length co84)) (fun _ hk => hk.1)))⟩; replace BK212 : Aside0 (w86.heap[gb212]? = some (.cells #[.int .i64 a0_0, .int .i64 a0_1, .int .i64 a0_2, .int .i64 a0_3, .int .i64 a0_4, .int .i64 a0_5, .int .i64 a0_6] 26 (0, 0))) := ⟨(by rw [hw]; exact (bG NB212_217 BK212))⟩; replace BK213 : Aside0 (w86.heap[gb213]? = some (.cells #[.int .i64 a1_0, .int .i64 a1_1, .slice (some ad218) l1_2.length c1_2] 35 (0, 0))) := ⟨(by rw [hw]; exact (bG NB213_217 BK213))⟩; replace BK214 : Aside0 (w86.heap[gb214]? = some (.cells #[.int .i64 0, .int .i64 0, .slice none 0 0] 35 (0, 0))) := ⟨(by rw [hw]; exact (bG NB214_217 BK214))⟩; replace BK217 : Aside0 (w86.heap[gb217]? = some (.cells #[.int .i64 a1_0, .int .i64 (wrap64 (a1_1 + 1)), .slice Ao84 y220.length co84] 35 (0, 0))) := ⟨(by rw [hw]; exact (by refine bU ?_; refine blk_put (cs := #[.int .i64 a1_0, .int .i64 (wrap64 (a1_1 + 1)), u218002]) ?_ 2 _ rfl; refine bU ?_; exact BK217.out))⟩; replace BK219 : Aside0 (w86.heap[gb219]? = some (.cells #[.int .i64 (wrap64 (((rd_T48 l1_2 x38_2).f0) + ((rd_T48 l1_2 x38_2).f2))), .int .i64 (wrap64 (((rd_T48 l1_2 x38_2).f1) + ((rd_T48 l1_2 x38_2).f3))), .int .i64 ((rd_T48 l1_2 x38_2).f2), .int .i64 (wrap64 (((rd_T48 l1_2 x38_2).f3) - a0_6)), .int .i64 (wrap64 (((rd_T48 l1_2 x38_2).f4) - 1))] 48 (0, 0))) := ⟨(by rw [hw]; exact (bG NB219_217 BK219))⟩; replace HB : Aside0 (Below w.heap.size w w86) := ⟨(by rw [hw]; exact (lV5 GE212 GE213 GE214 GE217 GE219))⟩; clear hw))
           go_roundg k2
           case measure => have := HJ2.out; have := HK2.out; omega
           case rel => exact ⟨(wrap64 (x38_2 + 1)), (y220), (.slice Ao84 y220.length co84), tE, H', ⟨by have := HJ2.out; have := HK2.out; omega⟩, ⟨by (with_reducible repeat (first | apply Kd.R_alloc | apply Kd.R_drewN | apply Kd.R_drew)); exact Kd.R_mono HO222.out (fun _ hk => trivial)⟩, ⟨by refine bU ?_; exact BK212.out⟩, ⟨by refine bU ?_; exact BK213.out⟩, ⟨by refine bU ?_; exact BK214.out⟩, ⟨by refine bU ?_; exact BK217.out⟩, ⟨by repeat (first | (with_reducible first | exact HB.out | apply below_alloc | apply pw_below_drewN | apply below_drew1 | refine below_set ?_ GE212.out | refine below_set ?_ GE213.out | refine below_set ?_ GE214.out | refine below_set ?_ GE217.out | refine below_set ?_ GE219.out) | exact HB.out)⟩⟩
          ·rw [if_neg c59] at H
           exact absurd H (by simp)
        ·rw [if_neg c47] at H
         exact absurd H (by simp)
       ·rw [if_neg c46] at H
        exact absurd H (by simp)
      ·rw [if_neg c45] at H
       have c45b0 : decide (x38_2 < (l1_2.length : Int)) = false := decide_eq_false c45
       clear c45
       by_cases c87 : a0_2 = 0
       ·rw [if_pos c87] at H
        exact absurd H (by simp)
       ·rw [if_neg c87] at H
        have c87b0 : (a0_2 == 0) = false := beq_eq_false_iff_ne.mpr c87
        have c87b1 : (a0_2 != 0) = true := bne_iff_ne.mpr c87
        by_cases c88 : (Int.tmod a1_1 a0_2) = 0
        ·rw [if_pos c88] at H
         have c88b0 : ((Int.tmod a1_1 a0_2) == 0) = true := beq_iff_eq.mpr c88
         have c88b1 : ((Int.tmod a1_1 a0_2) != 0) = false := bne_eq_false_iff_eq.mpr c88
         clear c88
         have H' := Aside0.mk H
         clear H
         have hnb89 := NB213_212.out
         have hnc89 := NB212_213.out
         have hnb90 := NB213_214.out
         have hnc90 := NB214_213.out
         have hnb91 := NB213_217.out
         have hnc91 := NB217_213.out
         have hcz92_0 := cz BK213 0 (.int .i64 a1_0)
         have hcz92_1 := cz BK213 1 (.int .i64 a1_1)
         have hcz92_2 := cz BK213 2 (.slice A1_2 l1_2.length c1_2)
         have hfz92_0 := fz BK213 0
         have hfz92_1 := fz BK213 1
         have hfz92_2 := fz BK213 2
         have hnb93 := NB212_214.out
         have hnc93 := NB214_212.out
         have hnb94 := NB212_217.out
         have hnc94 := NB217_212.out
         have hcz95_0 := cz BK212 0 (.int .i64 a0_0)
         have hcz95_1 := cz BK212 1 (.int .i64 a0_1)
         have hcz95_2 := cz BK212 2 (.int .i64 a0_2)
         have hcz95_3 := cz BK212 3 (.int .i64 a0_3)
         have hcz95_4 := cz BK212 4 (.int .i64 a0_4)
         have hcz95_5 := cz BK212 5 (.int .i64 a0_5)
         have hcz95_6 := cz BK212 6 (.int .i64 a0_6)
         have hfz95_0 := fz BK212 0
         have hfz95_1 := fz BK212 1
         have hfz95_2 := fz BK212 2
         have hfz95_3 := fz BK212 3
         have hfz95_4 := fz BK212 4
         have hfz95_5 := fz BK212 5
         have hfz95_6 := fz BK212 6
         go_wp2
         go_loopg [9] k2 (fun kq v9 w' => ∃ (x9_3 : Int) (x218000_3 : Int) (x218002_3 : List (S48)) (u218002 : Value), v9 = .int .i64 x9_3 ∧ Aside0 (spec_StepCloud.l1 kq x9_3 a0_0 a0_1 a0_2 a0_3 a0_4 a0_5 a0_6 x218000_3 (wrap64 (a1_1 + 1)) x218002_3 = some (r1, r2, r3, r4)) ∧ Aside0 (kq ≤ k2) ∧ Aside0 (Kd.R k48 48 w' w.heap.size (fun _ => True) u218002 x218002_3) ∧ Aside0 (w'.heap[gb212]? = some (.cells #[.int .i64 a0_0, .int .i64 a0_1, .int .i64 a0_2, .int .i64 a0_3, .int .i64 a0_4, .int .i64 a0_5, .int .i64 a0_6] 26 (0, 0))) ∧ Aside0 (w'.heap[gb213]? = some (.cells #[.int .i64 a1_0, .int .i64 a1_1, (.slice A1_2 l1_2.length c1_2)] 35 (0, 0))) ∧ Aside0 (w'.heap[gb214]? = some (.cells #[.int .i64 0, .int .i64 0, (.slice none 0 0)] 35 (0, 0))) ∧ Aside0 (w'.heap[gb217]? = some (.cells #[.int .i64 x218000_3, .int .i64 (wrap64 (a1_1 + 1)), u218002] 35 (0, 0))) ∧ Aside0 (Below w.heap.size w w'))
         case atStart => exact ⟨(0), (a1_0), (x218002_2), (u218002), tE, H', ⟨Nat.le_refl _⟩, ⟨by (with_reducible repeat (first | apply Kd.R_alloc | apply Kd.R_drewN | apply Kd.R_drew)); exact HO_218002.out⟩, ⟨by refine bU ?_; exact BK212.out⟩, ⟨by refine bU ?_; exact BK213.out⟩, ⟨by refine bU ?_; exact BK214.out⟩, ⟨by refine bU ?_; exact BK217.out⟩, ⟨by repeat (first | (with_reducible first | exact HB.out | apply below_alloc | apply pw_below_drewN | apply below_drew1 | refine below_set ?_ GE212.out | refine below_set ?_ GE213.out | refine below_set ?_ GE214.out | refine below_set ?_ GE217.out) | exact HB.out)⟩⟩
         case round =>
          clear H'
          try clear c1
          try clear q1
          try clear c2
          try clear p2
          try clear q2
          try clear hx2
          try clear hf2
          try clear c3
          try clear q3
          try clear hf3
          try clear c4
          try clear q4
          try clear hf4
          try clear c5
          try clear c6
          try clear p6
          try clear c7
          try clear c8
          try clear c9
          try clear c10
          try clear c11
          try clear c12
          try clear c15
          try clear c19
          try clear c20
          try clear p21
          try clear q21
          try clear hx21
          try clear c23
          try clear c26
          try clear c27
          try clear c30
          try clear c31
          try clear c32
          try clear c35
          try clear c36
          try clear c39
          try clear c40
          try clear c41
          try clear c45
          try clear c45b0
          try clear c46
          try clear c46b0
          try clear c47
          try clear c47b0
          try clear c48
          try clear c48b0
          try clear c48b1
          try clear c50
          try clear c51
          try clear c52
          try clear c53
          try clear c59
          try clear c61
          try clear c62
          try clear c63
          try clear c64
          try clear p64
          try clear c74
          try clear c75
          try clear c76
          try clear c79
          try clear c80
          try clear c87
          try clear c87b0
          try clear c87b1
          try clear c88
          try clear c88b0
          try clear c88b1
          try clear c89
          try clear c90
          try clear c91
          try clear c93
          try clear c94
          try clear hcz13_0
          try clear hcz13_1
          try clear hcz13_2
          try clear hcz13_3
          try clear hcz13_4
          try clear hcz13_5
          try clear hcz13_6
          try clear hcz16_0
          try clear hcz16_1
          try clear hcz16_2
          try clear hcz18_0
          try clear hcz18_1
          try clear hcz18_2
          try clear hcz21_0
          try clear hcz21_1
          try clear hcz21_2
          try clear hcz21_3
          try clear hcz21_4
          try clear hcz21_5
          try clear hcz21_6
          try clear hcz24_0
          try clear hcz24_1
          try clear hcz24_2
          try clear hcz28_0
          try clear hcz28_1
          try clear hcz28_2
          try clear hcz28_3
          try clear hcz28_4
          try clear hcz28_5
          try clear hcz28_6
          try clear hcz33_0
          try clear hcz33_1
          try clear hcz33_2
          try clear hcz37_0
          try clear hcz37_1
          try clear hcz37_2
          try clear hcz42_0
          try clear hcz42_1
          try clear hcz42_2
          try clear hcz44_0
          try clear hcz44_1
          try clear hcz44_2
          try clear hcz54_0
          try clear hcz54_1
          try clear hcz54_2
          try clear hcz54_3
          try clear hcz54_4
          try clear hcz56_0
          try clear hcz56_1
          try clear hcz56_2
          try clear hcz56_3
          try clear hcz56_4
          try clear hcz58_0
          try clear hcz58_1
          try clear hcz58_2
          try clear hcz58_3
          try clear hcz58_4
          try clear hcz65_0
          try clear hcz65_1
          try clear hcz65_2
          try clear hcz65_3
          try clear hcz65_4
          try clear hcz67_0
          try clear hcz67_1
          try clear hcz67_2
          try clear hcz67_3
          try clear hcz67_4
          try clear hcz69_0
          try clear hcz69_1
          try clear hcz69_2
          try clear hcz69_3
          try clear hcz69_4
          try clear hcz71_0
          try clear hcz71_1
          try clear hcz71_2
          try clear hcz71_3
          try clear hcz71_4
          try clear hcz73_0
          try clear hcz73_1
          try clear hcz73_2
          try clear hcz73_3
          try clear hcz73_4
          try clear hcz77_0
          try clear hcz77_1
          try clear hcz77_2
          try clear hcz77_3
          try clear hcz77_4
          try clear hcz77_5
          try clear hcz77_6
          try clear hcz81_0
          try clear hcz81_1
          try clear hcz81_2
          try clear hcz82_0
          try clear hcz82_1
          try clear hcz82_2
          try clear hcz82_3
          try clear hcz82_4
          try clear hcz85_0
          try clear hcz85_1
          try clear hcz85_2
          try clear hcz92_0
          try clear hcz92_1
          try clear hcz92_2
          try clear hcz95_0
          try clear hcz95_1
          try clear hcz95_2
          try clear hcz95_3
          try clear hcz95_4
          try clear hcz95_5
          try clear hcz95_6
          try clear hfz13_0
          try clear hfz13_1
          try clear hfz13_2
          try clear hfz13_3
          try clear hfz13_4
          try clear hfz13_5
          try clear hfz13_6
          try clear hfz16_0
          try clear hfz16_1
          try clear hfz16_2
          try clear hfz18_0
          try clear hfz18_1
          try clear hfz18_2
          try clear hfz21_0
          try clear hfz21_1
          try clear hfz21_2
          try clear hfz21_3
          try clear hfz21_4
          try clear hfz21_5
          try clear hfz21_6
          try clear hfz24_0
          try clear hfz24_1
          try clear hfz24_2
          try clear hfz28_0
          try clear hfz28_1
          try clear hfz28_2
          try clear hfz28_3
          try clear hfz28_4
          try clear hfz28_5
          try clear hfz28_6
          try clear hfz33_0
          try clear hfz33_1
          try clear hfz33_2
          try clear hfz37_0
          try clear hfz37_1
          try clear hfz37_2
          try clear hfz42_0
          try clear hfz42_1
          try clear hfz42_2
          try clear hfz44_0
          try clear hfz44_1
          try clear hfz44_2
          try clear hfz54_0
          try clear hfz54_1
          try clear hfz54_2
          try clear hfz54_3
          try clear hfz54_4
          try clear hfz56_0
          try clear hfz56_1
          try clear hfz56_2
          try clear hfz56_3
          try clear hfz56_4
          try clear hfz58_0
          try clear hfz58_1
          try clear hfz58_2
          try clear hfz58_3
          try clear hfz58_4
          try clear hfz65_0
          try clear hfz65_1
          try clear hfz65_2
          try clear hfz65_3
          try clear hfz65_4
          try clear hfz67_0
          try clear hfz67_1
          try clear hfz67_2
          try clear hfz67_3
          try clear hfz67_4
          try clear hfz69_0
          try clear hfz69_1
          try clear hfz69_2
          try clear hfz69_3
          try clear hfz69_4
          try clear hfz71_0
          try clear hfz71_1
          try clear hfz71_2
          try clear hfz71_3
          try clear hfz71_4
          try clear hfz73_0
          try clear hfz73_1
          try clear hfz73_2
          try clear hfz73_3
          try clear hfz73_4
          try clear hfz77_0
          try clear hfz77_1
          try clear hfz77_2
          try clear hfz77_3
          try clear hfz77_4
          try clear hfz77_5
          try clear hfz77_6
          try clear hfz81_0
          try clear hfz81_1
          try clear hfz81_2
          try clear hfz82_0
          try clear hfz82_1
          try clear hfz82_2
          try clear hfz82_3
          try clear hfz82_4
          try clear hfz85_0
          try clear hfz85_1
          try clear hfz85_2
          try clear hfz92_0
          try clear hfz92_1
          try clear hfz92_2
          try clear hfz95_0
          try clear hfz95_1
          try clear hfz95_2
          try clear hfz95_3
          try clear hfz95_4
          try clear hfz95_5
          try clear hfz95_6
          try clear hx218_0
          try clear hx218_1
          try clear hx218_2
          try clear hx218_3
          try clear hx218_4
          try clear p2
          try clear p218
          try clear p6
          try clear q1
          try clear q2
          try clear q218
          obtain ⟨x9_3, x218000_3, x218002_3, u218002, rfl, HA, HK3, HO_218002, BK212, BK213, BK214, BK217, HB⟩ := hrel
          cases gk with
          | zero => exact absurd HA.out (by simp [spec_StepCloud.l1])
          | succ k3 =>
           have H := HA.out
           clear HA
           simp only [spec_StepCloud.l1] at H
           have HC96 := Aside0.mk H
           clear H
           go_upto_region 16 with (fail)
           go_cut [89] (fun v89 wc => ∃ (kq : Nat) (x89_95 : Bool), v89 = .bool x89_95 ∧ Aside0 (spec_StepCloud.j3 kq x9_3 x89_95 a0_0 a0_1 a0_2 a0_3 a0_4 a0_5 a0_6 x218000_3 (wrap64 (a1_1 + 1)) x218002_3 = some (r1, r2, r3, r4)) ∧ Aside0 (kq ≤ k3) ∧ Aside0 (Kd.R k48 48 wc w.heap.size (fun _ => True) u218002 x218002_3) ∧ Aside0 (wc.heap[gb212]? = some (.cells #[.int .i64 a0_0, .int .i64 a0_1, .int .i64 a0_2, .int .i64 a0_3, .int .i64 a0_4, .int .i64 a0_5, .int .i64 a0_6] 26 (0, 0))) ∧ Aside0 (wc.heap[gb213]? = some (.cells #[.int .i64 a1_0, .int .i64 a1_1, (.slice A1_2 l1_2.length c1_2)] 35 (0, 0))) ∧ Aside0 (wc.heap[gb214]? = some (.cells #[.int .i64 0, .int .i64 0, (.slice none 0 0)] 35 (0, 0))) ∧ Aside0 (wc.heap[gb217]? = some (.cells #[.int .i64 x218000_3, .int .i64 (wrap64 (a1_1 + 1)), u218002] 35 (0, 0))) ∧ Aside0 (Below w.heap.size w wc))
           case first =>
            have H := HC96.out
            clear HC96
            by_cases c97 : x9_3 < a0_3
            ·rw [if_pos c97] at H
             have c97b0 : decide (x9_3 < a0_3) = true := decide_eq_true c97
             clear c97
             (first | rw [c97b0] | (simp only [i64_w, i32_w]; rw [c97b0]) | (rw [c97b2]; simp only [Bool.not_false, Bool.not_true]) | skip)
             have H' := Aside0.mk H
             clear H
             have hnb98 := NB212_213.out
             have hnc98 := NB213_212.out
             have hnb99 := NB212_214.out
             have hnc99 := NB214_212.out
             have hnb100 := NB212_217.out
             have hnc100 := NB217_212.out
             have hcz101_0 := cz BK212 0 (.int .i64 a0_0)
             have hcz101_1 := cz BK212 1 (.int .i64 a0_1)
             have hcz101_2 := cz BK212 2 (.int .i64 a0_2)
             have hcz101_3 := cz BK212 3 (.int .i64 a0_3)
             have hcz101_4 := cz BK212 4 (.int .i64 a0_4)
             have hcz101_5 := cz BK212 5 (.int .i64 a0_5)
             have hcz101_6 := cz BK212 6 (.int .i64 a0_6)
             have hfz101_0 := fz BK212 0
             have hfz101_1 := fz BK212 1
             have hfz101_2 := fz BK212 2
             have hfz101_3 := fz BK212 3
             have hfz101_4 := fz BK212 4
             have hfz101_5 := fz BK212 5
             have hfz101_6 := fz BK212 6
             have hnb102 := NB217_213.out
             have hnc102 := NB213_217.out
             have hnb103 := NB217_214.out
             have hnc103 := NB214_217.out
             have hcz104_0 := cz BK217 0 (.int .i64 x218000_3)
             have hcz104_1 := cz BK217 1 (.int .i64 (wrap64 (a1_1 + 1)))
             have hcz104_2 := cz BK217 2 (u218002)
             have hfz104_0 := fz BK217 0
             have hfz104_1 := fz BK217 1
             have hfz104_2 := fz BK217 2
             obtain ⟨Ao105, co105, eo105⟩ := Kd.R_slice HO_218002.out
             subst eo105
             go_wp2
             go_meet
             case rel => exact ⟨_, (decide ((x218002_3.length : Int) < 60)), tE, H', ⟨by have := HJ2.out; have := HK2.out; have := HK3.out; first | omega | exact Nat.le_refl _⟩, ⟨by (with_reducible repeat (first | apply Kd.R_alloc | apply Kd.R_drewN | apply Kd.R_drew)); exact HO_218002.out⟩, ⟨by refine bU ?_; exact BK212.out⟩, ⟨by refine bU ?_; exact BK213.out⟩, ⟨by refine bU ?_; exact BK214.out⟩, ⟨by refine bU ?_; exact BK217.out⟩, ⟨by repeat (first | (with_reducible first | exact HB.out | apply below_alloc | apply pw_below_drewN | apply below_drew1 | refine below_set ?_ GE212.out | refine below_set ?_ GE213.out | refine below_set ?_ GE214.out | refine below_set ?_ GE217.out) | exact HB.out)⟩⟩
            ·rw [if_neg c97] at H
             have c97b0 : decide (x9_3 < a0_3) = false := decide_eq_false c97
             clear c97
             (first | rw [c97b0] | (simp only [i64_w, i32_w]; rw [c97b0]) | (rw [c97b2]; simp only [Bool.not_false, Bool.not_true]) | skip)
             have H' := Aside0.mk H
             clear H
             have hnb106 := NB212_213.out
             have hnc106 := NB213_212.out
             have hnb107 := NB212_214.out
             have hnc107 := NB214_212.out
             have hnb108 := NB212_217.out
             have hnc108 := NB217_212.out
             have hcz109_0 := cz BK212 0 (.int .i64 a0_0)
             have hcz109_1 := cz BK212 1 (.int .i64 a0_1)
             have hcz109_2 := cz BK212 2 (.int .i64 a0_2)
             have hcz109_3 := cz BK212 3 (.int .i64 a0_3)
             have hcz109_4 := cz BK212 4 (.int .i64 a0_4)
             have hcz109_5 := cz BK212 5 (.int .i64 a0_5)
             have hcz109_6 := cz BK212 6 (.int .i64 a0_6)
             have hfz109_0 := fz BK212 0
             have hfz109_1 := fz BK212 1
             have hfz109_2 := fz BK212 2
             have hfz109_3 := fz BK212 3
             have hfz109_4 := fz BK212 4
             have hfz109_5 := fz BK212 5
             have hfz109_6 := fz BK212 6
             go_wp2
             go_meet
             case rel => exact ⟨_, (false), tE, H', ⟨by have := HJ2.out; have := HK2.out; have := HK3.out; first | omega | exact Nat.le_refl _⟩, ⟨by (with_reducible repeat (first | apply Kd.R_alloc | apply Kd.R_drewN | apply Kd.R_drew)); exact HO_218002.out⟩, ⟨by refine bU ?_; exact BK212.out⟩, ⟨by refine bU ?_; exact BK213.out⟩, ⟨by refine bU ?_; exact BK214.out⟩, ⟨by refine bU ?_; exact BK217.out⟩, ⟨by repeat (first | (with_reducible first | exact HB.out | apply below_alloc | apply pw_below_drewN | apply below_drew1 | refine below_set ?_ GE212.out | refine below_set ?_ GE213.out | refine below_set ?_ GE214.out | refine below_set ?_ GE217.out) | exact HB.out)⟩⟩
           case rest =>
            clear HC96
            try clear c1
            try clear q1
            try clear c2
            try clear p2
            try clear q2
            try clear hx2
            try clear hf2
            try clear c3
            try clear q3
            try clear hf3
            try clear c4
            try clear q4
            try clear hf4
            try clear c5
            try clear c6
            try clear p6
            try clear c7
            try clear c8
            try clear c9
            try clear c10
            try clear c11
            try clear c12
            try clear c15
            try clear c19
            try clear c20
            try clear p21
            try clear q21
            try clear hx21
            try clear c23
            try clear c26
            try clear c27
            try clear c30
            try clear c31
            try clear c32
            try clear c35
            try clear c36
            try clear c39
            try clear c40
            try clear c41
            try clear c45
            try clear c45b0
            try clear c46
            try clear c46b0
            try clear c47
            try clear c47b0
            try clear c48
            try clear c48b0
            try clear c48b1
            try clear c50
            try clear c51
            try clear c52
            try clear c53
            try clear c59
            try clear c61
            try clear c62
            try clear c63
            try clear c64
            try clear p64
            try clear c74
            try clear c75
            try clear c76
            try clear c79
            try clear c80
            try clear c87
            try clear c87b0
            try clear c87b1
            try clear c88
            try clear c88b0
            try clear c88b1
            try clear c89
            try clear c90
            try clear c91
            try clear c93
            try clear c94
            try clear c97
            try clear c97b0
            try clear c97b2
            try clear c98
            try clear c99
            try clear c100
            try clear c102
            try clear c103
            try clear c106
            try clear c107
            try clear c108
            try clear hcz101_0
            try clear hcz101_1
            try clear hcz101_2
            try clear hcz101_3
            try clear hcz101_4
            try clear hcz101_5
            try clear hcz101_6
            try clear hcz104_0
            try clear hcz104_1
            try clear hcz104_2
            try clear hcz109_0
            try clear hcz109_1
            try clear hcz109_2
            try clear hcz109_3
            try clear hcz109_4
            try clear hcz109_5
            try clear hcz109_6
            try clear hcz13_0
            try clear hcz13_1
            try clear hcz13_2
            try clear hcz13_3
            try clear hcz13_4
            try clear hcz13_5
            try clear hcz13_6
            try clear hcz16_0
            try clear hcz16_1
            try clear hcz16_2
            try clear hcz18_0
            try clear hcz18_1
            try clear hcz18_2
            try clear hcz21_0
            try clear hcz21_1
            try clear hcz21_2
            try clear hcz21_3
            try clear hcz21_4
            try clear hcz21_5
            try clear hcz21_6
            try clear hcz24_0
            try clear hcz24_1
            try clear hcz24_2
            try clear hcz28_0
            try clear hcz28_1
            try clear hcz28_2
            try clear hcz28_3
            try clear hcz28_4
            try clear hcz28_5
            try clear hcz28_6
            try clear hcz33_0
            try clear hcz33_1
            try clear hcz33_2
            try clear hcz37_0
            try clear hcz37_1
            try clear hcz37_2
            try clear hcz42_0
            try clear hcz42_1
            try clear hcz42_2
            try clear hcz44_0
            try clear hcz44_1
            try clear hcz44_2
            try clear hcz54_0
            try clear hcz54_1
            try clear hcz54_2
            try clear hcz54_3
            try clear hcz54_4
            try clear hcz56_0
            try clear hcz56_1
            try clear hcz56_2
            try clear hcz56_3
            try clear hcz56_4
            try clear hcz58_0
            try clear hcz58_1
            try clear hcz58_2
            try clear hcz58_3
            try clear hcz58_4
            try clear hcz65_0
            try clear hcz65_1
            try clear hcz65_2
            try clear hcz65_3
            try clear hcz65_4
            try clear hcz67_0
            try clear hcz67_1
            try clear hcz67_2
            try clear hcz67_3
            try clear hcz67_4
            try clear hcz69_0
            try clear hcz69_1
            try clear hcz69_2
            try clear hcz69_3
            try clear hcz69_4
            try clear hcz71_0
            try clear hcz71_1
            try clear hcz71_2
            try clear hcz71_3
            try clear hcz71_4
            try clear hcz73_0
            try clear hcz73_1
            try clear hcz73_2
            try clear hcz73_3
            try clear hcz73_4
            try clear hcz77_0
            try clear hcz77_1
            try clear hcz77_2
            try clear hcz77_3
            try clear hcz77_4
            try clear hcz77_5
            try clear hcz77_6
            try clear hcz81_0
            try clear hcz81_1
            try clear hcz81_2
            try clear hcz82_0
            try clear hcz82_1
            try clear hcz82_2
            try clear hcz82_3
            try clear hcz82_4
            try clear hcz85_0
            try clear hcz85_1
            try clear hcz85_2
            try clear hcz92_0
            try clear hcz92_1
            try clear hcz92_2
            try clear hcz95_0
            try clear hcz95_1
            try clear hcz95_2
            try clear hcz95_3
            try clear hcz95_4
            try clear hcz95_5
            try clear hcz95_6
            try clear hfz101_0
            try clear hfz101_1
            try clear hfz101_2
            try clear hfz101_3
            try clear hfz101_4
            try clear hfz101_5
            try clear hfz101_6
            try clear hfz104_0
            try clear hfz104_1
            try clear hfz104_2
            try clear hfz109_0
            try clear hfz109_1
            try clear hfz109_2
            try clear hfz109_3
            try clear hfz109_4
            try clear hfz109_5
            try clear hfz109_6
            try clear hfz13_0
            try clear hfz13_1
            try clear hfz13_2
            try clear hfz13_3
            try clear hfz13_4
            try clear hfz13_5
            try clear hfz13_6
            try clear hfz16_0
            try clear hfz16_1
            try clear hfz16_2
            try clear hfz18_0
            try clear hfz18_1
            try clear hfz18_2
            try clear hfz21_0
            try clear hfz21_1
            try clear hfz21_2
            try clear hfz21_3
            try clear hfz21_4
            try clear hfz21_5
            try clear hfz21_6
            try clear hfz24_0
            try clear hfz24_1
            try clear hfz24_2
            try clear hfz28_0
            try clear hfz28_1
            try clear hfz28_2
            try clear hfz28_3
            try clear hfz28_4
            try clear hfz28_5
            try clear hfz28_6
            try clear hfz33_0
            try clear hfz33_1
            try clear hfz33_2
            try clear hfz37_0
            try clear hfz37_1
            try clear hfz37_2
            try clear hfz42_0
            try clear hfz42_1
            try clear hfz42_2
            try clear hfz44_0
            try clear hfz44_1
            try clear hfz44_2
            try clear hfz54_0
            try clear hfz54_1
            try clear hfz54_2
            try clear hfz54_3
            try clear hfz54_4
            try clear hfz56_0
            try clear hfz56_1
            try clear hfz56_2
            try clear hfz56_3
            try clear hfz56_4
            try clear hfz58_0
            try clear hfz58_1
            try clear hfz58_2
            try clear hfz58_3
            try clear hfz58_4
            try clear hfz65_0
            try clear hfz65_1
            try clear hfz65_2
            try clear hfz65_3
            try clear hfz65_4
            try clear hfz67_0
            try clear hfz67_1
            try clear hfz67_2
            try clear hfz67_3
            try clear hfz67_4
            try clear hfz69_0
            try clear hfz69_1
            try clear hfz69_2
            try clear hfz69_3
            try clear hfz69_4
            try clear hfz71_0
            try clear hfz71_1
            try clear hfz71_2
            try clear hfz71_3
            try clear hfz71_4
            try clear hfz73_0
            try clear hfz73_1
            try clear hfz73_2
            try clear hfz73_3
            try clear hfz73_4
            try clear hfz77_0
            try clear hfz77_1
            try clear hfz77_2
            try clear hfz77_3
            try clear hfz77_4
            try clear hfz77_5
            try clear hfz77_6
            try clear hfz81_0
            try clear hfz81_1
            try clear hfz81_2
            try clear hfz82_0
            try clear hfz82_1
            try clear hfz82_2
            try clear hfz82_3
            try clear hfz82_4
            try clear hfz85_0
            try clear hfz85_1
            try clear hfz85_2
            try clear hfz92_0
            try clear hfz92_1
            try clear hfz92_2
            try clear hfz95_0
            try clear hfz95_1
            try clear hfz95_2
            try clear hfz95_3
            try clear hfz95_4
            try clear hfz95_5
            try clear hfz95_6
            try clear hx218_0
            try clear hx218_1
            try clear hx218_2
            try clear hx218_3
            try clear hx218_4
            try clear p2
            try clear p21
            try clear p218
            try clear p6
            try clear p64
            try clear q1
            try clear q2
            try clear q21
            try clear q218
            try clear q3
            try clear q4
            obtain ⟨kq, x89_95, rfl, HA, HJ95, HO_218002, BK212, BK213, BK214, BK217, HB⟩ := hcut
            cases kq with
            | zero => exact absurd HA.out (by simp [spec_StepCloud.j3])
            | succ kj95 =>
             have H := HA.out
             clear HA
             simp only [spec_StepCloud.j3] at H
             by_cases c110 : x89_95 = true
             ·subst c110
              have H1 : ((spec_l1Coin.f x218000_3).bind fun bt224 => ((spec_l1Coin.f bt224.1).bind fun bt226 => ((spec_CosOf.f kj95 (Int.tmod bt224.2 4096)).bind fun t228 => ((spec_FixMul.f kj95 (wrap64 (Int.tdiv (wrap64 (a0_5 * bt226.2)) 32768)) t228).bind fun t229 => ((spec_SinOf.f kj95 (Int.tmod bt224.2 4096)).bind fun t230 => ((spec_FixMul.f kj95 (wrap64 (Int.tdiv (wrap64 (a0_5 * bt226.2)) 32768)) t230).bind fun t231 => (if x218002_3.length < 3518437208883 then (spec_StepCloud.l1 kj95 (wrap64 (x9_3 + 1)) a0_0 a0_1 a0_2 a0_3 a0_4 a0_5 a0_6 bt226.1 (wrap64 (a1_1 + 1)) (x218002_3 ++ [(⟨a0_0, a0_1, t229, t231, a0_4⟩ : S48)])) else (none)))))))) = some (r1, r2, r3, r4) := by rw [if_pos rfl] at H; exact H
              clear H
              have H := H1
              clear H1
              replace H := Option.bind_eq_some_iff.mp H
              obtain ⟨⟨t224, t225⟩, A1110, H⟩ := H
              replace H : ((spec_l1Coin.f t224).bind fun bt226 => ((spec_CosOf.f kj95 (Int.tmod t225 4096)).bind fun t228 => ((spec_FixMul.f kj95 (wrap64 (Int.tdiv (wrap64 (a0_5 * bt226.2)) 32768)) t228).bind fun t229 => ((spec_SinOf.f kj95 (Int.tmod t225 4096)).bind fun t230 => ((spec_FixMul.f kj95 (wrap64 (Int.tdiv (wrap64 (a0_5 * bt226.2)) 32768)) t230).bind fun t231 => (if x218002_3.length < 3518437208883 then (spec_StepCloud.l1 kj95 (wrap64 (x9_3 + 1)) a0_0 a0_1 a0_2 a0_3 a0_4 a0_5 a0_6 bt226.1 (wrap64 (a1_1 + 1)) (x218002_3 ++ [(⟨a0_0, a0_1, t229, t231, a0_4⟩ : S48)])) else (none))))))) = some (r1, r2, r3, r4) := H
              have A111 := Aside0.mk A1110
              clear A1110
              replace H := Option.bind_eq_some_iff.mp H
              obtain ⟨⟨t226, t227⟩, A1120, H⟩ := H
              replace H : ((spec_CosOf.f kj95 (Int.tmod t225 4096)).bind fun t228 => ((spec_FixMul.f kj95 (wrap64 (Int.tdiv (wrap64 (a0_5 * t227)) 32768)) t228).bind fun t229 => ((spec_SinOf.f kj95 (Int.tmod t225 4096)).bind fun t230 => ((spec_FixMul.f kj95 (wrap64 (Int.tdiv (wrap64 (a0_5 * t227)) 32768)) t230).bind fun t231 => (if x218002_3.length < 3518437208883 then (spec_StepCloud.l1 kj95 (wrap64 (x9_3 + 1)) a0_0 a0_1 a0_2 a0_3 a0_4 a0_5 a0_6 t226 (wrap64 (a1_1 + 1)) (x218002_3 ++ [(⟨a0_0, a0_1, t229, t231, a0_4⟩ : S48)])) else (none)))))) = some (r1, r2, r3, r4) := H
              have A112 := Aside0.mk A1120
              clear A1120
              replace H := Option.bind_eq_some_iff.mp H
              obtain ⟨t228, A1130, H⟩ := H
              replace H : ((spec_FixMul.f kj95 (wrap64 (Int.tdiv (wrap64 (a0_5 * t227)) 32768)) t228).bind fun t229 => ((spec_SinOf.f kj95 (Int.tmod t225 4096)).bind fun t230 => ((spec_FixMul.f kj95 (wrap64 (Int.tdiv (wrap64 (a0_5 * t227)) 32768)) t230).bind fun t231 => (if x218002_3.length < 3518437208883 then (spec_StepCloud.l1 kj95 (wrap64 (x9_3 + 1)) a0_0 a0_1 a0_2 a0_3 a0_4 a0_5 a0_6 t226 (wrap64 (a1_1 + 1)) (x218002_3 ++ [(⟨a0_0, a0_1, t229, t231, a0_4⟩ : S48)])) else (none))))) = some (r1, r2, r3, r4) := H
              have A113 := Aside0.mk A1130
              clear A1130
              replace H := Option.bind_eq_some_iff.mp H
              obtain ⟨t229, A1140, H⟩ := H
              replace H : ((spec_SinOf.f kj95 (Int.tmod t225 4096)).bind fun t230 => ((spec_FixMul.f kj95 (wrap64 (Int.tdiv (wrap64 (a0_5 * t227)) 32768)) t230).bind fun t231 => (if x218002_3.length < 3518437208883 then (spec_StepCloud.l1 kj95 (wrap64 (x9_3 + 1)) a0_0 a0_1 a0_2 a0_3 a0_4 a0_5 a0_6 t226 (wrap64 (a1_1 + 1)) (x218002_3 ++ [(⟨a0_0, a0_1, t229, t231, a0_4⟩ : S48)])) else (none)))) = some (r1, r2, r3, r4) := H
              have A114 := Aside0.mk A1140
              clear A1140
              replace H := Option.bind_eq_some_iff.mp H
              obtain ⟨t230, A1150, H⟩ := H
              replace H : ((spec_FixMul.f kj95 (wrap64 (Int.tdiv (wrap64 (a0_5 * t227)) 32768)) t230).bind fun t231 => (if x218002_3.length < 3518437208883 then (spec_StepCloud.l1 kj95 (wrap64 (x9_3 + 1)) a0_0 a0_1 a0_2 a0_3 a0_4 a0_5 a0_6 t226 (wrap64 (a1_1 + 1)) (x218002_3 ++ [(⟨a0_0, a0_1, t229, t231, a0_4⟩ : S48)])) else (none))) = some (r1, r2, r3, r4) := H
              have A115 := Aside0.mk A1150
              clear A1150
              replace H := Option.bind_eq_some_iff.mp H
              obtain ⟨t231, A1160, H⟩ := H
              replace H : (if x218002_3.length < 3518437208883 then (spec_StepCloud.l1 kj95 (wrap64 (x9_3 + 1)) a0_0 a0_1 a0_2 a0_3 a0_4 a0_5 a0_6 t226 (wrap64 (a1_1 + 1)) (x218002_3 ++ [(⟨a0_0, a0_1, t229, t231, a0_4⟩ : S48)])) else (none)) = some (r1, r2, r3, r4) := H
              have A116 := Aside0.mk A1160
              clear A1160
              by_cases c117 : x218002_3.length < 3518437208883
              ·rw [if_pos c117] at H
               have LMc117 := Aside0.mk c117
               clear c117
               obtain ⟨y232, hy232⟩ : ∃ y_ : List (S48), y_ = (x218002_3 ++ [(⟨a0_0, a0_1, t229, t231, a0_4⟩ : S48)]) := ⟨_, rfl⟩
               replace H : (spec_StepCloud.l1 kj95 (wrap64 (x9_3 + 1)) a0_0 a0_1 a0_2 a0_3 a0_4 a0_5 a0_6 t226 (wrap64 (a1_1 + 1)) y232) = some (r1, r2, r3, r4) := by first | (rw [hy232]; with_reducible exact H) | (have H2_ := (Option.bind_some _ _).symm.trans H; rw [hy232]; with_reducible exact H2_) | (have H2_ := (Option.bind_some _ _).symm.trans H; with_reducible exact H2_) | with_reducible exact H | (rw [hy232]; exact H) | exact H
               have Ny232 := Aside0.mk hy232
               clear hy232
               have H' := Aside0.mk H
               clear H
               have hnb118 := NB217_212.out
               have hnc118 := NB212_217.out
               have hnb119 := NB217_213.out
               have hnc119 := NB213_217.out
               have hnb120 := NB217_214.out
               have hnc120 := NB214_217.out
               have hcz121_0 := cz BK217 0 (.int .i64 x218000_3)
               have hcz121_1 := cz BK217 1 (.int .i64 (wrap64 (a1_1 + 1)))
               have hcz121_2 := cz BK217 2 (u218002)
               have hfz121_0 := fz BK217 0
               have hfz121_1 := fz BK217 1
               have hfz121_2 := fz BK217 2
               try go_wp2_with (first | ((with_reducible refine gate_callee (f := 21) rfl ?_); refine goesL_ (some 95) rfl rfl Try.func21 (by kernel_rfl) rfl #[.int .i64 x218000_3] rfl aE ?_; (with_reducible refine (spec_l1Coin.calls x218000_3 t224 t225 _ A111.out).mono ?_); rintro e w' ⟨rfl, ⟨nd, rfl⟩⟩; refine ⟨_, rfl, ?_⟩; (try (rw [drewN_self wc]; generalize hq_ : World.drewN wc _ = wc; replace HO_218002 : Aside0 (Kd.R k48 48 wc w.heap.size (fun _ => True) u218002 x218002_3) := ⟨by rw [← hq_]; exact (rU HO_218002.out)⟩; replace BK212 : Aside0 (wc.heap[gb212]? = some (.cells #[.int .i64 a0_0, .int .i64 a0_1, .int .i64 a0_2, .int .i64 a0_3, .int .i64 a0_4, .int .i64 a0_5, .int .i64 a0_6] 26 (0, 0))) := ⟨by rw [← hq_]; exact (bV BK212)⟩; replace BK213 : Aside0 (wc.heap[gb213]? = some (.cells #[.int .i64 a1_0, .int .i64 a1_1, .slice A1_2 l1_2.length c1_2] 35 (0, 0))) := ⟨by rw [← hq_]; exact (bV BK213)⟩; replace BK214 : Aside0 (wc.heap[gb214]? = some (.cells #[.int .i64 0, .int .i64 0, .slice none 0 0] 35 (0, 0))) := ⟨by rw [← hq_]; exact (bV BK214)⟩; replace BK217 : Aside0 (wc.heap[gb217]? = some (.cells #[.int .i64 x218000_3, .int .i64 (wrap64 (a1_1 + 1)), u218002] 35 (0, 0))) := ⟨by rw [← hq_]; exact (bV BK217)⟩; replace HB : Aside0 (Below w.heap.size w wc) := ⟨by rw [← hq_]; exact (lV4 GE212 GE213 GE214 GE217)⟩; clear hq_))) | ((with_reducible refine gate_callee (f := 21) rfl ?_); refine goesL_ (some 100) rfl rfl Try.func21 (by kernel_rfl) rfl #[.int .i64 t224] rfl aE ?_; (with_reducible refine (spec_l1Coin.calls t224 t226 t227 _ A112.out).mono ?_); rintro e w' ⟨rfl, ⟨nd, rfl⟩⟩; refine ⟨_, rfl, ?_⟩; (try (rw [drewN_self wc]; generalize hq_ : World.drewN wc _ = wc; replace HO_218002 : Aside0 (Kd.R k48 48 wc w.heap.size (fun _ => True) u218002 x218002_3) := ⟨by rw [← hq_]; exact (rU HO_218002.out)⟩; replace BK212 : Aside0 (wc.heap[gb212]? = some (.cells #[.int .i64 a0_0, .int .i64 a0_1, .int .i64 a0_2, .int .i64 a0_3, .int .i64 a0_4, .int .i64 a0_5, .int .i64 a0_6] 26 (0, 0))) := ⟨by rw [← hq_]; exact (bV BK212)⟩; replace BK213 : Aside0 (wc.heap[gb213]? = some (.cells #[.int .i64 a1_0, .int .i64 a1_1, .slice A1_2 l1_2.length c1_2] 35 (0, 0))) := ⟨by rw [← hq_]; exact (bV BK213)⟩; replace BK214 : Aside0 (wc.heap[gb214]? = some (.cells #[.int .i64 0, .int .i64 0, .slice none 0 0] 35 (0, 0))) := ⟨by rw [← hq_]; exact (bV BK214)⟩; replace BK217 : Aside0 (wc.heap[gb217]? = some (.cells #[.int .i64 x218000_3, .int .i64 (wrap64 (a1_1 + 1)), u218002] 35 (0, 0))) := ⟨by rw [← hq_]; exact (bV BK217)⟩; replace HB : Aside0 (Below w.heap.size w wc) := ⟨by rw [← hq_]; exact (lV4 GE212 GE213 GE214 GE217)⟩; clear hq_))) | ((with_reducible refine gate_store (t := 3) (p := 104) rfl ?_); refine store_event (t := 3) (p := 104) (v := ?vo_w122) (w1 := (wc.setCell ⟨gb217, 0, none⟩ (.int .i64 t226))) ?hg ?ho ?hn ?hr ?_; (case ho => rfl); (case hg => rfl); (case hn => rfl); (case hr => first | (go_simp; done) | (go_simp; rfl) | (have hq0_ := (blk_cell BK217.out 0).trans (show _ = some _ from rfl); have hf0_ := blk_frozen BK217.out 0; first | (go_simp; done) | (go_simp; rfl))); intro w122 hw; replace HO_218002 : Aside0 (Kd.R k48 48 w122 w.heap.size (fun _ => True) u218002 x218002_3) := ⟨(by rw [hw]; exact (by (with_reducible repeat (first | apply Kd.R_alloc | apply Kd.R_drewN | apply Kd.R_drew)); exact Kd.R_mono (Kd.R_far (p := ⟨gb217, 0, none⟩) (Kd.R_types HO_218002.out BK217.out (by decide)) (fun _ hk => hk.2) (.int .i64 t226)) (fun _ hk => trivial)))⟩; replace BK212 : Aside0 (w122.heap[gb212]? = some (.cells #[.int .i64 a0_0, .int .i64 a0_1, .int .i64 a0_2, .int .i64 a0_3, .int .i64 a0_4, .int .i64 a0_5, .int .i64 a0_6] 26 (0, 0))) := ⟨(by rw [hw]; exact (bG NB212_217 BK212))⟩; replace BK213 : Aside0 (w122.heap[gb213]? = some (.cells #[.int .i64 a1_0, .int .i64 a1_1, .slice A1_2 l1_2.length c1_2] 35 (0, 0))) := ⟨(by rw [hw]; exact (bG NB213_217 BK213))⟩; replace BK214 : Aside0 (w122.heap[gb214]? = some (.cells #[.int .i64 0, .int .i64 0, .slice none 0 0] 35 (0, 0))) := ⟨(by rw [hw]; exact (bG NB214_217 BK214))⟩; replace BK217 : Aside0 (w122.heap[gb217]? = some (.cells #[.int .i64 t226, .int .i64 (wrap64 (a1_1 + 1)), u218002] 35 (0, 0))) := ⟨(by rw [hw]; exact (by refine bU ?_; refine blk_put (cs := #[.int .i64 x218000_3, .int .i64 (wrap64 (a1_1 + 1)), u218002]) ?_ 0 _ rfl; refine bU ?_; exact BK217.out))⟩; replace HB : Aside0 (Below w.heap.size w w122) := ⟨(by rw [hw]; exact (lV4 GE212 GE213 GE214 GE217))⟩; clear hw; have hnb123 := NB212_213.out; have hnc123 := NB213_212.out; have hnb124 := NB212_214.out; have hnc124 := NB214_212.out; have hcz125_0 := cz BK212 0 (.int .i64 a0_0); have hcz125_1 := cz BK212 1 (.int .i64 a0_1); have hcz125_2 := cz BK212 2 (.int .i64 a0_2); have hcz125_3 := cz BK212 3 (.int .i64 a0_3); have hcz125_4 := cz BK212 4 (.int .i64 a0_4); have hcz125_5 := cz BK212 5 (.int .i64 a0_5); have hcz125_6 := cz BK212 6 (.int .i64 a0_6); have hfz125_0 := fz BK212 0; have hfz125_1 := fz BK212 1; have hfz125_2 := fz BK212 2; have hfz125_3 := fz BK212 3; have hfz125_4 := fz BK212 4; have hfz125_5 := fz BK212 5; have hfz125_6 := fz BK212 6))
               replace HO_218002 := Aside0.mk (Kd.R_drew HO_218002.out)
               replace BK212 := Aside0.mk (blk_drew BK212.out)
               replace BK213 := Aside0.mk (blk_drew BK213.out)
               replace BK214 := Aside0.mk (blk_drew BK214.out)
               replace BK217 := Aside0.mk (blk_drew BK217.out)
               replace HB := Aside0.mk (below_drew1 HB.out)
               refine start_ (n := 23) (S := fun w' => w'.cell? ⟨gb217, 0, none⟩ = some (.int .i64 t226) ∧ w'.cell? ⟨gb217, 1, none⟩ = some (.int .i64 (wrap64 (a1_1 + 1))) ∧ w'.cell? ⟨gb217, 2, none⟩ = some (u218002) ∧ w'.cell? ⟨gb212, 0, none⟩ = some (.int .i64 a0_0) ∧ w'.cell? ⟨gb212, 1, none⟩ = some (.int .i64 a0_1) ∧ w'.cell? ⟨gb212, 2, none⟩ = some (.int .i64 a0_2) ∧ w'.cell? ⟨gb212, 3, none⟩ = some (.int .i64 a0_3) ∧ w'.cell? ⟨gb212, 4, none⟩ = some (.int .i64 a0_4) ∧ w'.cell? ⟨gb212, 5, none⟩ = some (.int .i64 a0_5) ∧ w'.cell? ⟨gb212, 6, none⟩ = some (.int .i64 a0_6)) (ds := [22]) #[false, false, false, false, false, false, false, false, false, false, false, false, false, false, false, false, false, false, false, false, false, false, false] (by kernel_rfl) rfl rfl ⟨cz BK217 0 _, cz BK217 1 _, cz BK217 2 _, cz BK212 0 _, cz BK212 1 _, cz BK212 2 _, cz BK212 3 _, cz BK212 4 _, cz BK212 5 _, cz BK212 6 _⟩ (fun hHeld => ?_); refine with_tabW spec_StepCloud.tab22 spec_StepCloud.bits22 (fun HT_ HW_ => ?_)
               generalize w122.drew = w126 at HO_218002 BK212 BK213 BK214 BK217 HB hHeld ⊢
               refine pureA 0 110 (bz 23 1) rfl rfl (any_of HT_.out (by kernel_rfl)) ?_
               refine pureA 2 112 (bz 23 5) rfl rfl (any_of HT_.out (by kernel_rfl)) ?_
               refine pureA 4 114 (bz 23 21) rfl rfl (any_of HT_.out (by kernel_rfl)) ?_
               refine pureA 6 116 (bz 23 85) rfl rfl (any_of HT_.out (by kernel_rfl)) ?_
               refine pureA 7 117 (bz 23 213) rfl rfl (any_of HT_.out (by kernel_rfl)) ?_
               refine pureA 8 118 (bz 23 469) rfl rfl (any_of HT_.out (by kernel_rfl)) ?_
               refine pureA 11 121 (bz 23 2517) rfl rfl (any_of HT_.out (by kernel_rfl)) ?_
               refine pureA 12 122 (bz 23 6613) rfl rfl (any_of HT_.out (by kernel_rfl)) ?_
               refine pureA 13 123 (bz 23 14805) rfl rfl (any_of HT_.out (by kernel_rfl)) ?_
               refine pureA 16 126 (bz 23 80341) rfl rfl (any_of HT_.out (by kernel_rfl)) ?_
               refine takeA 1 111 (bz 23 80343) rfl rfl (take_ofW HT_.out HW_.out (by kernel_rfl)) hHeld (by rintro w' ⟨s0, s1, s2, s3, s4, s5, s6, s7, s8, s9⟩; go_simp; with_reducible rfl) ?_
               refine takeA 3 113 (bz 23 80351) rfl rfl (take_ofW HT_.out HW_.out (by kernel_rfl)) hHeld (by rintro w' ⟨s0, s1, s2, s3, s4, s5, s6, s7, s8, s9⟩; go_simp; with_reducible rfl) ?_
               refine takeA 5 115 (bz 23 80383) rfl rfl (take_ofW HT_.out HW_.out (by kernel_rfl)) hHeld (by rintro w' ⟨s0, s1, s2, s3, s4, s5, s6, s7, s8, s9⟩; go_simp; with_reducible rfl) ?_
               refine takeA 17 127 (bz 23 211455) rfl rfl (take_ofW HT_.out HW_.out (by kernel_rfl)) hHeld (by rintro w' ⟨s0, s1, s2, s3, s4, s5, s6, s7, s8, s9⟩; go_simp; with_reducible rfl) ?_
               refine one_ (i := 9) (N := some 119) (bz 23 211967) rfl rfl (one_of HT_.out (by kernel_rfl)) (by decide) (fun K hK => ?_)
               refine goes_ Try.func23 (by kernel_rfl) rfl #[.int .i64 (Int.tmod t225 4096)] (by rfl) rfl rfl aE ?_
               with_reducible refine (spec_CosOf.calls kj95 (Int.tmod t225 4096) t228 _ A113.out).mono ?_
               rintro e w127 ⟨rfl, hb⟩
               refine ⟨_, rfl, ?_⟩
               replace HO_218002 := Aside0.mk (Kd.R_below (rU HO_218002.out) hb)
               replace BK212 := bB (bV BK212) hb
               replace BK213 := bB (bV BK213) hb
               replace BK214 := bB (bV BK214) hb
               replace BK217 := bB (bV BK217) hb
               replace HB := bH (lV4 GE212 GE213 GE214 GE217) hb
               (try clear hb)
               (try clear hb2)
               (try clear hk)
               (try clear hi)
               refine hK.out _ _ ⟨cz BK217 0 _, cz BK217 1 _, cz BK217 2 _, cz BK212 0 _, cz BK212 1 _, cz BK212 2 _, cz BK212 3 _, cz BK212 4 _, cz BK212 5 _, cz BK212 6 _⟩ (fun hHeld => ?_)
               clear hK K
               refine norm_ (a' := ?_) ?_ ?_
               rotate_left
               ·show Act.put _ (some 119) _ = _
                simp only [Act.put, List.setIfInBounds_toArray, List.set_cons_zero, List.set_cons_succ, i64_w, i32_w]
                rfl
               refine one_ (i := 10) (N := some 120) (bz 23 212991) rfl rfl (one_of HT_.out (by kernel_rfl)) (by decide) (fun K hK => ?_)
               refine goes_ Try.func22 (by kernel_rfl) rfl #[.int .i64 (wrap64 (Int.tdiv (wrap64 (a0_5 * t227)) 32768)), .int .i64 t228] (by rfl) rfl rfl aE ?_
               with_reducible refine (spec_FixMul.calls kj95 (wrap64 (Int.tdiv (wrap64 (a0_5 * t227)) 32768)) t228 t229 _ A114.out).mono ?_
               rintro e w128 ⟨rfl, hb⟩
               refine ⟨_, rfl, ?_⟩
               replace HO_218002 := Aside0.mk (Kd.R_below (rU HO_218002.out) hb)
               replace BK212 := bB (bV BK212) hb
               replace BK213 := bB (bV BK213) hb
               replace BK214 := bB (bV BK214) hb
               replace BK217 := bB (bV BK217) hb
               replace HB := bH (lV4 GE212 GE213 GE214 GE217) hb
               (try clear hb)
               (try clear hb2)
               (try clear hk)
               (try clear hi)
               refine hK.out _ _ ⟨cz BK217 0 _, cz BK217 1 _, cz BK217 2 _, cz BK212 0 _, cz BK212 1 _, cz BK212 2 _, cz BK212 3 _, cz BK212 4 _, cz BK212 5 _, cz BK212 6 _⟩ (fun hHeld => ?_)
               clear hK K
               refine norm_ (a' := ?_) ?_ ?_
               rotate_left
               ·show Act.put _ (some 120) _ = _
                simp only [Act.put, List.setIfInBounds_toArray, List.set_cons_zero, List.set_cons_succ, i64_w, i32_w]
                rfl
               refine one_ (i := 14) (N := some 124) (bz 23 229375) rfl rfl (one_of HT_.out (by kernel_rfl)) (by decide) (fun K hK => ?_)
               refine goes_ Try.func24 (by kernel_rfl) rfl #[.int .i64 (Int.tmod t225 4096)] (by rfl) rfl rfl aE ?_
               with_reducible refine (spec_SinOf.calls kj95 (Int.tmod t225 4096) t230 _ A115.out).mono ?_
               rintro e w129 ⟨rfl, hb⟩
               refine ⟨_, rfl, ?_⟩
               replace HO_218002 := Aside0.mk (Kd.R_below (rU HO_218002.out) hb)
               replace BK212 := bB (bV BK212) hb
               replace BK213 := bB (bV BK213) hb
               replace BK214 := bB (bV BK214) hb
               replace BK217 := bB (bV BK217) hb
               replace HB := bH (lV4 GE212 GE213 GE214 GE217) hb
               (try clear hb)
               (try clear hb2)
               (try clear hk)
               (try clear hi)
               refine hK.out _ _ ⟨cz BK217 0 _, cz BK217 1 _, cz BK217 2 _, cz BK212 0 _, cz BK212 1 _, cz BK212 2 _, cz BK212 3 _, cz BK212 4 _, cz BK212 5 _, cz BK212 6 _⟩ (fun hHeld => ?_)
               clear hK K
               refine norm_ (a' := ?_) ?_ ?_
               rotate_left
               ·show Act.put _ (some 124) _ = _
                simp only [Act.put, List.setIfInBounds_toArray, List.set_cons_zero, List.set_cons_succ, i64_w, i32_w]
                rfl
               refine one_ (i := 15) (N := some 125) (bz 23 262143) rfl rfl (one_of HT_.out (by kernel_rfl)) (by decide) (fun K hK => ?_)
               refine goes_ Try.func22 (by kernel_rfl) rfl #[.int .i64 (wrap64 (Int.tdiv (wrap64 (a0_5 * t227)) 32768)), .int .i64 t230] (by rfl) rfl rfl aE ?_
               with_reducible refine (spec_FixMul.calls kj95 (wrap64 (Int.tdiv (wrap64 (a0_5 * t227)) 32768)) t230 t231 _ A116.out).mono ?_
               rintro e w130 ⟨rfl, hb⟩
               refine ⟨_, rfl, ?_⟩
               replace HO_218002 := Aside0.mk (Kd.R_below (rU HO_218002.out) hb)
               replace BK212 := bB (bV BK212) hb
               replace BK213 := bB (bV BK213) hb
               replace BK214 := bB (bV BK214) hb
               replace BK217 := bB (bV BK217) hb
               replace HB := bH (lV4 GE212 GE213 GE214 GE217) hb
               (try clear hb)
               (try clear hb2)
               (try clear hk)
               (try clear hi)
               refine hK.out _ _ ⟨cz BK217 0 _, cz BK217 1 _, cz BK217 2 _, cz BK212 0 _, cz BK212 1 _, cz BK212 2 _, cz BK212 3 _, cz BK212 4 _, cz BK212 5 _, cz BK212 6 _⟩ (fun hHeld => ?_)
               clear hK K
               refine norm_ (a' := ?_) ?_ ?_
               rotate_left
               ·show Act.put _ (some 125) _ = _
                simp only [Act.put, List.setIfInBounds_toArray, List.set_cons_zero, List.set_cons_succ, i64_w, i32_w]
                rfl
               refine pureA 18 128 (bz 23 524287) rfl rfl (any_of HT_.out (by kernel_rfl)) ?_
               refine one_ (i := 19) (N := some 129) (bz 23 1048575) rfl rfl (one_of HT_.out (by kernel_rfl)) (by decide) (fun K hK => ?_)
               refine value_ (w1 := ?_) (v := ?_) (by rfl) rfl ?_ ?_
               rotate_left 2
               ·go_simp
                constructor
                ·rfl
                ·rfl
               refine hK.out _ _ ⟨(blk_cell (blk_alloc BK217.out _) 0).trans rfl, (blk_cell (blk_alloc BK217.out _) 1).trans rfl, (blk_cell (blk_alloc BK217.out _) 2).trans rfl, (blk_cell (blk_alloc BK212.out _) 0).trans rfl, (blk_cell (blk_alloc BK212.out _) 1).trans rfl, (blk_cell (blk_alloc BK212.out _) 2).trans rfl, (blk_cell (blk_alloc BK212.out _) 3).trans rfl, (blk_cell (blk_alloc BK212.out _) 4).trans rfl, (blk_cell (blk_alloc BK212.out _) 5).trans rfl, (blk_cell (blk_alloc BK212.out _) 6).trans rfl⟩ (fun hHeld => ?_)
               clear hK K
               refine norm_ (a' := ?_) ?_ ?_
               rotate_left
               ·show Act.put _ (some 129) _ = _
                simp only [Act.put, List.setIfInBounds_toArray, List.set_cons_zero, List.set_cons_succ, i64_w, i32_w]
                rfl
               refine one_ (i := 20) (N := some 130) (bz 23 2097151) rfl rfl (one_of HT_.out (by kernel_rfl)) (by decide) (fun K hK => ?_)
               refine Kd.R_append_step k48 (w0 := w) w.heap.size (by rfl) (.tmp 111) (.tmp 129) 33 48 (.agg #[(.int .i64 0), (.int .i64 0), (.int .i64 0), (.int .i64 0), (.int .i64 0)]) 40 rfl Try.underlying33 info48 rfl (by decide) (by omega) u218002 x218002_3 (⟨a0_0, a0_1, t229, t231, a0_4⟩ : S48) [.int .i64 a0_0, .int .i64 a0_1, .int .i64 t229, .int .i64 t231, .int .i64 a0_4] (fun _ => True) (fun _ => False) rfl rfl ?aP (fun _ hk => hk.elim) ?aF ?aO ?aB ?aS ?aL ?_
               (case aP => exact k48_mkM _ _ _ (⟨a0_0, a0_1, t229, t231, a0_4⟩ : S48))
               (case aB => exact (lV4 GE212 GE213 GE214 GE217))
               (case aF => exact (fun _ _ => trivial))
               (case aO => exact (rU HO_218002.out))
               (case aS => exact (below_size (lV4 GE212 GE213 GE214 GE217)))
               (case aL => have := LMc117.out; omega)
               intro v233 w131 ho hb hg hat
               rw [← Ny232.out] at ho
               replace BK212 := Aside0.mk (blk_grown (g := gb212) (o := .cells #[.int .i64 a0_0, .int .i64 a0_1, .int .i64 a0_2, .int .i64 a0_3, .int .i64 a0_4, .int .i64 a0_5, .int .i64 a0_6] 26 (0, 0)) (bV BK212) hg (Kd.R_ne HO_218002.out BK212.out (by decide)))
               replace BK213 := Aside0.mk (blk_grown (g := gb213) (o := .cells #[.int .i64 a1_0, .int .i64 a1_1, .slice A1_2 l1_2.length c1_2] 35 (0, 0)) (bV BK213) hg (Kd.R_ne HO_218002.out BK213.out (by decide)))
               replace BK214 := Aside0.mk (blk_grown (g := gb214) (o := .cells #[.int .i64 0, .int .i64 0, .slice none 0 0] 35 (0, 0)) (bV BK214) hg (Kd.R_ne HO_218002.out BK214.out (by decide)))
               replace BK217 := Aside0.mk (blk_grown (g := gb217) (o := .cells #[.int .i64 t226, .int .i64 (wrap64 (a1_1 + 1)), u218002] 35 (0, 0)) (bV BK217) hg (Kd.R_ne HO_218002.out BK217.out (by decide)))
               replace HB := Aside0.mk hb
               have HO234 := Aside0.mk ho
               clear HO_218002
               clear ho hb hg hat
               obtain ⟨Ao132, co132, eo132⟩ := Kd.R_slice HO234.out
               (first | subst eo132 | (injection eo132 with f1_ f2_ f3_; have f4_ := f1_.symm; have f5_ := f3_.symm; clear f1_ f2_ f3_; subst f4_; subst f5_))
               refine hK.out _ _ ⟨cz BK217 0 _, cz BK217 1 _, cz BK217 2 _, cz BK212 0 _, cz BK212 1 _, cz BK212 2 _, cz BK212 3 _, cz BK212 4 _, cz BK212 5 _, cz BK212 6 _⟩ (fun hHeld => ?_)
               clear hK K
               refine norm_ (a' := ?_) ?_ ?_
               rotate_left
               ·show Act.put _ (some 130) _ = _
                simp only [Act.put, List.setIfInBounds_toArray, List.set_cons_zero, List.set_cons_succ, i64_w, i32_w]
                rfl
               refine pureA 21 131 (bz 23 4194303) rfl rfl (any_of HT_.out (by kernel_rfl)) ?_
               refine last_ (i := 22) (N := none) (bz 23 8388607) rfl rfl (one_of HT_.out (by kernel_rfl)) (by decide) (fun K hK => ?_)
               have hs133 : w131.cell? ⟨gb217, 2, none⟩ = some (u218002) := (blk_cell BK217.out 2).trans rfl
               have hfs133 := blk_frozen BK217.out 2
               have hns133_0 := NB212_217.out
               have hns133_1 := NB213_217.out
               have hns133_2 := NB214_217.out
               have hms133_0 := NB217_212.out
               have hms133_1 := NB217_213.out
               have hms133_2 := NB217_214.out
               refine skip_ (w1 := ?_) (by rfl) rfl ?_ ?_
               rotate_left
               ·go_simp
                rfl
               refine hK.out _ _ ?_
               clear hK K
               refine done_ (done_of HT_.out (by kernel_rfl)) ?_
               try go_wp2
               go_roundg kj95
               case measure => have := HJ2.out; have := HK2.out; have := HK3.out; have := HJ95.out; omega
               case rel => exact ⟨(wrap64 (x9_3 + 1)), (t226), (y232), (.slice Ao132 y232.length co132), tE, H', ⟨by have := HJ2.out; have := HK2.out; have := HK3.out; have := HJ95.out; omega⟩, ⟨by (with_reducible repeat (first | apply Kd.R_alloc | apply Kd.R_drewN | apply Kd.R_drew)); exact Kd.R_mono (Kd.R_far (p := ⟨gb217, 2, none⟩) (Kd.R_types HO234.out BK217.out (by decide)) (fun _ hk => hk.2) (.slice Ao132 y232.length co132)) (fun _ hk => trivial)⟩, ⟨by refine bU ?_; refine blk_far ?_ NB212_217.out _; refine bU ?_; exact BK212.out⟩, ⟨by refine bU ?_; refine blk_far ?_ NB213_217.out _; refine bU ?_; exact BK213.out⟩, ⟨by refine bU ?_; refine blk_far ?_ NB214_217.out _; refine bU ?_; exact BK214.out⟩, ⟨by refine bU ?_; refine blk_put (cs := #[.int .i64 t226, .int .i64 (wrap64 (a1_1 + 1)), u218002]) ?_ 2 _ rfl; refine bU ?_; exact BK217.out⟩, ⟨by repeat (first | (with_reducible first | exact HB.out | apply below_alloc | apply pw_below_drewN | apply below_drew1 | refine below_set ?_ GE212.out | refine below_set ?_ GE213.out | refine below_set ?_ GE214.out | refine below_set ?_ GE217.out) | exact HB.out)⟩⟩
              ·rw [if_neg c117] at H
               exact absurd H (by simp)
             ·replace c110 := Bool.eq_false_iff.mpr c110
              subst c110
              have H1 : ((spec_GoodCloud.f kj95 x218000_3 (wrap64 (a1_1 + 1)) x218002_3).bind fun t223 => (if t223 = true then (some (x218000_3, (wrap64 (a1_1 + 1)), x218002_3, true)) else (some (0, 0, ([] : List (S48)), false)))) = some (r1, r2, r3, r4) := by rw [if_neg (show ¬ (false = true) by decide)] at H; exact H
              clear H
              have H := H1
              clear H1
              replace H := Option.bind_eq_some_iff.mp H
              obtain ⟨t223, A1340, H⟩ := H
              replace H : (if t223 = true then (some (x218000_3, (wrap64 (a1_1 + 1)), x218002_3, true)) else (some (0, 0, ([] : List (S48)), false))) = some (r1, r2, r3, r4) := H
              have A134 := Aside0.mk A1340
              clear A1340
              by_cases c135 : t223 = true
              ·subst c135
               have H1 : (some (x218000_3, (wrap64 (a1_1 + 1)), x218002_3, true)) = some (r1, r2, r3, r4) := by rw [if_pos rfl] at H; exact H
               clear H
               have H := H1
               clear H1
               simp only [Option.some.injEq, Prod.mk.injEq] at H
               obtain ⟨rfl, rfl, rfl, rfl⟩ := H
               have hnb136 := NB217_212.out
               have hnc136 := NB212_217.out
               have hnb137 := NB217_213.out
               have hnc137 := NB213_217.out
               have hnb138 := NB217_214.out
               have hnc138 := NB214_217.out
               have hcz139_0 := cz BK217 0 (.int .i64 x218000_3)
               have hcz139_1 := cz BK217 1 (.int .i64 (wrap64 (a1_1 + 1)))
               have hcz139_2 := cz BK217 2 (u218002)
               have hfz139_0 := fz BK217 0
               have hfz139_1 := fz BK217 1
               have hfz139_2 := fz BK217 2
               obtain ⟨Ao140, co140, eo140⟩ := Kd.R_slice HO_218002.out
               subst eo140
               go_wp2_with (first | ((with_reducible refine gate_callee (f := 20) rfl ?_); refine goesL_ (some 133) rfl rfl Try.func20 (by kernel_rfl) rfl #[.agg #[.int .i64 x218000_3, .int .i64 (wrap64 (a1_1 + 1)), .slice Ao140 x218002_3.length co140]] rfl aE ?_; (with_reducible refine (spec_GoodCloud.calls kj95 x218000_3 (wrap64 (a1_1 + 1)) _ _ x218002_3 true _ ?side1 ?side2 A134.out).mono ?_); (case side1 => exact cU (Kd.R_reads' HO_218002.out).2.2); (case side2 => exact (Kd.R_reads' HO_218002.out).2.1); rintro e w141 ⟨rfl, hb⟩; refine ⟨_, rfl, ?_⟩; replace HO_218002 := Aside0.mk (Kd.R_below (rU HO_218002.out) hb); replace BK212 := bB (bV BK212) hb; replace BK213 := bB (bV BK213) hb; replace BK214 := bB (bV BK214) hb; replace BK217 := bB (bV BK217) hb; replace HB := bH (lV4 GE212 GE213 GE214 GE217) hb; (try clear hb); have hcz142_0 := cz BK217 0 (.int .i64 x218000_3); have hcz142_1 := cz BK217 1 (.int .i64 (wrap64 (a1_1 + 1))); have hcz142_2 := cz BK217 2 (.slice Ao140 x218002_3.length co140); have hfz142_0 := fz BK217 0; have hfz142_1 := fz BK217 1; have hfz142_2 := fz BK217 2; have hnb143 := NB214_212.out; have hnc143 := NB212_214.out; have hnb144 := NB214_213.out; have hnc144 := NB213_214.out; have hcz145_0 := cz BK214 0 (.int .i64 0); have hcz145_1 := cz BK214 1 (.int .i64 0); have hcz145_2 := cz BK214 2 (.slice none 0 0); have hfz145_0 := fz BK214 0; have hfz145_1 := fz BK214 1; have hfz145_2 := fz BK214 2) | ((with_reducible refine gate_store (t := 35) (p := 4) rfl ?_); refine store_event (t := 35) (p := 4) (v := ?vo_w146) (w1 := (((w141.setCell ⟨gb214, 0, none⟩ (.int .i64 x218000_3)).setCell ⟨gb214, 1, none⟩ (.int .i64 (wrap64 (a1_1 + 1)))).setCell ⟨gb214, 2, none⟩ (.slice Ao140 x218002_3.length co140))) ?hg ?ho ?hn ?hr ?_; (case ho => rfl); (case hg => rfl); (case hn => rfl); (case hr => first | (go_simp; done) | (go_simp; rfl) | (have hq0_ := (blk_cell BK214.out 0).trans (show _ = some _ from rfl); have hf0_ := blk_frozen BK214.out 0; have hq1_ := (blk_cell BK214.out 1).trans (show _ = some _ from rfl); have hf1_ := blk_frozen BK214.out 1; have hq2_ := (blk_cell BK214.out 2).trans (show _ = some _ from rfl); have hf2_ := blk_frozen BK214.out 2; first | (go_simp; done) | (go_simp; rfl))); intro w146 hw; replace HO_218002 : Aside0 (Kd.R k48 48 w146 w.heap.size (fun _ => True) (.slice Ao140 x218002_3.length co140) x218002_3) := ⟨(by rw [hw]; exact (by (with_reducible repeat (first | apply Kd.R_alloc | apply Kd.R_drewN | apply Kd.R_drew)); exact Kd.R_mono (Kd.R_far (p := ⟨gb214, 2, none⟩) (Kd.R_far (p := ⟨gb214, 1, none⟩) (Kd.R_far (p := ⟨gb214, 0, none⟩) (Kd.R_types HO_218002.out BK214.out (by decide)) (fun _ hk => hk.2) (.int .i64 x218000_3)) (fun _ hk => hk.2) (.int .i64 (wrap64 (a1_1 + 1)))) (fun _ hk => hk.2) (.slice Ao140 x218002_3.length co140)) (fun _ hk => trivial)))⟩; replace BK212 : Aside0 (w146.heap[gb212]? = some (.cells #[.int .i64 a0_0, .int .i64 a0_1, .int .i64 a0_2, .int .i64 a0_3, .int .i64 a0_4, .int .i64 a0_5, .int .i64 a0_6] 26 (0, 0))) := ⟨(by rw [hw]; exact (bG NB212_214 BK212))⟩; replace BK213 : Aside0 (w146.heap[gb213]? = some (.cells #[.int .i64 a1_0, .int .i64 a1_1, .slice A1_2 l1_2.length c1_2] 35 (0, 0))) := ⟨(by rw [hw]; exact (bG NB213_214 BK213))⟩; replace BK214 : Aside0 (w146.heap[gb214]? = some (.cells #[.int .i64 x218000_3, .int .i64 (wrap64 (a1_1 + 1)), .slice Ao140 x218002_3.length co140] 35 (0, 0))) := ⟨(by rw [hw]; exact (by refine bU ?_; refine blk_put (cs := #[.int .i64 x218000_3, .int .i64 (wrap64 (a1_1 + 1)), .slice none 0 0]) ?_ 2 _ rfl; refine bU ?_; refine blk_put (cs := #[.int .i64 x218000_3, .int .i64 0, .slice none 0 0]) ?_ 1 _ rfl; refine bU ?_; refine blk_put (cs := #[.int .i64 0, .int .i64 0, .slice none 0 0]) ?_ 0 _ rfl; refine bU ?_; exact BK214.out))⟩; replace BK217 : Aside0 (w146.heap[gb217]? = some (.cells #[.int .i64 x218000_3, .int .i64 (wrap64 (a1_1 + 1)), .slice Ao140 x218002_3.length co140] 35 (0, 0))) := ⟨(by rw [hw]; exact (bG NB217_214 BK217))⟩; replace HB : Aside0 (Below w.heap.size w w146) := ⟨(by rw [hw]; exact (lV4 GE212 GE213 GE214 GE217))⟩; clear hw))
               refine bodyPost_ret (results_ct rfl _ _ gb214 35 #[.int .i64 x218000_3, .int .i64 (wrap64 (a1_1 + 1)), .slice Ao140 x218002_3.length co140] (0, 0) _ rfl (bV BK214) Try.underlying35 rfl (by kernel_rfl)) rfl ?_
               exact ⟨_, eE, by (with_reducible repeat (first | apply Kd.R_alloc | apply Kd.R_drewN | apply Kd.R_drew)); exact HO_218002.out, lV4 GE212 GE213 GE214 GE217⟩
              ·replace c135 := Bool.eq_false_iff.mpr c135
               subst c135
               have H1 : (some (0, 0, ([] : List (S48)), false)) = some (r1, r2, r3, r4) := by rw [if_neg (show ¬ (false = true) by decide)] at H; exact H
               clear H
               have H := H1
               clear H1
               simp only [Option.some.injEq, Prod.mk.injEq] at H
               obtain ⟨rfl, rfl, rfl, rfl⟩ := H
               have hnb147 := NB217_212.out
               have hnc147 := NB212_217.out
               have hnb148 := NB217_213.out
               have hnc148 := NB213_217.out
               have hnb149 := NB217_214.out
               have hnc149 := NB214_217.out
               have hcz150_0 := cz BK217 0 (.int .i64 x218000_3)
               have hcz150_1 := cz BK217 1 (.int .i64 (wrap64 (a1_1 + 1)))
               have hcz150_2 := cz BK217 2 (u218002)
               have hfz150_0 := fz BK217 0
               have hfz150_1 := fz BK217 1
               have hfz150_2 := fz BK217 2
               obtain ⟨Ao151, co151, eo151⟩ := Kd.R_slice HO_218002.out
               subst eo151
               go_wp2_with (first | ((with_reducible refine gate_callee (f := 20) rfl ?_); refine goesL_ (some 133) rfl rfl Try.func20 (by kernel_rfl) rfl #[.agg #[.int .i64 x218000_3, .int .i64 (wrap64 (a1_1 + 1)), .slice Ao151 x218002_3.length co151]] rfl aE ?_; (with_reducible refine (spec_GoodCloud.calls kj95 x218000_3 (wrap64 (a1_1 + 1)) _ _ x218002_3 false _ ?side1 ?side2 A134.out).mono ?_); (case side1 => exact cU (Kd.R_reads' HO_218002.out).2.2); (case side2 => exact (Kd.R_reads' HO_218002.out).2.1); rintro e w152 ⟨rfl, hb⟩; refine ⟨_, rfl, ?_⟩; replace HO_218002 := Aside0.mk (Kd.R_below (rU HO_218002.out) hb); replace BK212 := bB (bV BK212) hb; replace BK213 := bB (bV BK213) hb; replace BK214 := bB (bV BK214) hb; replace BK217 := bB (bV BK217) hb; replace HB := bH (lV4 GE212 GE213 GE214 GE217) hb; (try clear hb); have hnb153 := NB214_212.out; have hnc153 := NB212_214.out; have hnb154 := NB214_213.out; have hnc154 := NB213_214.out; have hcz155_0 := cz BK214 0 (.int .i64 0); have hcz155_1 := cz BK214 1 (.int .i64 0); have hcz155_2 := cz BK214 2 (.slice none 0 0); have hfz155_0 := fz BK214 0; have hfz155_1 := fz BK214 1; have hfz155_2 := fz BK214 2) | ((with_reducible refine gate_store (t := 35) (p := 4) rfl ?_); refine store_event (t := 35) (p := 4) (v := ?vo_w156) (w1 := (((w152.setCell ⟨gb214, 0, none⟩ (.int .i64 0)).setCell ⟨gb214, 1, none⟩ (.int .i64 0)).setCell ⟨gb214, 2, none⟩ (.slice none 0 0))) ?hg ?ho ?hn ?hr ?_; (case ho => rfl); (case hg => rfl); (case hn => rfl); (case hr => first | (go_simp; done) | (go_simp; rfl) | (have hq0_ := (blk_cell BK214.out 0).trans (show _ = some _ from rfl); have hf0_ := blk_frozen BK214.out 0; have hq1_ := (blk_cell BK214.out 1).trans (show _ = some _ from rfl); have hf1_ := blk_frozen BK214.out 1; have hq2_ := (blk_cell BK214.out 2).trans (show _ = some _ from rfl); have hf2_ := blk_frozen BK214.out 2; first | (go_simp; done) | (go_simp; rfl))); intro w156 hw; replace HO_218002 : Aside0 (Kd.R k48 48 w156 w.heap.size (fun _ => True) (.slice Ao151 x218002_3.length co151) x218002_3) := ⟨(by rw [hw]; exact (by (with_reducible repeat (first | apply Kd.R_alloc | apply Kd.R_drewN | apply Kd.R_drew)); exact Kd.R_mono (Kd.R_far (p := ⟨gb214, 2, none⟩) (Kd.R_far (p := ⟨gb214, 1, none⟩) (Kd.R_far (p := ⟨gb214, 0, none⟩) (Kd.R_types HO_218002.out BK214.out (by decide)) (fun _ hk => hk.2) (.int .i64 0)) (fun _ hk => hk.2) (.int .i64 0)) (fun _ hk => hk.2) (.slice none 0 0)) (fun _ hk => trivial)))⟩; replace BK212 : Aside0 (w156.heap[gb212]? = some (.cells #[.int .i64 a0_0, .int .i64 a0_1, .int .i64 a0_2, .int .i64 a0_3, .int .i64 a0_4, .int .i64 a0_5, .int .i64 a0_6] 26 (0, 0))) := ⟨(by rw [hw]; exact (bG NB212_214 BK212))⟩; replace BK213 : Aside0 (w156.heap[gb213]? = some (.cells #[.int .i64 a1_0, .int .i64 a1_1, .slice A1_2 l1_2.length c1_2] 35 (0, 0))) := ⟨(by rw [hw]; exact (bG NB213_214 BK213))⟩; replace BK214 : Aside0 (w156.heap[gb214]? = some (.cells #[.int .i64 0, .int .i64 0, .slice none 0 0] 35 (0, 0))) := ⟨(by rw [hw]; exact (by refine bU ?_; refine blk_put (cs := #[.int .i64 0, .int .i64 0, .slice none 0 0]) ?_ 2 _ rfl; refine bU ?_; refine blk_put (cs := #[.int .i64 0, .int .i64 0, .slice none 0 0]) ?_ 1 _ rfl; refine bU ?_; refine blk_put (cs := #[.int .i64 0, .int .i64 0, .slice none 0 0]) ?_ 0 _ rfl; refine bU ?_; exact BK214.out))⟩; replace BK217 : Aside0 (w156.heap[gb217]? = some (.cells #[.int .i64 x218000_3, .int .i64 (wrap64 (a1_1 + 1)), .slice Ao151 x218002_3.length co151] 35 (0, 0))) := ⟨(by rw [hw]; exact (bG NB217_214 BK217))⟩; replace HB : Aside0 (Below w.heap.size w w156) := ⟨(by rw [hw]; exact (lV4 GE212 GE213 GE214 GE217))⟩; clear hw))
               refine bodyPost_ret (results_ct rfl _ _ gb214 35 #[.int .i64 0, .int .i64 0, .slice none 0 0] (0, 0) _ rfl (bV BK214) Try.underlying35 rfl (by kernel_rfl)) rfl ?_
               exact ⟨_, eE, by first | exact Kd.R_nil _ _ _ _ _ | exact Kd.N_nil _ _ _ _ _ | exact Kd.V_nil _ _ _ _ _ | exact Kd.Q_nil _ _ _ _ _ | exact Kd.S_nil _ _ _ _ _, lV4 GE212 GE213 GE214 GE217⟩
        ·rw [if_neg c88] at H
         have c88b0 : ((Int.tmod a1_1 a0_2) == 0) = false := beq_eq_false_iff_ne.mpr c88
         have c88b1 : ((Int.tmod a1_1 a0_2) != 0) = true := bne_iff_ne.mpr c88
         replace H := Option.bind_eq_some_iff.mp H
         obtain ⟨t235, A1570, H⟩ := H
         replace H : (if t235 = true then (some (a1_0, (wrap64 (a1_1 + 1)), x218002_2, true)) else (some (0, 0, ([] : List (S48)), false))) = some (r1, r2, r3, r4) := H
         have A157 := Aside0.mk A1570
         clear A1570
         by_cases c158 : t235 = true
         ·subst c158
          have H1 : (some (a1_0, (wrap64 (a1_1 + 1)), x218002_2, true)) = some (r1, r2, r3, r4) := by rw [if_pos rfl] at H; exact H
          clear H
          have H := H1
          clear H1
          simp only [Option.some.injEq, Prod.mk.injEq] at H
          obtain ⟨rfl, rfl, rfl, rfl⟩ := H
          have hnb159 := NB213_212.out
          have hnc159 := NB212_213.out
          have hnb160 := NB213_214.out
          have hnc160 := NB214_213.out
          have hnb161 := NB213_217.out
          have hnc161 := NB217_213.out
          have hcz162_0 := cz BK213 0 (.int .i64 a1_0)
          have hcz162_1 := cz BK213 1 (.int .i64 a1_1)
          have hcz162_2 := cz BK213 2 (.slice A1_2 l1_2.length c1_2)
          have hfz162_0 := fz BK213 0
          have hfz162_1 := fz BK213 1
          have hfz162_2 := fz BK213 2
          have hnb163 := NB212_214.out
          have hnc163 := NB214_212.out
          have hnb164 := NB212_217.out
          have hnc164 := NB217_212.out
          have hcz165_0 := cz BK212 0 (.int .i64 a0_0)
          have hcz165_1 := cz BK212 1 (.int .i64 a0_1)
          have hcz165_2 := cz BK212 2 (.int .i64 a0_2)
          have hcz165_3 := cz BK212 3 (.int .i64 a0_3)
          have hcz165_4 := cz BK212 4 (.int .i64 a0_4)
          have hcz165_5 := cz BK212 5 (.int .i64 a0_5)
          have hcz165_6 := cz BK212 6 (.int .i64 a0_6)
          have hfz165_0 := fz BK212 0
          have hfz165_1 := fz BK212 1
          have hfz165_2 := fz BK212 2
          have hfz165_3 := fz BK212 3
          have hfz165_4 := fz BK212 4
          have hfz165_5 := fz BK212 5
          have hfz165_6 := fz BK212 6
          have hnb166 := NB217_214.out
          have hnc166 := NB214_217.out
          have hcz167_0 := cz BK217 0 (.int .i64 a1_0)
          have hcz167_1 := cz BK217 1 (.int .i64 (wrap64 (a1_1 + 1)))
          have hcz167_2 := cz BK217 2 (u218002)
          have hfz167_0 := fz BK217 0
          have hfz167_1 := fz BK217 1
          have hfz167_2 := fz BK217 2
          obtain ⟨Ao168, co168, eo168⟩ := Kd.R_slice HO_218002.out
          subst eo168
          go_wp2_with (first | ((with_reducible refine gate_callee (f := 20) rfl ?_); refine goesL_ (some 133) rfl rfl Try.func20 (by kernel_rfl) rfl #[.agg #[.int .i64 a1_0, .int .i64 (wrap64 (a1_1 + 1)), .slice Ao168 x218002_2.length co168]] rfl aE ?_; (with_reducible refine (spec_GoodCloud.calls k2 a1_0 (wrap64 (a1_1 + 1)) _ _ x218002_2 true _ ?side1 ?side2 A157.out).mono ?_); (case side1 => exact cU (Kd.R_reads' HO_218002.out).2.2); (case side2 => exact (Kd.R_reads' HO_218002.out).2.1); rintro e w169 ⟨rfl, hb⟩; refine ⟨_, rfl, ?_⟩; replace HO_218002 := Aside0.mk (Kd.R_below (rU HO_218002.out) hb); replace BK212 := bB (bV BK212) hb; replace BK213 := bB (bV BK213) hb; replace BK214 := bB (bV BK214) hb; replace BK217 := bB (bV BK217) hb; replace HB := bH (lV4 GE212 GE213 GE214 GE217) hb; (try clear hb); have hcz170_0 := cz BK217 0 (.int .i64 a1_0); have hcz170_1 := cz BK217 1 (.int .i64 (wrap64 (a1_1 + 1))); have hcz170_2 := cz BK217 2 (.slice Ao168 x218002_2.length co168); have hfz170_0 := fz BK217 0; have hfz170_1 := fz BK217 1; have hfz170_2 := fz BK217 2; have hcz171_0 := cz BK214 0 (.int .i64 0); have hcz171_1 := cz BK214 1 (.int .i64 0); have hcz171_2 := cz BK214 2 (.slice none 0 0); have hfz171_0 := fz BK214 0; have hfz171_1 := fz BK214 1; have hfz171_2 := fz BK214 2) | ((with_reducible refine gate_store (t := 35) (p := 4) rfl ?_); refine store_event (t := 35) (p := 4) (v := ?vo_w172) (w1 := (((w169.setCell ⟨gb214, 0, none⟩ (.int .i64 a1_0)).setCell ⟨gb214, 1, none⟩ (.int .i64 (wrap64 (a1_1 + 1)))).setCell ⟨gb214, 2, none⟩ (.slice Ao168 x218002_2.length co168))) ?hg ?ho ?hn ?hr ?_; (case ho => rfl); (case hg => rfl); (case hn => rfl); (case hr => first | (go_simp; done) | (go_simp; rfl) | (have hq0_ := (blk_cell BK214.out 0).trans (show _ = some _ from rfl); have hf0_ := blk_frozen BK214.out 0; have hq1_ := (blk_cell BK214.out 1).trans (show _ = some _ from rfl); have hf1_ := blk_frozen BK214.out 1; have hq2_ := (blk_cell BK214.out 2).trans (show _ = some _ from rfl); have hf2_ := blk_frozen BK214.out 2; first | (go_simp; done) | (go_simp; rfl))); intro w172 hw; replace HO_218002 : Aside0 (Kd.R k48 48 w172 w.heap.size (fun _ => True) (.slice Ao168 x218002_2.length co168) x218002_2) := ⟨(by rw [hw]; exact (by (with_reducible repeat (first | apply Kd.R_alloc | apply Kd.R_drewN | apply Kd.R_drew)); exact Kd.R_mono (Kd.R_far (p := ⟨gb214, 2, none⟩) (Kd.R_far (p := ⟨gb214, 1, none⟩) (Kd.R_far (p := ⟨gb214, 0, none⟩) (Kd.R_types HO_218002.out BK214.out (by decide)) (fun _ hk => hk.2) (.int .i64 a1_0)) (fun _ hk => hk.2) (.int .i64 (wrap64 (a1_1 + 1)))) (fun _ hk => hk.2) (.slice Ao168 x218002_2.length co168)) (fun _ hk => trivial)))⟩; replace BK212 : Aside0 (w172.heap[gb212]? = some (.cells #[.int .i64 a0_0, .int .i64 a0_1, .int .i64 a0_2, .int .i64 a0_3, .int .i64 a0_4, .int .i64 a0_5, .int .i64 a0_6] 26 (0, 0))) := ⟨(by rw [hw]; exact (bG NB212_214 BK212))⟩; replace BK213 : Aside0 (w172.heap[gb213]? = some (.cells #[.int .i64 a1_0, .int .i64 a1_1, .slice A1_2 l1_2.length c1_2] 35 (0, 0))) := ⟨(by rw [hw]; exact (bG NB213_214 BK213))⟩; replace BK214 : Aside0 (w172.heap[gb214]? = some (.cells #[.int .i64 a1_0, .int .i64 (wrap64 (a1_1 + 1)), .slice Ao168 x218002_2.length co168] 35 (0, 0))) := ⟨(by rw [hw]; exact (by refine bU ?_; refine blk_put (cs := #[.int .i64 a1_0, .int .i64 (wrap64 (a1_1 + 1)), .slice none 0 0]) ?_ 2 _ rfl; refine bU ?_; refine blk_put (cs := #[.int .i64 a1_0, .int .i64 0, .slice none 0 0]) ?_ 1 _ rfl; refine bU ?_; refine blk_put (cs := #[.int .i64 0, .int .i64 0, .slice none 0 0]) ?_ 0 _ rfl; refine bU ?_; exact BK214.out))⟩; replace BK217 : Aside0 (w172.heap[gb217]? = some (.cells #[.int .i64 a1_0, .int .i64 (wrap64 (a1_1 + 1)), .slice Ao168 x218002_2.length co168] 35 (0, 0))) := ⟨(by rw [hw]; exact (bG NB217_214 BK217))⟩; replace HB : Aside0 (Below w.heap.size w w172) := ⟨(by rw [hw]; exact (lV4 GE212 GE213 GE214 GE217))⟩; clear hw))
          refine bodyPost_ret (results_ct rfl _ _ gb214 35 #[.int .i64 a1_0, .int .i64 (wrap64 (a1_1 + 1)), .slice Ao168 x218002_2.length co168] (0, 0) _ rfl (bV BK214) Try.underlying35 rfl (by kernel_rfl)) rfl ?_
          exact ⟨_, eE, by (with_reducible repeat (first | apply Kd.R_alloc | apply Kd.R_drewN | apply Kd.R_drew)); exact HO_218002.out, lV4 GE212 GE213 GE214 GE217⟩
         ·replace c158 := Bool.eq_false_iff.mpr c158
          subst c158
          have H1 : (some (0, 0, ([] : List (S48)), false)) = some (r1, r2, r3, r4) := by rw [if_neg (show ¬ (false = true) by decide)] at H; exact H
          clear H
          have H := H1
          clear H1
          simp only [Option.some.injEq, Prod.mk.injEq] at H
          obtain ⟨rfl, rfl, rfl, rfl⟩ := H
          have hnb173 := NB213_212.out
          have hnc173 := NB212_213.out
          have hnb174 := NB213_214.out
          have hnc174 := NB214_213.out
          have hnb175 := NB213_217.out
          have hnc175 := NB217_213.out
          have hcz176_0 := cz BK213 0 (.int .i64 a1_0)
          have hcz176_1 := cz BK213 1 (.int .i64 a1_1)
          have hcz176_2 := cz BK213 2 (.slice A1_2 l1_2.length c1_2)
          have hfz176_0 := fz BK213 0
          have hfz176_1 := fz BK213 1
          have hfz176_2 := fz BK213 2
          have hnb177 := NB212_214.out
          have hnc177 := NB214_212.out
          have hnb178 := NB212_217.out
          have hnc178 := NB217_212.out
          have hcz179_0 := cz BK212 0 (.int .i64 a0_0)
          have hcz179_1 := cz BK212 1 (.int .i64 a0_1)
          have hcz179_2 := cz BK212 2 (.int .i64 a0_2)
          have hcz179_3 := cz BK212 3 (.int .i64 a0_3)
          have hcz179_4 := cz BK212 4 (.int .i64 a0_4)
          have hcz179_5 := cz BK212 5 (.int .i64 a0_5)
          have hcz179_6 := cz BK212 6 (.int .i64 a0_6)
          have hfz179_0 := fz BK212 0
          have hfz179_1 := fz BK212 1
          have hfz179_2 := fz BK212 2
          have hfz179_3 := fz BK212 3
          have hfz179_4 := fz BK212 4
          have hfz179_5 := fz BK212 5
          have hfz179_6 := fz BK212 6
          have hnb180 := NB217_214.out
          have hnc180 := NB214_217.out
          have hcz181_0 := cz BK217 0 (.int .i64 a1_0)
          have hcz181_1 := cz BK217 1 (.int .i64 (wrap64 (a1_1 + 1)))
          have hcz181_2 := cz BK217 2 (u218002)
          have hfz181_0 := fz BK217 0
          have hfz181_1 := fz BK217 1
          have hfz181_2 := fz BK217 2
          obtain ⟨Ao182, co182, eo182⟩ := Kd.R_slice HO_218002.out
          subst eo182
          go_wp2_with (first | ((with_reducible refine gate_callee (f := 20) rfl ?_); refine goesL_ (some 133) rfl rfl Try.func20 (by kernel_rfl) rfl #[.agg #[.int .i64 a1_0, .int .i64 (wrap64 (a1_1 + 1)), .slice Ao182 x218002_2.length co182]] rfl aE ?_; (with_reducible refine (spec_GoodCloud.calls k2 a1_0 (wrap64 (a1_1 + 1)) _ _ x218002_2 false _ ?side1 ?side2 A157.out).mono ?_); (case side1 => exact cU (Kd.R_reads' HO_218002.out).2.2); (case side2 => exact (Kd.R_reads' HO_218002.out).2.1); rintro e w183 ⟨rfl, hb⟩; refine ⟨_, rfl, ?_⟩; replace HO_218002 := Aside0.mk (Kd.R_below (rU HO_218002.out) hb); replace BK212 := bB (bV BK212) hb; replace BK213 := bB (bV BK213) hb; replace BK214 := bB (bV BK214) hb; replace BK217 := bB (bV BK217) hb; replace HB := bH (lV4 GE212 GE213 GE214 GE217) hb; (try clear hb); have hcz184_0 := cz BK214 0 (.int .i64 0); have hcz184_1 := cz BK214 1 (.int .i64 0); have hcz184_2 := cz BK214 2 (.slice none 0 0); have hfz184_0 := fz BK214 0; have hfz184_1 := fz BK214 1; have hfz184_2 := fz BK214 2) | ((with_reducible refine gate_store (t := 35) (p := 4) rfl ?_); refine store_event (t := 35) (p := 4) (v := ?vo_w185) (w1 := (((w183.setCell ⟨gb214, 0, none⟩ (.int .i64 0)).setCell ⟨gb214, 1, none⟩ (.int .i64 0)).setCell ⟨gb214, 2, none⟩ (.slice none 0 0))) ?hg ?ho ?hn ?hr ?_; (case ho => rfl); (case hg => rfl); (case hn => rfl); (case hr => first | (go_simp; done) | (go_simp; rfl) | (have hq0_ := (blk_cell BK214.out 0).trans (show _ = some _ from rfl); have hf0_ := blk_frozen BK214.out 0; have hq1_ := (blk_cell BK214.out 1).trans (show _ = some _ from rfl); have hf1_ := blk_frozen BK214.out 1; have hq2_ := (blk_cell BK214.out 2).trans (show _ = some _ from rfl); have hf2_ := blk_frozen BK214.out 2; first | (go_simp; done) | (go_simp; rfl))); intro w185 hw; replace HO_218002 : Aside0 (Kd.R k48 48 w185 w.heap.size (fun _ => True) (.slice Ao182 x218002_2.length co182) x218002_2) := ⟨(by rw [hw]; exact (by (with_reducible repeat (first | apply Kd.R_alloc | apply Kd.R_drewN | apply Kd.R_drew)); exact Kd.R_mono (Kd.R_far (p := ⟨gb214, 2, none⟩) (Kd.R_far (p := ⟨gb214, 1, none⟩) (Kd.R_far (p := ⟨gb214, 0, none⟩) (Kd.R_types HO_218002.out BK214.out (by decide)) (fun _ hk => hk.2) (.int .i64 0)) (fun _ hk => hk.2) (.int .i64 0)) (fun _ hk => hk.2) (.slice none 0 0)) (fun _ hk => trivial)))⟩; replace BK212 : Aside0 (w185.heap[gb212]? = some (.cells #[.int .i64 a0_0, .int .i64 a0_1, .int .i64 a0_2, .int .i64 a0_3, .int .i64 a0_4, .int .i64 a0_5, .int .i64 a0_6] 26 (0, 0))) := ⟨(by rw [hw]; exact (bG NB212_214 BK212))⟩; replace BK213 : Aside0 (w185.heap[gb213]? = some (.cells #[.int .i64 a1_0, .int .i64 a1_1, .slice A1_2 l1_2.length c1_2] 35 (0, 0))) := ⟨(by rw [hw]; exact (bG NB213_214 BK213))⟩; replace BK214 : Aside0 (w185.heap[gb214]? = some (.cells #[.int .i64 0, .int .i64 0, .slice none 0 0] 35 (0, 0))) := ⟨(by rw [hw]; exact (by refine bU ?_; refine blk_put (cs := #[.int .i64 0, .int .i64 0, .slice none 0 0]) ?_ 2 _ rfl; refine bU ?_; refine blk_put (cs := #[.int .i64 0, .int .i64 0, .slice none 0 0]) ?_ 1 _ rfl; refine bU ?_; refine blk_put (cs := #[.int .i64 0, .int .i64 0, .slice none 0 0]) ?_ 0 _ rfl; refine bU ?_; exact BK214.out))⟩; replace BK217 : Aside0 (w185.heap[gb217]? = some (.cells #[.int .i64 a1_0, .int .i64 (wrap64 (a1_1 + 1)), .slice Ao182 x218002_2.length co182] 35 (0, 0))) := ⟨(by rw [hw]; exact (bG NB217_214 BK217))⟩; replace HB : Aside0 (Below w.heap.size w w185) := ⟨(by rw [hw]; exact (lV4 GE212 GE213 GE214 GE217))⟩; clear hw))
          refine bodyPost_ret (results_ct rfl _ _ gb214 35 #[.int .i64 0, .int .i64 0, .slice none 0 0] (0, 0) _ rfl (bV BK214) Try.underlying35 rfl (by kernel_rfl)) rfl ?_
          exact ⟨_, eE, by first | exact Kd.R_nil _ _ _ _ _ | exact Kd.N_nil _ _ _ _ _ | exact Kd.V_nil _ _ _ _ _ | exact Kd.Q_nil _ _ _ _ _ | exact Kd.S_nil _ _ _ _ _, lV4 GE212 GE213 GE214 GE217⟩
end Go.Proofs.Ythgfobcckoedaaa.PFnExactRunCloud
namespace Go.Proofs.Ythgfobcckoedaaa.PFnExactRunCloud
open Go.RowKit Go.Proofs.YthgfobcckoedaaaW.PrintWords Go.Proofs.YthgfobcckoedaaaW.PrintLast Go.Proofs.YthgfobcckoedaaaW.PrintMore
attribute [local go_sem] max2_int min2_int max_two min_two max_three min_three max_four min_four   -- for this text's walks alone
set_option linter.unusedVariables false
set_option linter.unusedSimpArgs false
mutual
def spec_RunCloud.j0 : Nat → Int → Bool → Int → Int → Int → Int → Int → Int → Int → Int → Int → List (S48) → Option (Int × Int × (List (S48)) × Bool)
 | 0, _, _, _, _, _, _, _, _, _, _, _, _ => none
 | k + 1, x2, x22, x237000, x237001, x237002, x237003, x237004, x237005, x237006, x238000, x238001, x238002 => if x22 = true then (some (0, 0, ([] : List (S48)), false)) else ((some (([] : List (S48)) : List (S48))).bind fun y242 => (if y242.length + x238002.length < 3518437208883 then (spec_RunCloud.l0 k x2 x237000 x237001 x237002 x237003 x237004 x237005 x237006 x238000 x238001 (y242 ++ x238002)) else (none)))
def spec_RunCloud.l0 : Nat → Int → Int → Int → Int → Int → Int → Int → Int → Int → Int → List (S48) → Option (Int × Int × (List (S48)) × Bool)
 | 0, _, _, _, _, _, _, _, _, _, _, _ => none
 | k + 1, x2, x237000, x237001, x237002, x237003, x237004, x237005, x237006, x238000, x238001, x238002 => if x2 > 0 then ((spec_StepCloud.f k x237000 x237001 x237002 x237003 x237004 x237005 x237006 x238000 x238001 x238002).bind fun bt248 => (if bt248.2.2.2 = true then (spec_RunCloud.l0 k (wrap64 (x2 - 1)) x237000 x237001 x237002 x237003 x237004 x237005 x237006 bt248.1 bt248.2.1 bt248.2.2.1) else (some (0, 0, ([] : List (S48)), false)))) else (some (x238000, x238001, x238002, true))
end
def spec_RunCloud.f (k : Nat) (a0_0 : Int) (a0_1 : Int) (a0_2 : Int) (a0_3 : Int) (a0_4 : Int) (a0_5 : Int) (a0_6 : Int) (a1_0 : Int) (a1_1 : Int) (l1_2 : List (S48)) (a2 : Int) : Option (Int × Int × (List (S48)) × Bool) := (spec_GoodEmitter.f a0_0 a0_1 a0_2 a0_3 a0_4 a0_5 a0_6).bind fun t239 => (if t239 = true then ((spec_GoodCloud.f k a1_0 a1_1 l1_2).bind fun t240 => (if t240 = true then ((spec_l1In.f a2 0 200).bind fun t241 => (spec_RunCloud.j0 k a2 (!t241) a0_0 a0_1 a0_2 a0_3 a0_4 a0_5 a0_6 a1_0 a1_1 l1_2)) else (spec_RunCloud.j0 k a2 true a0_0 a0_1 a0_2 a0_3 a0_4 a0_5 a0_6 a1_0 a1_1 l1_2))) else (spec_RunCloud.j0 k a2 true a0_0 a0_1 a0_2 a0_3 a0_4 a0_5 a0_6 a1_0 a1_1 l1_2))
theorem spec_RunCloud.mono_l : ∀ k, (∀ y0 y1 y2 y3 y4 y5 y6 y7 y8 y9 y10 y11, LeO (spec_RunCloud.j0 k y0 y1 y2 y3 y4 y5 y6 y7 y8 y9 y10 y11) (spec_RunCloud.j0 (k + 1) y0 y1 y2 y3 y4 y5 y6 y7 y8 y9 y10 y11)) ∧ (∀ y0 y1 y2 y3 y4 y5 y6 y7 y8 y9 y10, LeO (spec_RunCloud.l0 k y0 y1 y2 y3 y4 y5 y6 y7 y8 y9 y10) (spec_RunCloud.l0 (k + 1) y0 y1 y2 y3 y4 y5 y6 y7 y8 y9 y10))
 | 0 => ⟨fun _ _ _ _ _ _ _ _ _ _ _ _ r h => by simp [spec_RunCloud.j0] at h, fun _ _ _ _ _ _ _ _ _ _ _ r h => by simp [spec_RunCloud.l0] at h⟩
 | k + 1 => by
  obtain ⟨ih0, ih1⟩ := spec_RunCloud.mono_l k
  refine ⟨?_, ?_⟩
  ·intro y0 y1 y2 y3 y4 y5 y6 y7 y8 y9 y10 y11
   unfold spec_RunCloud.j0
   repeat' first
   | (with_reducible exact ih0 _ _ _ _ _ _ _ _ _ _ _ _)
   | (with_reducible exact ih1 _ _ _ _ _ _ _ _ _ _ _)
   | (with_reducible exact spec_GoodCloud.mono _ _ _ _)
   | (with_reducible exact spec_StepCloud.mono _ _ _ _ _ _ _ _ _ _ _)
   | (with_reducible exact LeO.refl _)
   | (with_reducible exact LeO.none _)
   | (with_reducible refine LeO.ite ?_ ?_)
   | (with_reducible refine LeO.bind ?_ (fun _ => ?_))
   | exact ih0 _ _ _ _ _ _ _ _ _ _ _ _
   | exact ih1 _ _ _ _ _ _ _ _ _ _ _
   | exact spec_GoodCloud.mono _ _ _ _
   | exact spec_StepCloud.mono _ _ _ _ _ _ _ _ _ _ _
   | exact LeO.none _
   | refine LeO.ite ?_ ?_
   | refine LeO.bind ?_ (fun _ => ?_)
  ·intro y0 y1 y2 y3 y4 y5 y6 y7 y8 y9 y10
   unfold spec_RunCloud.l0
   repeat' first
   | (with_reducible exact ih0 _ _ _ _ _ _ _ _ _ _ _ _)
   | (with_reducible exact ih1 _ _ _ _ _ _ _ _ _ _ _)
   | (with_reducible exact spec_GoodCloud.mono _ _ _ _)
   | (with_reducible exact spec_StepCloud.mono _ _ _ _ _ _ _ _ _ _ _)
   | (with_reducible exact LeO.refl _)
   | (with_reducible exact LeO.none _)
   | (with_reducible refine LeO.ite ?_ ?_)
   | (with_reducible refine LeO.bind ?_ (fun _ => ?_))
   | exact ih0 _ _ _ _ _ _ _ _ _ _ _ _
   | exact ih1 _ _ _ _ _ _ _ _ _ _ _
   | exact spec_GoodCloud.mono _ _ _ _
   | exact spec_StepCloud.mono _ _ _ _ _ _ _ _ _ _ _
   | exact LeO.none _
   | refine LeO.ite ?_ ?_
   | refine LeO.bind ?_ (fun _ => ?_)
theorem spec_RunCloud.mono : ∀ a0 a1 a2 a3 a4 a5 a6 a7 a8 a9 a10 k, LeO (spec_RunCloud.f k a0 a1 a2 a3 a4 a5 a6 a7 a8 a9 a10) (spec_RunCloud.f (k + 1) a0 a1 a2 a3 a4 a5 a6 a7 a8 a9 a10) := by
 intro a0 a1 a2 a3 a4 a5 a6 a7 a8 a9 a10 k
 obtain ⟨ih0, ih1⟩ := spec_RunCloud.mono_l k
 unfold spec_RunCloud.f
 repeat' first
   | (with_reducible exact ih0 _ _ _ _ _ _ _ _ _ _ _ _)
   | (with_reducible exact ih1 _ _ _ _ _ _ _ _ _ _ _)
   | (with_reducible exact spec_GoodCloud.mono _ _ _ _)
   | (with_reducible exact spec_StepCloud.mono _ _ _ _ _ _ _ _ _ _ _)
   | (with_reducible exact LeO.refl _)
   | (with_reducible exact LeO.none _)
   | (with_reducible refine LeO.ite ?_ ?_)
   | (with_reducible refine LeO.bind ?_ (fun _ => ?_))
   | exact ih0 _ _ _ _ _ _ _ _ _ _ _ _
   | exact ih1 _ _ _ _ _ _ _ _ _ _ _
   | exact spec_GoodCloud.mono _ _ _ _
   | exact spec_StepCloud.mono _ _ _ _ _ _ _ _ _ _ _
   | exact LeO.none _
   | refine LeO.ite ?_ ?_
   | refine LeO.bind ?_ (fun _ => ?_)
set_option maxHeartbeats 8000000 in
set_option maxRecDepth 100000 in
theorem spec_RunCloud.calls (k : Nat) (a0_0 : Int) (a0_1 : Int) (a0_2 : Int) (a0_3 : Int) (a0_4 : Int) (a0_5 : Int) (a0_6 : Int) (a1_0 : Int) (a1_1 : Int) (A1_2 : Option Addr) (c1_2 : Nat) (l1_2 : List (S48)) (a2 : Int) (r1 : Int) (r2 : Int) (r3 : List (S48)) (r4 : Bool) (w : World) (hr1_2 : Kd.C k48 w A1_2 l1_2.length l1_2) (hc1_2 : l1_2.length ≤ c1_2) (h : spec_RunCloud.f k a0_0 a0_1 a0_2 a0_3 a0_4 a0_5 a0_6 a1_0 a1_1 l1_2 a2 = some (r1, r2, r3, r4)) :
  Calls Try.prog 16 #[.agg #[.int .i64 a0_0, .int .i64 a0_1, .int .i64 a0_2, .int .i64 a0_3, .int .i64 a0_4, .int .i64 a0_5, .int .i64 a0_6], .agg #[.int .i64 a1_0, .int .i64 a1_1, .slice A1_2 l1_2.length c1_2], .int .i64 a2] w fun e w' => ∃ v2_ : Value, e = .returned (.tuple #[.agg #[.int .i64 r1, .int .i64 r2, v2_], .bool r4]) ∧ Kd.R k48 48 w' w.heap.size (fun _ => True) v2_ r3 ∧ Below w.heap.size w w' := by
 have hu26 := Try.underlying26
 have hu35 := Try.underlying35
 have HR1_2 := Aside0.mk hr1_2
 have HC1_2 := Aside0.mk hc1_2
 clear hr1_2 hc1_2
 have HB := Aside0.mk (Below.refl w.heap.size w)
 have H : ((spec_GoodEmitter.f a0_0 a0_1 a0_2 a0_3 a0_4 a0_5 a0_6).bind fun t239 => (if t239 = true then ((spec_GoodCloud.f k a1_0 a1_1 l1_2).bind fun t240 => (if t240 = true then ((spec_l1In.f a2 0 200).bind fun t241 => (spec_RunCloud.j0 k a2 (!t241) a0_0 a0_1 a0_2 a0_3 a0_4 a0_5 a0_6 a1_0 a1_1 l1_2)) else (spec_RunCloud.j0 k a2 true a0_0 a0_1 a0_2 a0_3 a0_4 a0_5 a0_6 a1_0 a1_1 l1_2))) else (spec_RunCloud.j0 k a2 true a0_0 a0_1 a0_2 a0_3 a0_4 a0_5 a0_6 a1_0 a1_1 l1_2))) = some (r1, r2, r3, r4) := h
 clear h
 have HC4 := Aside0.mk H
 clear H
 go_enter Try.func16, Try.ntmps16
 go_upto_region 1 with (first | ((with_reducible refine gate_dst (N := 3) rfl ?_); refine box_event rfl (N := 3) rfl (cs := #[.int .i64 a0_0, .int .i64 a0_1, .int .i64 a0_2, .int .i64 a0_3, .int .i64 a0_4, .int .i64 a0_5, .int .i64 a0_6]) (t := 26) sE ?_; intro gb236 hg w5 hbox hb; have BK236 := Aside0.mk hbox; have GW236 := gS w hg (lU); have GE236 := GW236; replace HB := bH (lU) hb; clear hb hbox hg) | ((with_reducible refine gate_dst (N := 4) rfl ?_); refine box_event rfl (N := 4) rfl (cs := #[.int .i64 a1_0, .int .i64 a1_1, .slice A1_2 l1_2.length c1_2]) (t := 35) sE ?_; intro gb237 hg w6 hbox hb; have BK237 := Aside0.mk hbox; have GW237 := gS w hg (lV1 GE236); have GE237 := GW237; replace HB := bH (lV1 GE236) hb; have NB236_237 := nL hg (bV BK236); have NB237_236 := nG hg (bV BK236); replace BK236 := bB (bV BK236) hb; clear hb hbox hg) | ((with_reducible refine gate_dst (N := 6) rfl ?_); refine box_event rfl (N := 6) rfl (cs := #[.int .i64 0, .int .i64 0, .slice none 0 0]) (t := 35) sE ?_; intro gb238 hg w7 hbox hb; have BK238 := Aside0.mk hbox; have GW238 := gS w hg (lV2 GE236 GE237); have GE238 := GW238; replace HB := bH (lV2 GE236 GE237) hb; have NB236_238 := nL hg (bV BK236); have NB238_236 := nG hg (bV BK236); replace BK236 := bB (bV BK236) hb; have NB237_238 := nL hg (bV BK237); have NB238_237 := nG hg (bV BK237); replace BK237 := bB (bV BK237) hb; clear hb hbox hg))
 (try simp only [Act.put, List.setIfInBounds_toArray, List.set_cons_zero, List.set_cons_succ])
 go_cut [22] (fun v22 wc => ∃ (kq : Nat) (x22_3 : Bool), v22 = .bool x22_3 ∧ Aside0 (spec_RunCloud.j0 kq a2 x22_3 a0_0 a0_1 a0_2 a0_3 a0_4 a0_5 a0_6 a1_0 a1_1 l1_2 = some (r1, r2, r3, r4)) ∧ Aside0 (kq ≤ k) ∧ Aside0 (wc.heap[gb236]? = some (.cells #[.int .i64 a0_0, .int .i64 a0_1, .int .i64 a0_2, .int .i64 a0_3, .int .i64 a0_4, .int .i64 a0_5, .int .i64 a0_6] 26 (0, 0))) ∧ Aside0 (wc.heap[gb237]? = some (.cells #[.int .i64 a1_0, .int .i64 a1_1, (.slice A1_2 l1_2.length c1_2)] 35 (0, 0))) ∧ Aside0 (wc.heap[gb238]? = some (.cells #[.int .i64 0, .int .i64 0, (.slice none 0 0)] 35 (0, 0))) ∧ Aside0 (Below w.heap.size w wc))
 case first =>
  have H := HC4.out
  clear HC4
  replace H := Option.bind_eq_some_iff.mp H
  obtain ⟨t239, A80, H⟩ := H
  replace H : (if t239 = true then ((spec_GoodCloud.f k a1_0 a1_1 l1_2).bind fun t240 => (if t240 = true then ((spec_l1In.f a2 0 200).bind fun t241 => (spec_RunCloud.j0 k a2 (!t241) a0_0 a0_1 a0_2 a0_3 a0_4 a0_5 a0_6 a1_0 a1_1 l1_2)) else (spec_RunCloud.j0 k a2 true a0_0 a0_1 a0_2 a0_3 a0_4 a0_5 a0_6 a1_0 a1_1 l1_2))) else (spec_RunCloud.j0 k a2 true a0_0 a0_1 a0_2 a0_3 a0_4 a0_5 a0_6 a1_0 a1_1 l1_2)) = some (r1, r2, r3, r4) := H
  have A8 := Aside0.mk A80
  clear A80
  by_cases c9 : t239 = true
  ·subst c9
   have H1 : ((spec_GoodCloud.f k a1_0 a1_1 l1_2).bind fun t240 => (if t240 = true then ((spec_l1In.f a2 0 200).bind fun t241 => (spec_RunCloud.j0 k a2 (!t241) a0_0 a0_1 a0_2 a0_3 a0_4 a0_5 a0_6 a1_0 a1_1 l1_2)) else (spec_RunCloud.j0 k a2 true a0_0 a0_1 a0_2 a0_3 a0_4 a0_5 a0_6 a1_0 a1_1 l1_2))) = some (r1, r2, r3, r4) := by rw [if_pos rfl] at H; exact H
   clear H
   have H := H1
   clear H1
   replace H := Option.bind_eq_some_iff.mp H
   obtain ⟨t240, A100, H⟩ := H
   replace H : (if t240 = true then ((spec_l1In.f a2 0 200).bind fun t241 => (spec_RunCloud.j0 k a2 (!t241) a0_0 a0_1 a0_2 a0_3 a0_4 a0_5 a0_6 a1_0 a1_1 l1_2)) else (spec_RunCloud.j0 k a2 true a0_0 a0_1 a0_2 a0_3 a0_4 a0_5 a0_6 a1_0 a1_1 l1_2)) = some (r1, r2, r3, r4) := H
   have A10 := Aside0.mk A100
   clear A100
   by_cases c11 : t240 = true
   ·subst c11
    have H1 : ((spec_l1In.f a2 0 200).bind fun t241 => (spec_RunCloud.j0 k a2 (!t241) a0_0 a0_1 a0_2 a0_3 a0_4 a0_5 a0_6 a1_0 a1_1 l1_2)) = some (r1, r2, r3, r4) := by rw [if_pos rfl] at H; exact H
    clear H
    have H := H1
    clear H1
    replace H := Option.bind_eq_some_iff.mp H
    obtain ⟨t241, A120, H⟩ := H
    replace H : (spec_RunCloud.j0 k a2 (!t241) a0_0 a0_1 a0_2 a0_3 a0_4 a0_5 a0_6 a1_0 a1_1 l1_2) = some (r1, r2, r3, r4) := H
    have A12 := Aside0.mk A120
    clear A120
    have H' := Aside0.mk H
    clear H
    have hnb13 := NB236_237.out
    have hnc13 := NB237_236.out
    have hnb14 := NB236_238.out
    have hnc14 := NB238_236.out
    have hcz15_0 := cz BK236 0 (.int .i64 a0_0)
    have hcz15_1 := cz BK236 1 (.int .i64 a0_1)
    have hcz15_2 := cz BK236 2 (.int .i64 a0_2)
    have hcz15_3 := cz BK236 3 (.int .i64 a0_3)
    have hcz15_4 := cz BK236 4 (.int .i64 a0_4)
    have hcz15_5 := cz BK236 5 (.int .i64 a0_5)
    have hcz15_6 := cz BK236 6 (.int .i64 a0_6)
    have hfz15_0 := fz BK236 0
    have hfz15_1 := fz BK236 1
    have hfz15_2 := fz BK236 2
    have hfz15_3 := fz BK236 3
    have hfz15_4 := fz BK236 4
    have hfz15_5 := fz BK236 5
    have hfz15_6 := fz BK236 6
    go_wp2_with (first | ((with_reducible refine gate_callee (f := 19) rfl ?_); refine goesL_ (some 11) rfl rfl Try.func19 (by kernel_rfl) rfl #[.agg #[.int .i64 a0_0, .int .i64 a0_1, .int .i64 a0_2, .int .i64 a0_3, .int .i64 a0_4, .int .i64 a0_5, .int .i64 a0_6]] rfl aE ?_; (with_reducible refine (spec_GoodEmitter.calls a0_0 a0_1 a0_2 a0_3 a0_4 a0_5 a0_6 true _ A8.out).mono ?_); rintro e w16 ⟨rfl, hb⟩; refine ⟨_, rfl, ?_⟩; replace BK236 := bB (bV BK236) hb; replace BK237 := bB (bV BK237) hb; replace BK238 := bB (bV BK238) hb; replace HB := bH (lV3 GE236 GE237 GE238) hb; (try clear hb); have hnb17 := NB237_238.out; have hnc17 := NB238_237.out; have hcz18_0 := cz BK237 0 (.int .i64 a1_0); have hcz18_1 := cz BK237 1 (.int .i64 a1_1); have hcz18_2 := cz BK237 2 (.slice A1_2 l1_2.length c1_2); have hfz18_0 := fz BK237 0; have hfz18_1 := fz BK237 1; have hfz18_2 := fz BK237 2) | (go_at_call 20; (with_reducible refine (spec_GoodCloud.calls k a1_0 a1_1 _ _ l1_2 true _ ?side1 ?side2 A10.out).mono ?_); (case side1 => exact cU (Kd.C_below HR1_2.out HB.out)); (case side2 => exact HC1_2.out); rintro e w19 ⟨rfl, hb⟩; replace BK236 := bB (bV BK236) hb; replace BK237 := bB (bV BK237) hb; replace BK238 := bB (bV BK238) hb; replace HB := bH (lV3 GE236 GE237 GE238) hb; (try clear hb)) | (go_at_call 29; (with_reducible refine (spec_l1In.calls a2 0 200 t241 _ A12.out).mono ?_); rintro e w' ⟨rfl, ⟨nd, rfl⟩⟩))
    go_meet
    case rel => exact ⟨_, (!t241), tE, H', ⟨by first | omega | exact Nat.le_refl _⟩, ⟨by refine bU ?_; exact BK236.out⟩, ⟨by refine bU ?_; exact BK237.out⟩, ⟨by refine bU ?_; exact BK238.out⟩, ⟨by repeat (first | (with_reducible first | exact HB.out | apply below_alloc | apply pw_below_drewN | apply below_drew1 | refine below_set ?_ GE236.out | refine below_set ?_ GE237.out | refine below_set ?_ GE238.out) | exact HB.out)⟩⟩
   ·replace c11 := Bool.eq_false_iff.mpr c11
    subst c11
    have H1 : (spec_RunCloud.j0 k a2 true a0_0 a0_1 a0_2 a0_3 a0_4 a0_5 a0_6 a1_0 a1_1 l1_2) = some (r1, r2, r3, r4) := by rw [if_neg (show ¬ (false = true) by decide)] at H; exact H
    clear H
    have H := H1
    clear H1
    have H' := Aside0.mk H
    clear H
    have hnb20 := NB236_237.out
    have hnc20 := NB237_236.out
    have hnb21 := NB236_238.out
    have hnc21 := NB238_236.out
    have hcz22_0 := cz BK236 0 (.int .i64 a0_0)
    have hcz22_1 := cz BK236 1 (.int .i64 a0_1)
    have hcz22_2 := cz BK236 2 (.int .i64 a0_2)
    have hcz22_3 := cz BK236 3 (.int .i64 a0_3)
    have hcz22_4 := cz BK236 4 (.int .i64 a0_4)
    have hcz22_5 := cz BK236 5 (.int .i64 a0_5)
    have hcz22_6 := cz BK236 6 (.int .i64 a0_6)
    have hfz22_0 := fz BK236 0
    have hfz22_1 := fz BK236 1
    have hfz22_2 := fz BK236 2
    have hfz22_3 := fz BK236 3
    have hfz22_4 := fz BK236 4
    have hfz22_5 := fz BK236 5
    have hfz22_6 := fz BK236 6
    go_wp2_with (first | ((with_reducible refine gate_callee (f := 19) rfl ?_); refine goesL_ (some 11) rfl rfl Try.func19 (by kernel_rfl) rfl #[.agg #[.int .i64 a0_0, .int .i64 a0_1, .int .i64 a0_2, .int .i64 a0_3, .int .i64 a0_4, .int .i64 a0_5, .int .i64 a0_6]] rfl aE ?_; (with_reducible refine (spec_GoodEmitter.calls a0_0 a0_1 a0_2 a0_3 a0_4 a0_5 a0_6 true _ A8.out).mono ?_); rintro e w23 ⟨rfl, hb⟩; refine ⟨_, rfl, ?_⟩; replace BK236 := bB (bV BK236) hb; replace BK237 := bB (bV BK237) hb; replace BK238 := bB (bV BK238) hb; replace HB := bH (lV3 GE236 GE237 GE238) hb; (try clear hb); have hnb24 := NB237_238.out; have hnc24 := NB238_237.out; have hcz25_0 := cz BK237 0 (.int .i64 a1_0); have hcz25_1 := cz BK237 1 (.int .i64 a1_1); have hcz25_2 := cz BK237 2 (.slice A1_2 l1_2.length c1_2); have hfz25_0 := fz BK237 0; have hfz25_1 := fz BK237 1; have hfz25_2 := fz BK237 2) | (go_at_call 20; (with_reducible refine (spec_GoodCloud.calls k a1_0 a1_1 _ _ l1_2 false _ ?side1 ?side2 A10.out).mono ?_); (case side1 => exact cU (Kd.C_below HR1_2.out HB.out)); (case side2 => exact HC1_2.out); rintro e w26 ⟨rfl, hb⟩; replace BK236 := bB (bV BK236) hb; replace BK237 := bB (bV BK237) hb; replace BK238 := bB (bV BK238) hb; replace HB := bH (lV3 GE236 GE237 GE238) hb; (try clear hb)))
    go_meet
    case rel => exact ⟨_, (true), tE, H', ⟨by first | omega | exact Nat.le_refl _⟩, ⟨by refine bU ?_; exact BK236.out⟩, ⟨by refine bU ?_; exact BK237.out⟩, ⟨by refine bU ?_; exact BK238.out⟩, ⟨by repeat (first | (with_reducible first | exact HB.out | apply below_alloc | apply pw_below_drewN | apply below_drew1 | refine below_set ?_ GE236.out | refine below_set ?_ GE237.out | refine below_set ?_ GE238.out) | exact HB.out)⟩⟩
  ·replace c9 := Bool.eq_false_iff.mpr c9
   subst c9
   have H1 : (spec_RunCloud.j0 k a2 true a0_0 a0_1 a0_2 a0_3 a0_4 a0_5 a0_6 a1_0 a1_1 l1_2) = some (r1, r2, r3, r4) := by rw [if_neg (show ¬ (false = true) by decide)] at H; exact H
   clear H
   have H := H1
   clear H1
   have H' := Aside0.mk H
   clear H
   have hnb27 := NB236_237.out
   have hnc27 := NB237_236.out
   have hnb28 := NB236_238.out
   have hnc28 := NB238_236.out
   have hcz29_0 := cz BK236 0 (.int .i64 a0_0)
   have hcz29_1 := cz BK236 1 (.int .i64 a0_1)
   have hcz29_2 := cz BK236 2 (.int .i64 a0_2)
   have hcz29_3 := cz BK236 3 (.int .i64 a0_3)
   have hcz29_4 := cz BK236 4 (.int .i64 a0_4)
   have hcz29_5 := cz BK236 5 (.int .i64 a0_5)
   have hcz29_6 := cz BK236 6 (.int .i64 a0_6)
   have hfz29_0 := fz BK236 0
   have hfz29_1 := fz BK236 1
   have hfz29_2 := fz BK236 2
   have hfz29_3 := fz BK236 3
   have hfz29_4 := fz BK236 4
   have hfz29_5 := fz BK236 5
   have hfz29_6 := fz BK236 6
   go_wp2_with (first | ((with_reducible refine gate_callee (f := 19) rfl ?_); refine goesL_ (some 11) rfl rfl Try.func19 (by kernel_rfl) rfl #[.agg #[.int .i64 a0_0, .int .i64 a0_1, .int .i64 a0_2, .int .i64 a0_3, .int .i64 a0_4, .int .i64 a0_5, .int .i64 a0_6]] rfl aE ?_; (with_reducible refine (spec_GoodEmitter.calls a0_0 a0_1 a0_2 a0_3 a0_4 a0_5 a0_6 false _ A8.out).mono ?_); rintro e w30 ⟨rfl, hb⟩; refine ⟨_, rfl, ?_⟩; replace BK236 := bB (bV BK236) hb; replace BK237 := bB (bV BK237) hb; replace BK238 := bB (bV BK238) hb; replace HB := bH (lV3 GE236 GE237 GE238) hb; (try clear hb)))
   go_meet
   case rel => exact ⟨_, (true), tE, H', ⟨by first | omega | exact Nat.le_refl _⟩, ⟨by refine bU ?_; exact BK236.out⟩, ⟨by refine bU ?_; exact BK237.out⟩, ⟨by refine bU ?_; exact BK238.out⟩, ⟨by repeat (first | (with_reducible first | exact HB.out | apply below_alloc | apply pw_below_drewN | apply below_drew1 | refine below_set ?_ GE236.out | refine below_set ?_ GE237.out | refine below_set ?_ GE238.out) | exact HB.out)⟩⟩
 case rest =>
  clear HC4
  try clear c1
  try clear c2
  try clear p2
  try clear c9
  try clear c11
  try clear c13
  try clear c14
  try clear c16
  try clear c17
  try clear c19
  try clear c20
  try clear c21
  try clear c24
  try clear c27
  try clear c28
  try clear hcz15_0
  try clear hcz15_1
  try clear hcz15_2
  try clear hcz15_3
  try clear hcz15_4
  try clear hcz15_5
  try clear hcz15_6
  try clear hcz18_0
  try clear hcz18_1
  try clear hcz18_2
  try clear hcz22_0
  try clear hcz22_1
  try clear hcz22_2
  try clear hcz22_3
  try clear hcz22_4
  try clear hcz22_5
  try clear hcz22_6
  try clear hcz25_0
  try clear hcz25_1
  try clear hcz25_2
  try clear hcz29_0
  try clear hcz29_1
  try clear hcz29_2
  try clear hcz29_3
  try clear hcz29_4
  try clear hcz29_5
  try clear hcz29_6
  try clear hfz15_0
  try clear hfz15_1
  try clear hfz15_2
  try clear hfz15_3
  try clear hfz15_4
  try clear hfz15_5
  try clear hfz15_6
  try clear hfz18_0
  try clear hfz18_1
  try clear hfz18_2
  try clear hfz22_0
  try clear hfz22_1
  try clear hfz22_2
  try clear hfz22_3
  try clear hfz22_4
  try clear hfz22_5
  try clear hfz22_6
  try clear hfz25_0
  try clear hfz25_1
  try clear hfz25_2
  try clear hfz29_0
  try clear hfz29_1
  try clear hfz29_2
  try clear hfz29_3
  try clear hfz29_4
  try clear hfz29_5
  try clear hfz29_6
  obtain ⟨kq, x22_3, rfl, HA, HJ3, BK236, BK237, BK238, HB⟩ := hcut
  cases kq with
  | zero => exact absurd HA.out (by simp [spec_RunCloud.j0])
  | succ kj3 =>
   have H := HA.out
   clear HA
   simp only [spec_RunCloud.j0] at H
   by_cases c31 : x22_3 = true
   ·subst c31
    have H1 : (some (0, 0, ([] : List (S48)), false)) = some (r1, r2, r3, r4) := by rw [if_pos rfl] at H; exact H
    clear H
    have H := H1
    clear H1
    simp only [Option.some.injEq, Prod.mk.injEq] at H
    obtain ⟨rfl, rfl, rfl, rfl⟩ := H
    have hnb32 := NB238_236.out
    have hnc32 := NB236_238.out
    have hnb33 := NB238_237.out
    have hnc33 := NB237_238.out
    have hcz34_0 := cz BK238 0 (.int .i64 0)
    have hcz34_1 := cz BK238 1 (.int .i64 0)
    have hcz34_2 := cz BK238 2 (.slice none 0 0)
    have hfz34_0 := fz BK238 0
    have hfz34_1 := fz BK238 1
    have hfz34_2 := fz BK238 2
    go_wp2_with (first | ((with_reducible refine gate_store (t := 35) (p := 6) rfl ?_); refine store_event (t := 35) (p := 6) (v := ?vo_w35) (w1 := (((wc.setCell ⟨gb238, 0, none⟩ (.int .i64 0)).setCell ⟨gb238, 1, none⟩ (.int .i64 0)).setCell ⟨gb238, 2, none⟩ (.slice none 0 0))) ?hg ?ho ?hn ?hr ?_; (case ho => rfl); (case hg => rfl); (case hn => rfl); (case hr => first | (go_simp; done) | (go_simp; rfl) | (have hq0_ := (blk_cell BK238.out 0).trans (show _ = some _ from rfl); have hf0_ := blk_frozen BK238.out 0; have hq1_ := (blk_cell BK238.out 1).trans (show _ = some _ from rfl); have hf1_ := blk_frozen BK238.out 1; have hq2_ := (blk_cell BK238.out 2).trans (show _ = some _ from rfl); have hf2_ := blk_frozen BK238.out 2; first | (go_simp; done) | (go_simp; rfl))); intro w35 hw; replace BK236 : Aside0 (w35.heap[gb236]? = some (.cells #[.int .i64 a0_0, .int .i64 a0_1, .int .i64 a0_2, .int .i64 a0_3, .int .i64 a0_4, .int .i64 a0_5, .int .i64 a0_6] 26 (0, 0))) := ⟨(by rw [hw]; exact (bG NB236_238 BK236))⟩; replace BK237 : Aside0 (w35.heap[gb237]? = some (.cells #[.int .i64 a1_0, .int .i64 a1_1, .slice A1_2 l1_2.length c1_2] 35 (0, 0))) := ⟨(by rw [hw]; exact (bG NB237_238 BK237))⟩; replace BK238 : Aside0 (w35.heap[gb238]? = some (.cells #[.int .i64 0, .int .i64 0, .slice none 0 0] 35 (0, 0))) := ⟨(by rw [hw]; exact (by refine bU ?_; refine blk_put (cs := #[.int .i64 0, .int .i64 0, .slice none 0 0]) ?_ 2 _ rfl; refine bU ?_; refine blk_put (cs := #[.int .i64 0, .int .i64 0, .slice none 0 0]) ?_ 1 _ rfl; refine bU ?_; refine blk_put (cs := #[.int .i64 0, .int .i64 0, .slice none 0 0]) ?_ 0 _ rfl; refine bU ?_; exact BK238.out))⟩; replace HB : Aside0 (Below w.heap.size w w35) := ⟨(by rw [hw]; exact (lV3 GE236 GE237 GE238))⟩; clear hw))
    refine bodyPost_ret (results_ct rfl _ _ gb238 35 #[.int .i64 0, .int .i64 0, .slice none 0 0] (0, 0) _ rfl (bV BK238) Try.underlying35 rfl (by kernel_rfl)) rfl ?_
    exact ⟨_, eE, by first | exact Kd.R_nil _ _ _ _ _ | exact Kd.N_nil _ _ _ _ _ | exact Kd.V_nil _ _ _ _ _ | exact Kd.Q_nil _ _ _ _ _ | exact Kd.S_nil _ _ _ _ _, lV3 GE236 GE237 GE238⟩
   ·replace c31 := Bool.eq_false_iff.mpr c31
    subst c31
    have H1 : ((some (([] : List (S48)) : List (S48))).bind fun y242 => (if y242.length + l1_2.length < 3518437208883 then (spec_RunCloud.l0 kj3 a2 a0_0 a0_1 a0_2 a0_3 a0_4 a0_5 a0_6 a1_0 a1_1 (y242 ++ l1_2)) else (none))) = some (r1, r2, r3, r4) := by rw [if_neg (show ¬ (false = true) by decide)] at H; exact H
    clear H
    have H := H1
    clear H1
    obtain ⟨y242, hy242⟩ : ∃ y_ : List (S48), y_ = (([] : List (S48))) := ⟨_, rfl⟩
    replace H : (if y242.length + l1_2.length < 3518437208883 then (spec_RunCloud.l0 kj3 a2 a0_0 a0_1 a0_2 a0_3 a0_4 a0_5 a0_6 a1_0 a1_1 (y242 ++ l1_2)) else (none)) = some (r1, r2, r3, r4) := by first | (rw [hy242]; with_reducible exact H) | (have H2_ := (Option.bind_some _ _).symm.trans H; rw [hy242]; with_reducible exact H2_) | (have H2_ := (Option.bind_some _ _).symm.trans H; with_reducible exact H2_) | with_reducible exact H | (rw [hy242]; exact H) | exact H
    have Ny242 := Aside0.mk hy242
    clear hy242
    by_cases c36 : y242.length + l1_2.length < 3518437208883
    ·rw [if_pos c36] at H
     have LMc36 := Aside0.mk c36
     clear c36
     obtain ⟨y245, hy245⟩ : ∃ y_ : List (S48), y_ = (y242 ++ l1_2) := ⟨_, rfl⟩
     replace H : (spec_RunCloud.l0 kj3 a2 a0_0 a0_1 a0_2 a0_3 a0_4 a0_5 a0_6 a1_0 a1_1 y245) = some (r1, r2, r3, r4) := by first | (rw [hy245]; with_reducible exact H) | (have H2_ := (Option.bind_some _ _).symm.trans H; rw [hy245]; with_reducible exact H2_) | (have H2_ := (Option.bind_some _ _).symm.trans H; with_reducible exact H2_) | with_reducible exact H | (rw [hy245]; exact H) | exact H
     have Ny245 := Aside0.mk hy245
     clear hy245
     have H' := Aside0.mk H
     clear H
     go_wp2_with (first | ((with_reducible refine gate_dst (N := 24) rfl ?_); refine Kd.R_lit k48 _ 48 ?hg (N := 24) ?hd (xs := ([] : List (S48))) (inner := []) (ok := fun _ => True) (okp := fun _ => True) ?hr ?hp (fun _ hk => hk) trivial (Below.refl _ _) (Nat.le_refl _) (by simp) ?_; (case hd => rfl); (case hg => rfl); (case hr => exact sE); (case hp => exact (Reps.none _ _)); intro v243 w37 ho38 hb hg_ hnew_; clear hg_ hnew_; (first | rw [← Ny242.out] at ho38 | (simp only [Int.reduceToNat] at ho38; rw [← Ny242.out] at ho38)); have HO244 := Aside0.mk (Kd.R_lower ho38 (below_size (lV3 GE236 GE237 GE238))); replace BK236 := bB (bV BK236) hb; replace BK237 := bB (bV BK237) hb; replace BK238 := bB (bV BK238) hb; replace HB := bH (lV3 GE236 GE237 GE238) hb; clear hb ho38; have hnb39 := NB237_236.out; have hnc39 := NB236_237.out; have hnb40 := NB237_238.out; have hnc40 := NB238_237.out; have hcz41_0 := cz BK237 0 (.int .i64 a1_0); have hcz41_1 := cz BK237 1 (.int .i64 a1_1); have hcz41_2 := cz BK237 2 (.slice A1_2 l1_2.length c1_2); have hfz41_0 := fz BK237 0; have hfz41_1 := fz BK237 1; have hfz41_2 := fz BK237 2) | ((with_reducible refine gate_builtin (b := .append) (xs := #[.tmp 24, .tmp 26]) rfl ?_); at_builtin; refine Kd.R_append_rows k48 (w0 := w) w.heap.size rfl (.tmp 24) (.tmp 26) 33 48 (.agg #[(.int .i64 0), (.int .i64 0), (.int .i64 0), (.int .i64 0), (.int .i64 0)]) 40 rfl Try.underlying33 info48 rfl (by decide) (by omega) v243 y242 l1_2 _ _ _ (fun _ => True) (fun _ => False) rfl rfl ?aO ?aR (fun _ _ h => h) (fun _ h => h.elim) ?aF ?aB ?aS ?aL ?_; (case aR => repeat (first | exact (Kd.C_below HR1_2.out HB.out) | (with_reducible refine Kd.C_alloc ?_ _) | (with_reducible refine Kd.C_drewN ?_ _) | (with_reducible refine Kd.C_drew ?_))); (case aB => exact (lV3 GE236 GE237 GE238)); (case aF => exact (fun _ _ => trivial)); (case aO => exact (rU HO244.out)); (case aS => exact (below_size (lV3 GE236 GE237 GE238))); (case aL => have := LMc36.out; omega); intro v246 w42 ho hb hg hat; rw [← Ny245.out] at ho; replace BK236 := Aside0.mk (blk_grown (g := gb236) (o := .cells #[.int .i64 a0_0, .int .i64 a0_1, .int .i64 a0_2, .int .i64 a0_3, .int .i64 a0_4, .int .i64 a0_5, .int .i64 a0_6] 26 (0, 0)) (bV BK236) hg (Kd.R_ne HO244.out BK236.out (by decide))); replace BK237 := Aside0.mk (blk_grown (g := gb237) (o := .cells #[.int .i64 a1_0, .int .i64 a1_1, .slice A1_2 l1_2.length c1_2] 35 (0, 0)) (bV BK237) hg (Kd.R_ne HO244.out BK237.out (by decide))); replace BK238 := Aside0.mk (blk_grown (g := gb238) (o := .cells #[.int .i64 0, .int .i64 0, .slice none 0 0] 35 (0, 0)) (bV BK238) hg (Kd.R_ne HO244.out BK238.out (by decide))); replace HB := Aside0.mk hb; have HO247 := Aside0.mk ho; clear HO244; clear ho hb hg hat; obtain ⟨Ao43, co43, eo43⟩ := Kd.R_slice HO247.out; subst eo43; have hcz44_0 := cz BK237 0 (.int .i64 a1_0); have hcz44_1 := cz BK237 1 (.int .i64 a1_1); have hcz44_2 := cz BK237 2 (.slice A1_2 l1_2.length c1_2); have hfz44_0 := fz BK237 0; have hfz44_1 := fz BK237 1; have hfz44_2 := fz BK237 2) | ((with_reducible refine gate_store (t := 33) (p := 28) rfl ?_); refine store_event (t := 33) (p := 28) (v := ?vo_w45) (w1 := (w42.setCell ⟨gb237, 2, none⟩ (.slice Ao43 y245.length co43))) ?hg ?ho ?hn ?hr ?_; (case ho => rfl); (case hg => rfl); (case hn => rfl); (case hr => first | (go_simp; done) | (go_simp; rfl) | (have hq0_ := (blk_cell BK237.out 2).trans (show _ = some _ from rfl); have hf0_ := blk_frozen BK237.out 2; first | (go_simp; done) | (go_simp; rfl))); intro w45 hw; replace HO247 : Aside0 (Kd.R k48 48 w45 w.heap.size (fun _ => True) (.slice Ao43 y245.length co43) y245) := ⟨(by rw [hw]; exact (by (with_reducible repeat (first | apply Kd.R_alloc | apply Kd.R_drewN | apply Kd.R_drew)); exact Kd.R_mono (Kd.R_far (p := ⟨gb237, 2, none⟩) (Kd.R_types HO247.out BK237.out (by decide)) (fun _ hk => hk.2) (.slice Ao43 y245.length co43)) (fun _ hk => trivial)))⟩; replace BK236 : Aside0 (w45.heap[gb236]? = some (.cells #[.int .i64 a0_0, .int .i64 a0_1, .int .i64 a0_2, .int .i64 a0_3, .int .i64 a0_4, .int .i64 a0_5, .int .i64 a0_6] 26 (0, 0))) := ⟨(by rw [hw]; exact (bG NB236_237 BK236))⟩; replace BK237 : Aside0 (w45.heap[gb237]? = some (.cells #[.int .i64 a1_0, .int .i64 a1_1, .slice Ao43 y245.length co43] 35 (0, 0))) := ⟨(by rw [hw]; exact (by refine bU ?_; refine blk_put (cs := #[.int .i64 a1_0, .int .i64 a1_1, .slice A1_2 l1_2.length c1_2]) ?_ 2 _ rfl; refine bU ?_; exact BK237.out))⟩; replace BK238 : Aside0 (w45.heap[gb238]? = some (.cells #[.int .i64 0, .int .i64 0, .slice none 0 0] 35 (0, 0))) := ⟨(by rw [hw]; exact (bG NB238_237 BK238))⟩; replace HB : Aside0 (Below w.heap.size w w45) := ⟨(by rw [hw]; exact (lV3 GE236 GE237 GE238))⟩; clear hw))
     (try simp only [Act.put, List.setIfInBounds_toArray, List.set_cons_zero, List.set_cons_succ])
     go_loopg [2] kj3 (fun kq v2 w' => ∃ (x2_2 : Int) (x238000_2 : Int) (x238001_2 : Int) (x238002_2 : List (S48)) (x239000_2 : Int) (x239001_2 : Int) (u238002 : Value), v2 = .int .i64 x2_2 ∧ Aside0 (spec_RunCloud.l0 kq x2_2 a0_0 a0_1 a0_2 a0_3 a0_4 a0_5 a0_6 x238000_2 x238001_2 x238002_2 = some (r1, r2, r3, r4)) ∧ Aside0 (kq ≤ kj3) ∧ Aside0 (Kd.R k48 48 w' w.heap.size (fun _ => True) u238002 x238002_2) ∧ Aside0 (w'.heap[gb236]? = some (.cells #[.int .i64 a0_0, .int .i64 a0_1, .int .i64 a0_2, .int .i64 a0_3, .int .i64 a0_4, .int .i64 a0_5, .int .i64 a0_6] 26 (0, 0))) ∧ Aside0 (w'.heap[gb237]? = some (.cells #[.int .i64 x238000_2, .int .i64 x238001_2, u238002] 35 (0, 0))) ∧ Aside0 (w'.heap[gb238]? = some (.cells #[.int .i64 x239000_2, .int .i64 x239001_2, (.slice none 0 0)] 35 (0, 0))) ∧ Aside0 (Below w.heap.size w w'))
     case atStart => exact ⟨(a2), (a1_0), (a1_1), (y245), (0), (0), (.slice Ao43 y245.length co43), tE, H', ⟨Nat.le_refl _⟩, ⟨by (with_reducible repeat (first | apply Kd.R_alloc | apply Kd.R_drewN | apply Kd.R_drew)); exact HO247.out⟩, ⟨by refine bU ?_; exact BK236.out⟩, ⟨by refine bU ?_; exact BK237.out⟩, ⟨by refine bU ?_; exact BK238.out⟩, ⟨by repeat (first | (with_reducible first | exact HB.out | apply below_alloc | apply pw_below_drewN | apply below_drew1 | refine below_set ?_ GE236.out | refine below_set ?_ GE237.out | refine below_set ?_ GE238.out) | exact HB.out)⟩⟩
     case round =>
      clear H'
      try clear c1
      try clear q1
      try clear c2
      try clear p2
      try clear q2
      try clear c3
      try clear c4
      try clear c9
      try clear c11
      try clear c13
      try clear c14
      try clear c16
      try clear c17
      try clear c19
      try clear c20
      try clear c21
      try clear c24
      try clear c27
      try clear c28
      try clear c31
      try clear c32
      try clear c33
      try clear c36
      try clear c39
      try clear c40
      try clear hcz15_0
      try clear hcz15_1
      try clear hcz15_2
      try clear hcz15_3
      try clear hcz15_4
      try clear hcz15_5
      try clear hcz15_6
      try clear hcz18_0
      try clear hcz18_1
      try clear hcz18_2
      try clear hcz22_0
      try clear hcz22_1
      try clear hcz22_2
      try clear hcz22_3
      try clear hcz22_4
      try clear hcz22_5
      try clear hcz22_6
      try clear hcz25_0
      try clear hcz25_1
      try clear hcz25_2
      try clear hcz29_0
      try clear hcz29_1
      try clear hcz29_2
      try clear hcz29_3
      try clear hcz29_4
      try clear hcz29_5
      try clear hcz29_6
      try clear hcz34_0
      try clear hcz34_1
      try clear hcz34_2
      try clear hcz41_0
      try clear hcz41_1
      try clear hcz41_2
      try clear hcz44_0
      try clear hcz44_1
      try clear hcz44_2
      try clear hfz15_0
      try clear hfz15_1
      try clear hfz15_2
      try clear hfz15_3
      try clear hfz15_4
      try clear hfz15_5
      try clear hfz15_6
      try clear hfz18_0
      try clear hfz18_1
      try clear hfz18_2
      try clear hfz22_0
      try clear hfz22_1
      try clear hfz22_2
      try clear hfz22_3
      try clear hfz22_4
      try clear hfz22_5
      try clear hfz22_6
      try clear hfz25_0
      try clear hfz25_1
      try clear hfz25_2
      try clear hfz29_0
      try clear hfz29_1
      try clear hfz29_2
      try clear hfz29_3
      try clear hfz29_4
      try clear hfz29_5
      try clear hfz29_6
      try clear hfz34_0
      try clear hfz34_1
      try clear hfz34_2
      try clear hfz41_0
      try clear hfz41_1
      try clear hfz41_2
      try clear hfz44_0
      try clear hfz44_1
      try clear hfz44_2
      try clear p2
      obtain ⟨x2_2, x238000_2, x238001_2, x238002_2, x239000_2, x239001_2, u238002, rfl, HA, HK2, HO_238002, BK236, BK237, BK238, HB⟩ := hrel
      cases gk with
      | zero => exact absurd HA.out (by simp [spec_RunCloud.l0])
      | succ k2 =>
       have H := HA.out
       clear HA
       simp only [spec_RunCloud.l0] at H
       by_cases c46 : x2_2 > 0
       ·rw [if_pos c46] at H
        have c46b0 : decide (0 < x2_2) = true := decide_eq_true c46
        clear c46
        replace H := Option.bind_eq_some_iff.mp H
        obtain ⟨⟨t248, t249, t250, t253⟩, A470, H⟩ := H
        replace H : (if t253 = true then (spec_RunCloud.l0 k2 (wrap64 (x2_2 - 1)) a0_0 a0_1 a0_2 a0_3 a0_4 a0_5 a0_6 t248 t249 t250) else (some (0, 0, ([] : List (S48)), false))) = some (r1, r2, r3, r4) := H
        have A47 := Aside0.mk A470
        clear A470
        by_cases c48 : t253 = true
        ·subst c48
         have H1 : (spec_RunCloud.l0 k2 (wrap64 (x2_2 - 1)) a0_0 a0_1 a0_2 a0_3 a0_4 a0_5 a0_6 t248 t249 t250) = some (r1, r2, r3, r4) := by rw [if_pos rfl] at H; exact H
         clear H
         have H := H1
         clear H1
         have H' := Aside0.mk H
         clear H
         have hnb49 := NB236_237.out
         have hnc49 := NB237_236.out
         have hnb50 := NB236_238.out
         have hnc50 := NB238_236.out
         have hcz51_0 := cz BK236 0 (.int .i64 a0_0)
         have hcz51_1 := cz BK236 1 (.int .i64 a0_1)
         have hcz51_2 := cz BK236 2 (.int .i64 a0_2)
         have hcz51_3 := cz BK236 3 (.int .i64 a0_3)
         have hcz51_4 := cz BK236 4 (.int .i64 a0_4)
         have hcz51_5 := cz BK236 5 (.int .i64 a0_5)
         have hcz51_6 := cz BK236 6 (.int .i64 a0_6)
         have hfz51_0 := fz BK236 0
         have hfz51_1 := fz BK236 1
         have hfz51_2 := fz BK236 2
         have hfz51_3 := fz BK236 3
         have hfz51_4 := fz BK236 4
         have hfz51_5 := fz BK236 5
         have hfz51_6 := fz BK236 6
         have hnb52 := NB237_238.out
         have hnc52 := NB238_237.out
         have hcz53_0 := cz BK237 0 (.int .i64 x238000_2)
         have hcz53_1 := cz BK237 1 (.int .i64 x238001_2)
         have hcz53_2 := cz BK237 2 (u238002)
         have hfz53_0 := fz BK237 0
         have hfz53_1 := fz BK237 1
         have hfz53_2 := fz BK237 2
         obtain ⟨Ao54, co54, eo54⟩ := Kd.R_slice HO_238002.out
         subst eo54
         go_wp2_with (first | ((with_reducible refine gate_callee (f := 10) rfl ?_); refine goesL_ (some 36) rfl rfl Try.func10 (by kernel_rfl) rfl #[.agg #[.int .i64 a0_0, .int .i64 a0_1, .int .i64 a0_2, .int .i64 a0_3, .int .i64 a0_4, .int .i64 a0_5, .int .i64 a0_6], .agg #[.int .i64 x238000_2, .int .i64 x238001_2, .slice Ao54 x238002_2.length co54]] rfl aE ?_; (with_reducible refine (spec_StepCloud.calls k2 a0_0 a0_1 a0_2 a0_3 a0_4 a0_5 a0_6 x238000_2 x238001_2 _ _ x238002_2 t248 t249 t250 true _ ?side1 ?side2 A47.out).mono ?_); (case side1 => exact cU (Kd.R_reads' HO_238002.out).2.2); (case side2 => exact (Kd.R_reads' HO_238002.out).2.1); rintro e w55 ⟨v251, rfl, ho0, hb⟩; refine ⟨_, rfl, ?_⟩; have HO252 := Aside0.mk (Kd.R_lower (Kd.R_new' ho0 (Kd.R_lt (rU HO_238002.out))) (below_size (lV3 GE236 GE237 GE238))); replace HO_238002 := Aside0.mk (Kd.R_elder' (rU HO_238002.out) (Kd.R_base ho0) hb); replace BK236 := bB (bV BK236) hb; replace BK237 := bB (bV BK237) hb; replace BK238 := bB (bV BK238) hb; replace HB := bH (lV3 GE236 GE237 GE238) hb; (try clear hb); (try clear ho0)) | ((with_reducible refine gate_dst (N := 8) rfl ?_); refine box_event rfl (N := 8) rfl (cs := #[.int .i64 0, .int .i64 0, .slice none 0 0]) (t := 35) sE ?_; intro gb254 hg w56 hbox hb; replace HO_238002 := Aside0.mk (Kd.R_below (rU HO_238002.out) hb); replace HO252 := Aside0.mk (Kd.R_below (rU HO252.out) hb); have BK254 := Aside0.mk hbox; have GW254 := gS w hg (lV3 GE236 GE237 GE238); have GE254 := GW254; replace HB := bH (lV3 GE236 GE237 GE238) hb; have NB236_254 := nL hg (bV BK236); have NB254_236 := nG hg (bV BK236); replace BK236 := bB (bV BK236) hb; have NB237_254 := nL hg (bV BK237); have NB254_237 := nG hg (bV BK237); replace BK237 := bB (bV BK237) hb; have NB238_254 := nL hg (bV BK238); have NB254_238 := nG hg (bV BK238); replace BK238 := bB (bV BK238) hb; clear hb hbox hg; have hnb57 := NB254_236.out; have hnc57 := NB236_254.out; have hnb58 := NB254_237.out; have hnc58 := NB237_254.out; have hnb59 := NB254_238.out; have hnc59 := NB238_254.out; have hcz60_0 := cz BK254 0 (.int .i64 0); have hcz60_1 := cz BK254 1 (.int .i64 0); have hcz60_2 := cz BK254 2 (.slice none 0 0); have hfz60_0 := fz BK254 0; have hfz60_1 := fz BK254 1; have hfz60_2 := fz BK254 2; obtain ⟨Ao61, co61, eo61⟩ := Kd.R_slice HO252.out; subst eo61) | ((with_reducible refine gate_store (t := 35) (p := 8) rfl ?_); refine store_event (t := 35) (p := 8) (v := ?vo_w62) (w1 := (((w56.setCell ⟨gb254, 0, none⟩ (.int .i64 t248)).setCell ⟨gb254, 1, none⟩ (.int .i64 t249)).setCell ⟨gb254, 2, none⟩ (.slice Ao61 t250.length co61))) ?hg ?ho ?hn ?hr ?_; (case ho => rfl); (case hg => rfl); (case hn => rfl); (case hr => first | (go_simp; done) | (go_simp; rfl) | (have hq0_ := (blk_cell BK254.out 0).trans (show _ = some _ from rfl); have hf0_ := blk_frozen BK254.out 0; have hq1_ := (blk_cell BK254.out 1).trans (show _ = some _ from rfl); have hf1_ := blk_frozen BK254.out 1; have hq2_ := (blk_cell BK254.out 2).trans (show _ = some _ from rfl); have hf2_ := blk_frozen BK254.out 2; first | (go_simp; done) | (go_simp; rfl))); intro w62 hw; replace HO_238002 : Aside0 (Kd.R k48 48 w62 w.heap.size (fun k_ => some k_ ≠ (.slice Ao61 t250.length co61 : Value).ownBlock) (.slice Ao54 x238002_2.length co54) x238002_2) := ⟨(by rw [hw]; exact (by (with_reducible repeat (first | apply Kd.R_alloc | apply Kd.R_drewN | apply Kd.R_drew)); exact Kd.R_mono (Kd.R_far (p := ⟨gb254, 2, none⟩) (Kd.R_far (p := ⟨gb254, 1, none⟩) (Kd.R_far (p := ⟨gb254, 0, none⟩) (Kd.R_types HO_238002.out BK254.out (by decide)) (fun _ hk => hk.2) (.int .i64 t248)) (fun _ hk => hk.2) (.int .i64 t249)) (fun _ hk => hk.2) (.slice Ao61 t250.length co61)) (fun _ hk => hk.1.2)))⟩; replace HO252 : Aside0 (Kd.R k48 48 w62 w.heap.size (fun k_ => some k_ ≠ (.slice Ao54 x238002_2.length co54 : Value).ownBlock) (.slice Ao61 t250.length co61) t250) := ⟨(by rw [hw]; exact (by (with_reducible repeat (first | apply Kd.R_alloc | apply Kd.R_drewN | apply Kd.R_drew)); exact Kd.R_mono (Kd.R_far (p := ⟨gb254, 2, none⟩) (Kd.R_far (p := ⟨gb254, 1, none⟩) (Kd.R_far (p := ⟨gb254, 0, none⟩) (Kd.R_types HO252.out BK254.out (by decide)) (fun _ hk => hk.2) (.int .i64 t248)) (fun _ hk => hk.2) (.int .i64 t249)) (fun _ hk => hk.2) (.slice Ao61 t250.length co61)) (fun _ hk => hk.1.2)))⟩; replace BK236 : Aside0 (w62.heap[gb236]? = some (.cells #[.int .i64 a0_0, .int .i64 a0_1, .int .i64 a0_2, .int .i64 a0_3, .int .i64 a0_4, .int .i64 a0_5, .int .i64 a0_6] 26 (0, 0))) := ⟨(by rw [hw]; exact (bG NB236_254 BK236))⟩; replace BK237 : Aside0 (w62.heap[gb237]? = some (.cells #[.int .i64 x238000_2, .int .i64 x238001_2, .slice Ao54 x238002_2.length co54] 35 (0, 0))) := ⟨(by rw [hw]; exact (bG NB237_254 BK237))⟩; replace BK238 : Aside0 (w62.heap[gb238]? = some (.cells #[.int .i64 x239000_2, .int .i64 x239001_2, .slice none 0 0] 35 (0, 0))) := ⟨(by rw [hw]; exact (bG NB238_254 BK238))⟩; replace BK254 : Aside0 (w62.heap[gb254]? = some (.cells #[.int .i64 t248, .int .i64 t249, .slice Ao61 t250.length co61] 35 (0, 0))) := ⟨(by rw [hw]; exact (by refine bU ?_; refine blk_put (cs := #[.int .i64 t248, .int .i64 t249, .slice none 0 0]) ?_ 2 _ rfl; refine bU ?_; refine blk_put (cs := #[.int .i64 t248, .int .i64 0, .slice none 0 0]) ?_ 1 _ rfl; refine bU ?_; refine blk_put (cs := #[.int .i64 0, .int .i64 0, .slice none 0 0]) ?_ 0 _ rfl; refine bU ?_; exact BK254.out))⟩; replace HB : Aside0 (Below w.heap.size w w62) := ⟨(by rw [hw]; exact (lV4 GE236 GE237 GE238 GE254))⟩; clear hw; have hcz63_0 := cz BK254 0 (.int .i64 t248); have hcz63_1 := cz BK254 1 (.int .i64 t249); have hcz63_2 := cz BK254 2 (.slice Ao61 t250.length co61); have hfz63_0 := fz BK254 0; have hfz63_1 := fz BK254 1; have hfz63_2 := fz BK254 2; have hcz64_0 := cz BK237 0 (.int .i64 x238000_2); have hcz64_1 := cz BK237 1 (.int .i64 x238001_2); have hcz64_2 := cz BK237 2 (.slice Ao54 x238002_2.length co54); have hfz64_0 := fz BK237 0; have hfz64_1 := fz BK237 1; have hfz64_2 := fz BK237 2) | ((with_reducible refine gate_store (t := 35) (p := 4) rfl ?_); refine store_event (t := 35) (p := 4) (v := ?vo_w65) (w1 := (((w62.setCell ⟨gb237, 0, none⟩ (.int .i64 t248)).setCell ⟨gb237, 1, none⟩ (.int .i64 t249)).setCell ⟨gb237, 2, none⟩ (.slice Ao61 t250.length co61))) ?hg ?ho ?hn ?hr ?_; (case ho => rfl); (case hg => rfl); (case hn => rfl); (case hr => first | (go_simp; done) | (go_simp; rfl) | (have hq0_ := (blk_cell BK237.out 0).trans (show _ = some _ from rfl); have hf0_ := blk_frozen BK237.out 0; have hq1_ := (blk_cell BK237.out 1).trans (show _ = some _ from rfl); have hf1_ := blk_frozen BK237.out 1; have hq2_ := (blk_cell BK237.out 2).trans (show _ = some _ from rfl); have hf2_ := blk_frozen BK237.out 2; first | (go_simp; done) | (go_simp; rfl))); intro w65 hw; replace HO_238002 : Aside0 (Kd.R k48 48 w65 w.heap.size (fun k_ => some k_ ≠ (.slice Ao61 t250.length co61 : Value).ownBlock) (.slice Ao54 x238002_2.length co54) x238002_2) := ⟨(by rw [hw]; exact (by (with_reducible repeat (first | apply Kd.R_alloc | apply Kd.R_drewN | apply Kd.R_drew)); exact Kd.R_mono (Kd.R_far (p := ⟨gb237, 2, none⟩) (Kd.R_far (p := ⟨gb237, 1, none⟩) (Kd.R_far (p := ⟨gb237, 0, none⟩) (Kd.R_types HO_238002.out BK237.out (by decide)) (fun _ hk => hk.2) (.int .i64 t248)) (fun _ hk => hk.2) (.int .i64 t249)) (fun _ hk => hk.2) (.slice Ao61 t250.length co61)) (fun _ hk => hk.1)))⟩; replace HO252 : Aside0 (Kd.R k48 48 w65 w.heap.size (fun k_ => some k_ ≠ (.slice Ao54 x238002_2.length co54 : Value).ownBlock) (.slice Ao61 t250.length co61) t250) := ⟨(by rw [hw]; exact (by (with_reducible repeat (first | apply Kd.R_alloc | apply Kd.R_drewN | apply Kd.R_drew)); exact Kd.R_mono (Kd.R_far (p := ⟨gb237, 2, none⟩) (Kd.R_far (p := ⟨gb237, 1, none⟩) (Kd.R_far (p := ⟨gb237, 0, none⟩) (Kd.R_types HO252.out BK237.out (by decide)) (fun _ hk => hk.2) (.int .i64 t248)) (fun _ hk => hk.2) (.int .i64 t249)) (fun _ hk => hk.2) (.slice Ao61 t250.length co61)) (fun _ hk => hk.1)))⟩; replace BK236 : Aside0 (w65.heap[gb236]? = some (.cells #[.int .i64 a0_0, .int .i64 a0_1, .int .i64 a0_2, .int .i64 a0_3, .int .i64 a0_4, .int .i64 a0_5, .int .i64 a0_6] 26 (0, 0))) := ⟨(by rw [hw]; exact (bG NB236_237 BK236))⟩; replace BK237 : Aside0 (w65.heap[gb237]? = some (.cells #[.int .i64 t248, .int .i64 t249, .slice Ao61 t250.length co61] 35 (0, 0))) := ⟨(by rw [hw]; exact (by refine bU ?_; refine blk_put (cs := #[.int .i64 t248, .int .i64 t249, .slice Ao54 x238002_2.length co54]) ?_ 2 _ rfl; refine bU ?_; refine blk_put (cs := #[.int .i64 t248, .int .i64 x238001_2, .slice Ao54 x238002_2.length co54]) ?_ 1 _ rfl; refine bU ?_; refine blk_put (cs := #[.int .i64 x238000_2, .int .i64 x238001_2, .slice Ao54 x238002_2.length co54]) ?_ 0 _ rfl; refine bU ?_; exact BK237.out))⟩; replace BK238 : Aside0 (w65.heap[gb238]? = some (.cells #[.int .i64 x239000_2, .int .i64 x239001_2, .slice none 0 0] 35 (0, 0))) := ⟨(by rw [hw]; exact (bG NB238_237 BK238))⟩; replace BK254 : Aside0 (w65.heap[gb254]? = some (.cells #[.int .i64 t248, .int .i64 t249, .slice Ao61 t250.length co61] 35 (0, 0))) := ⟨(by rw [hw]; exact (bG NB254_237 BK254))⟩; replace HB : Aside0 (Below w.heap.size w w65) := ⟨(by rw [hw]; exact (lV4 GE236 GE237 GE238 GE254))⟩; clear hw))
         go_roundg k2
         case measure => have := HJ3.out; have := HK2.out; omega
         case rel => exact ⟨(wrap64 (x2_2 - 1)), (t248), (t249), (t250), (x239000_2), (x239001_2), (.slice Ao61 t250.length co61), tE, H', ⟨by have := HJ3.out; have := HK2.out; omega⟩, ⟨by (with_reducible repeat (first | apply Kd.R_alloc | apply Kd.R_drewN | apply Kd.R_drew)); exact Kd.R_mono HO252.out (fun _ hk => trivial)⟩, ⟨by refine bU ?_; exact BK236.out⟩, ⟨by refine bU ?_; exact BK237.out⟩, ⟨by refine bU ?_; exact BK238.out⟩, ⟨by repeat (first | (with_reducible first | exact HB.out | apply below_alloc | apply pw_below_drewN | apply below_drew1 | refine below_set ?_ GE236.out | refine below_set ?_ GE237.out | refine below_set ?_ GE238.out | refine below_set ?_ GE254.out) | exact HB.out)⟩⟩
        ·replace c48 := Bool.eq_false_iff.mpr c48
         subst c48
         have H1 : (some (0, 0, ([] : List (S48)), false)) = some (r1, r2, r3, r4) := by rw [if_neg (show ¬ (false = true) by decide)] at H; exact H
         clear H
         have H := H1
         clear H1
         simp only [Option.some.injEq, Prod.mk.injEq] at H
         obtain ⟨rfl, rfl, rfl, rfl⟩ := H
         have hnb66 := NB236_237.out
         have hnc66 := NB237_236.out
         have hnb67 := NB236_238.out
         have hnc67 := NB238_236.out
         have hcz68_0 := cz BK236 0 (.int .i64 a0_0)
         have hcz68_1 := cz BK236 1 (.int .i64 a0_1)
         have hcz68_2 := cz BK236 2 (.int .i64 a0_2)
         have hcz68_3 := cz BK236 3 (.int .i64 a0_3)
         have hcz68_4 := cz BK236 4 (.int .i64 a0_4)
         have hcz68_5 := cz BK236 5 (.int .i64 a0_5)
         have hcz68_6 := cz BK236 6 (.int .i64 a0_6)
         have hfz68_0 := fz BK236 0
         have hfz68_1 := fz BK236 1
         have hfz68_2 := fz BK236 2
         have hfz68_3 := fz BK236 3
         have hfz68_4 := fz BK236 4
         have hfz68_5 := fz BK236 5
         have hfz68_6 := fz BK236 6
         have hnb69 := NB237_238.out
         have hnc69 := NB238_237.out
         have hcz70_0 := cz BK237 0 (.int .i64 x238000_2)
         have hcz70_1 := cz BK237 1 (.int .i64 x238001_2)
         have hcz70_2 := cz BK237 2 (u238002)
         have hfz70_0 := fz BK237 0
         have hfz70_1 := fz BK237 1
         have hfz70_2 := fz BK237 2
         obtain ⟨Ao71, co71, eo71⟩ := Kd.R_slice HO_238002.out
         subst eo71
         go_wp2_with (first | ((with_reducible refine gate_callee (f := 10) rfl ?_); refine goesL_ (some 36) rfl rfl Try.func10 (by kernel_rfl) rfl #[.agg #[.int .i64 a0_0, .int .i64 a0_1, .int .i64 a0_2, .int .i64 a0_3, .int .i64 a0_4, .int .i64 a0_5, .int .i64 a0_6], .agg #[.int .i64 x238000_2, .int .i64 x238001_2, .slice Ao71 x238002_2.length co71]] rfl aE ?_; (with_reducible refine (spec_StepCloud.calls k2 a0_0 a0_1 a0_2 a0_3 a0_4 a0_5 a0_6 x238000_2 x238001_2 _ _ x238002_2 t248 t249 t250 false _ ?side1 ?side2 A47.out).mono ?_); (case side1 => exact cU (Kd.R_reads' HO_238002.out).2.2); (case side2 => exact (Kd.R_reads' HO_238002.out).2.1); rintro e w72 ⟨v251, rfl, ho0, hb⟩; refine ⟨_, rfl, ?_⟩; have HO252 := Aside0.mk (Kd.R_lower (Kd.R_new' ho0 (Kd.R_lt (rU HO_238002.out))) (below_size (lV3 GE236 GE237 GE238))); replace HO_238002 := Aside0.mk (Kd.R_elder' (rU HO_238002.out) (Kd.R_base ho0) hb); replace BK236 := bB (bV BK236) hb; replace BK237 := bB (bV BK237) hb; replace BK238 := bB (bV BK238) hb; replace HB := bH (lV3 GE236 GE237 GE238) hb; (try clear hb); (try clear ho0)) | ((with_reducible refine gate_dst (N := 8) rfl ?_); refine box_event rfl (N := 8) rfl (cs := #[.int .i64 0, .int .i64 0, .slice none 0 0]) (t := 35) sE ?_; intro gb254 hg w73 hbox hb; replace HO_238002 := Aside0.mk (Kd.R_below (rU HO_238002.out) hb); replace HO252 := Aside0.mk (Kd.R_below (rU HO252.out) hb); have BK254 := Aside0.mk hbox; have GW254 := gS w hg (lV3 GE236 GE237 GE238); have GE254 := GW254; replace HB := bH (lV3 GE236 GE237 GE238) hb; have NB236_254 := nL hg (bV BK236); have NB254_236 := nG hg (bV BK236); replace BK236 := bB (bV BK236) hb; have NB237_254 := nL hg (bV BK237); have NB254_237 := nG hg (bV BK237); replace BK237 := bB (bV BK237) hb; have NB238_254 := nL hg (bV BK238); have NB254_238 := nG hg (bV BK238); replace BK238 := bB (bV BK238) hb; clear hb hbox hg; have hnb74 := NB254_236.out; have hnc74 := NB236_254.out; have hnb75 := NB254_237.out; have hnc75 := NB237_254.out; have hnb76 := NB254_238.out; have hnc76 := NB238_254.out; have hcz77_0 := cz BK254 0 (.int .i64 0); have hcz77_1 := cz BK254 1 (.int .i64 0); have hcz77_2 := cz BK254 2 (.slice none 0 0); have hfz77_0 := fz BK254 0; have hfz77_1 := fz BK254 1; have hfz77_2 := fz BK254 2; obtain ⟨Ao78, co78, eo78⟩ := Kd.R_slice HO252.out; subst eo78) | ((with_reducible refine gate_store (t := 35) (p := 8) rfl ?_); refine store_event (t := 35) (p := 8) (v := ?vo_w79) (w1 := (((w73.setCell ⟨gb254, 0, none⟩ (.int .i64 t248)).setCell ⟨gb254, 1, none⟩ (.int .i64 t249)).setCell ⟨gb254, 2, none⟩ (.slice Ao78 t250.length co78))) ?hg ?ho ?hn ?hr ?_; (case ho => rfl); (case hg => rfl); (case hn => rfl); (case hr => first | (go_simp; done) | (go_simp; rfl) | (have hq0_ := (blk_cell BK254.out 0).trans (show _ = some _ from rfl); have hf0_ := blk_frozen BK254.out 0; have hq1_ := (blk_cell BK254.out 1).trans (show _ = some _ from rfl); have hf1_ := blk_frozen BK254.out 1; have hq2_ := (blk_cell BK254.out 2).trans (show _ = some _ from rfl); have hf2_ := blk_frozen BK254.out 2; first | (go_simp; done) | (go_simp; rfl))); intro w79 hw; replace HO_238002 : Aside0 (Kd.R k48 48 w79 w.heap.size (fun k_ => some k_ ≠ (.slice Ao78 t250.length co78 : Value).ownBlock) (.slice Ao71 x238002_2.length co71) x238002_2) := ⟨(by rw [hw]; exact (by (with_reducible repeat (first | apply Kd.R_alloc | apply Kd.R_drewN | apply Kd.R_drew)); exact Kd.R_mono (Kd.R_far (p := ⟨gb254, 2, none⟩) (Kd.R_far (p := ⟨gb254, 1, none⟩) (Kd.R_far (p := ⟨gb254, 0, none⟩) (Kd.R_types HO_238002.out BK254.out (by decide)) (fun _ hk => hk.2) (.int .i64 t248)) (fun _ hk => hk.2) (.int .i64 t249)) (fun _ hk => hk.2) (.slice Ao78 t250.length co78)) (fun _ hk => hk.1.2)))⟩; replace HO252 : Aside0 (Kd.R k48 48 w79 w.heap.size (fun k_ => some k_ ≠ (.slice Ao71 x238002_2.length co71 : Value).ownBlock) (.slice Ao78 t250.length co78) t250) := ⟨(by rw [hw]; exact (by (with_reducible repeat (first | apply Kd.R_alloc | apply Kd.R_drewN | apply Kd.R_drew)); exact Kd.R_mono (Kd.R_far (p := ⟨gb254, 2, none⟩) (Kd.R_far (p := ⟨gb254, 1, none⟩) (Kd.R_far (p := ⟨gb254, 0, none⟩) (Kd.R_types HO252.out BK254.out (by decide)) (fun _ hk => hk.2) (.int .i64 t248)) (fun _ hk => hk.2) (.int .i64 t249)) (fun _ hk => hk.2) (.slice Ao78 t250.length co78)) (fun _ hk => hk.1.2)))⟩; replace BK236 : Aside0 (w79.heap[gb236]? = some (.cells #[.int .i64 a0_0, .int .i64 a0_1, .int .i64 a0_2, .int .i64 a0_3, .int .i64 a0_4, .int .i64 a0_5, .int .i64 a0_6] 26 (0, 0))) := ⟨(by rw [hw]; exact (bG NB236_254 BK236))⟩; replace BK237 : Aside0 (w79.heap[gb237]? = some (.cells #[.int .i64 x238000_2, .int .i64 x238001_2, .slice Ao71 x238002_2.length co71] 35 (0, 0))) := ⟨(by rw [hw]; exact (bG NB237_254 BK237))⟩; replace BK238 : Aside0 (w79.heap[gb238]? = some (.cells #[.int .i64 x239000_2, .int .i64 x239001_2, .slice none 0 0] 35 (0, 0))) := ⟨(by rw [hw]; exact (bG NB238_254 BK238))⟩; replace BK254 : Aside0 (w79.heap[gb254]? = some (.cells #[.int .i64 t248, .int .i64 t249, .slice Ao78 t250.length co78] 35 (0, 0))) := ⟨(by rw [hw]; exact (by refine bU ?_; refine blk_put (cs := #[.int .i64 t248, .int .i64 t249, .slice none 0 0]) ?_ 2 _ rfl; refine bU ?_; refine blk_put (cs := #[.int .i64 t248, .int .i64 0, .slice none 0 0]) ?_ 1 _ rfl; refine bU ?_; refine blk_put (cs := #[.int .i64 0, .int .i64 0, .slice none 0 0]) ?_ 0 _ rfl; refine bU ?_; exact BK254.out))⟩; replace HB : Aside0 (Below w.heap.size w w79) := ⟨(by rw [hw]; exact (lV4 GE236 GE237 GE238 GE254))⟩; clear hw; have hcz80_0 := cz BK238 0 (.int .i64 x239000_2); have hcz80_1 := cz BK238 1 (.int .i64 x239001_2); have hcz80_2 := cz BK238 2 (.slice none 0 0); have hfz80_0 := fz BK238 0; have hfz80_1 := fz BK238 1; have hfz80_2 := fz BK238 2) | ((with_reducible refine gate_store (t := 35) (p := 6) rfl ?_); refine store_event (t := 35) (p := 6) (v := ?vo_w81) (w1 := (((w79.setCell ⟨gb238, 0, none⟩ (.int .i64 0)).setCell ⟨gb238, 1, none⟩ (.int .i64 0)).setCell ⟨gb238, 2, none⟩ (.slice none 0 0))) ?hg ?ho ?hn ?hr ?_; (case ho => rfl); (case hg => rfl); (case hn => rfl); (case hr => first | (go_simp; done) | (go_simp; rfl) | (have hq0_ := (blk_cell BK238.out 0).trans (show _ = some _ from rfl); have hf0_ := blk_frozen BK238.out 0; have hq1_ := (blk_cell BK238.out 1).trans (show _ = some _ from rfl); have hf1_ := blk_frozen BK238.out 1; have hq2_ := (blk_cell BK238.out 2).trans (show _ = some _ from rfl); have hf2_ := blk_frozen BK238.out 2; first | (go_simp; done) | (go_simp; rfl))); intro w81 hw; replace HO_238002 : Aside0 (Kd.R k48 48 w81 w.heap.size (fun k_ => some k_ ≠ (.slice Ao78 t250.length co78 : Value).ownBlock) (.slice Ao71 x238002_2.length co71) x238002_2) := ⟨(by rw [hw]; exact (by (with_reducible repeat (first | apply Kd.R_alloc | apply Kd.R_drewN | apply Kd.R_drew)); exact Kd.R_mono (Kd.R_far (p := ⟨gb238, 2, none⟩) (Kd.R_far (p := ⟨gb238, 1, none⟩) (Kd.R_far (p := ⟨gb238, 0, none⟩) (Kd.R_types HO_238002.out BK238.out (by decide)) (fun _ hk => hk.2) (.int .i64 0)) (fun _ hk => hk.2) (.int .i64 0)) (fun _ hk => hk.2) (.slice none 0 0)) (fun _ hk => hk.1)))⟩; replace HO252 : Aside0 (Kd.R k48 48 w81 w.heap.size (fun k_ => some k_ ≠ (.slice Ao71 x238002_2.length co71 : Value).ownBlock) (.slice Ao78 t250.length co78) t250) := ⟨(by rw [hw]; exact (by (with_reducible repeat (first | apply Kd.R_alloc | apply Kd.R_drewN | apply Kd.R_drew)); exact Kd.R_mono (Kd.R_far (p := ⟨gb238, 2, none⟩) (Kd.R_far (p := ⟨gb238, 1, none⟩) (Kd.R_far (p := ⟨gb238, 0, none⟩) (Kd.R_types HO252.out BK238.out (by decide)) (fun _ hk => hk.2) (.int .i64 0)) (fun _ hk => hk.2) (.int .i64 0)) (fun _ hk => hk.2) (.slice none 0 0)) (fun _ hk => hk.1)))⟩; replace BK236 : Aside0 (w81.heap[gb236]? = some (.cells #[.int .i64 a0_0, .int .i64 a0_1, .int .i64 a0_2, .int .i64 a0_3, .int .i64 a0_4, .int .i64 a0_5, .int .i64 a0_6] 26 (0, 0))) := ⟨(by rw [hw]; exact (bG NB236_238 BK236))⟩; replace BK237 : Aside0 (w81.heap[gb237]? = some (.cells #[.int .i64 x238000_2, .int .i64 x238001_2, .slice Ao71 x238002_2.length co71] 35 (0, 0))) := ⟨(by rw [hw]; exact (bG NB237_238 BK237))⟩; replace BK238 : Aside0 (w81.heap[gb238]? = some (.cells #[.int .i64 0, .int .i64 0, .slice none 0 0] 35 (0, 0))) := ⟨(by rw [hw]; exact (by refine bU ?_; refine blk_put (cs := #[.int .i64 0, .int .i64 0, .slice none 0 0]) ?_ 2 _ rfl; refine bU ?_; refine blk_put (cs := #[.int .i64 0, .int .i64 x239001_2, .slice none 0 0]) ?_ 1 _ rfl; refine bU ?_; refine blk_put (cs := #[.int .i64 x239000_2, .int .i64 x239001_2, .slice none 0 0]) ?_ 0 _ rfl; refine bU ?_; exact BK238.out))⟩; replace BK254 : Aside0 (w81.heap[gb254]? = some (.cells #[.int .i64 t248, .int .i64 t249, .slice Ao78 t250.length co78] 35 (0, 0))) := ⟨(by rw [hw]; exact (bG NB254_238 BK254))⟩; replace HB : Aside0 (Below w.heap.size w w81) := ⟨(by rw [hw]; exact (lV4 GE236 GE237 GE238 GE254))⟩; clear hw))
         refine bodyPost_ret (results_ct rfl _ _ gb238 35 #[.int .i64 0, .int .i64 0, .slice none 0 0] (0, 0) _ rfl (bV BK238) Try.underlying35 rfl (by kernel_rfl)) rfl ?_
         exact ⟨_, eE, by first | exact Kd.R_nil _ _ _ _ _ | exact Kd.N_nil _ _ _ _ _ | exact Kd.V_nil _ _ _ _ _ | exact Kd.Q_nil _ _ _ _ _ | exact Kd.S_nil _ _ _ _ _, lV4 GE236 GE237 GE238 GE254⟩
       ·rw [if_neg c46] at H
        have c46b0 : decide (0 < x2_2) = false := decide_eq_false c46
        clear c46
        simp only [Option.some.injEq, Prod.mk.injEq] at H
        obtain ⟨rfl, rfl, rfl, rfl⟩ := H
        have hnb82 := NB237_236.out
        have hnc82 := NB236_237.out
        have hnb83 := NB237_238.out
        have hnc83 := NB238_237.out
        have hcz84_0 := cz BK237 0 (.int .i64 x238000_2)
        have hcz84_1 := cz BK237 1 (.int .i64 x238001_2)
        have hcz84_2 := cz BK237 2 (u238002)
        have hfz84_0 := fz BK237 0
        have hfz84_1 := fz BK237 1
        have hfz84_2 := fz BK237 2
        have hnb85 := NB238_236.out
        have hnc85 := NB236_238.out
        have hcz86_0 := cz BK238 0 (.int .i64 x239000_2)
        have hcz86_1 := cz BK238 1 (.int .i64 x239001_2)
        have hcz86_2 := cz BK238 2 (.slice none 0 0)
        have hfz86_0 := fz BK238 0
        have hfz86_1 := fz BK238 1
        have hfz86_2 := fz BK238 2
        obtain ⟨Ao87, co87, eo87⟩ := Kd.R_slice HO_238002.out
        subst eo87
        go_wp2_with (first | ((with_reducible refine gate_store (t := 35) (p := 6) rfl ?_); refine store_event (t := 35) (p := 6) (v := ?vo_w88) (w1 := (((wr.setCell ⟨gb238, 0, none⟩ (.int .i64 x238000_2)).setCell ⟨gb238, 1, none⟩ (.int .i64 x238001_2)).setCell ⟨gb238, 2, none⟩ (.slice Ao87 x238002_2.length co87))) ?hg ?ho ?hn ?hr ?_; (case ho => rfl); (case hg => rfl); (case hn => rfl); (case hr => first | (go_simp; done) | (go_simp; rfl) | (have hq0_ := (blk_cell BK238.out 0).trans (show _ = some _ from rfl); have hf0_ := blk_frozen BK238.out 0; have hq1_ := (blk_cell BK238.out 1).trans (show _ = some _ from rfl); have hf1_ := blk_frozen BK238.out 1; have hq2_ := (blk_cell BK238.out 2).trans (show _ = some _ from rfl); have hf2_ := blk_frozen BK238.out 2; first | (go_simp; done) | (go_simp; rfl))); intro w88 hw; replace HO_238002 : Aside0 (Kd.R k48 48 w88 w.heap.size (fun _ => True) (.slice Ao87 x238002_2.length co87) x238002_2) := ⟨(by rw [hw]; exact (by (with_reducible repeat (first | apply Kd.R_alloc | apply Kd.R_drewN | apply Kd.R_drew)); exact Kd.R_mono (Kd.R_far (p := ⟨gb238, 2, none⟩) (Kd.R_far (p := ⟨gb238, 1, none⟩) (Kd.R_far (p := ⟨gb238, 0, none⟩) (Kd.R_types HO_238002.out BK238.out (by decide)) (fun _ hk => hk.2) (.int .i64 x238000_2)) (fun _ hk => hk.2) (.int .i64 x238001_2)) (fun _ hk => hk.2) (.slice Ao87 x238002_2.length co87)) (fun _ hk => trivial)))⟩; replace BK236 : Aside0 (w88.heap[gb236]? = some (.cells #[.int .i64 a0_0, .int .i64 a0_1, .int .i64 a0_2, .int .i64 a0_3, .int .i64 a0_4, .int .i64 a0_5, .int .i64 a0_6] 26 (0, 0))) := ⟨(by rw [hw]; exact (bG NB236_238 BK236))⟩; replace BK237 : Aside0 (w88.heap[gb237]? = some (.cells #[.int .i64 x238000_2, .int .i64 x238001_2, .slice Ao87 x238002_2.length co87] 35 (0, 0))) := ⟨(by rw [hw]; exact (bG NB237_238 BK237))⟩; replace BK238 : Aside0 (w88.heap[gb238]? = some (.cells #[.int .i64 x238000_2, .int .i64 x238001_2, .slice Ao87 x238002_2.length co87] 35 (0, 0))) := ⟨(by rw [hw]; exact (by refine bU ?_; refine blk_put (cs := #[.int .i64 x238000_2, .int .i64 x238001_2, .slice none 0 0]) ?_ 2 _ rfl; refine bU ?_; refine blk_put (cs := #[.int .i64 x238000_2, .int .i64 x239001_2, .slice none 0 0]) ?_ 1 _ rfl; refine bU ?_; refine blk_put (cs := #[.int .i64 x239000_2, .int .i64 x239001_2, .slice none 0 0]) ?_ 0 _ rfl; refine bU ?_; exact BK238.out))⟩; replace HB : Aside0 (Below w.heap.size w w88) := ⟨(by rw [hw]; exact (lV3 GE236 GE237 GE238))⟩; clear hw))
        refine bodyPost_ret (results_ct rfl _ _ gb238 35 #[.int .i64 x238000_2, .int .i64 x238001_2, .slice Ao87 x238002_2.length co87] (0, 0) _ rfl (bV BK238) Try.underlying35 rfl (by kernel_rfl)) rfl ?_
        exact ⟨_, eE, by (with_reducible repeat (first | apply Kd.R_alloc | apply Kd.R_drewN | apply Kd.R_drew)); exact HO_238002.out, lV3 GE236 GE237 GE238⟩
    ·rw [if_neg c36] at H
     exact absurd H (by simp)
def impl_inRange.f (a0 : Int) (a1 : Int) (a2 : Int) : Option (Bool) := if a1 ≤ a0 then (some (decide (a0 ≤ a2))) else (some false)
set_option maxHeartbeats 8000000 in
set_option maxRecDepth 100000 in
theorem impl_inRange.calls (a0 : Int) (a1 : Int) (a2 : Int) (r : Bool) (w : World) (h : impl_inRange.f a0 a1 a2 = some r) :
  Calls Try.prog 32 #[.int .i64 a0, .int .i64 a1, .int .i64 a2] w fun e w' => e = .returned (.bool r) ∧ Drawn0 w w' := by
 have H : (if a1 ≤ a0 then (some (decide (a0 ≤ a2))) else (some false)) = some r := h
 clear h
 by_cases c4 : a1 ≤ a0
 ·rw [if_pos c4] at H
  have c4b0 : decide (a1 ≤ a0) = true := decide_eq_true c4
  clear c4
  obtain rfl := Option.some.inj H
  go_enter Try.func32, Try.ntmps32
  go_wp2
  go_ret
  exact ⟨by first | rfl | (simp; done) | (simp [*]; done) | exact not_isEmpty _ | exact (not_isEmpty _).symm | exact is_empty _ | exact (is_empty _).symm, by repeat (first | exact Drawn0.refl _ | apply Drawn0.step)⟩
 ·rw [if_neg c4] at H
  have c4b0 : decide (a1 ≤ a0) = false := decide_eq_false c4
  clear c4
  obtain rfl := Option.some.inj H
  go_enter Try.func32, Try.ntmps32
  go_wp2
  go_ret
  exact ⟨by first | rfl | (simp; done) | (simp [*]; done) | exact not_isEmpty _ | exact (not_isEmpty _).symm | exact is_empty _ | exact (is_empty _).symm, by repeat (first | exact Drawn0.refl _ | apply Drawn0.step)⟩
def impl_isFar.f (a0 : Int) : Option (Bool) := (impl_inRange.f a0 (-1000000) 1000000).bind fun t255 => (some t255)
set_option maxHeartbeats 8000000 in
set_option maxRecDepth 100000 in
theorem impl_isFar.calls (a0 : Int) (r : Bool) (w : World) (h : impl_isFar.f a0 = some r) :
  Calls Try.prog 44 #[.int .i64 a0] w fun e w' => e = .returned (.bool r) ∧ Drawn0 w w' := by
 have H : ((impl_inRange.f a0 (-1000000) 1000000).bind fun t255 => (some t255)) = some r := h
 clear h
 replace H := Option.bind_eq_some_iff.mp H
 obtain ⟨t255, A20, H⟩ := H
 replace H : (some t255) = some r := H
 have A2 := Aside0.mk A20
 clear A20
 obtain rfl := Option.some.inj H
 go_enter Try.func44, Try.ntmps44
 go_wp2_with (first | ((with_reducible refine gate_callee (f := 32) rfl ?_); refine goesL_ (some 4) rfl rfl Try.func32 (by kernel_rfl) rfl #[.int .i64 a0, .int .i64 (-1000000), .int .i64 1000000] rfl aE ?_; (with_reducible refine (impl_inRange.calls a0 (-1000000) 1000000 t255 _ A2.out).mono ?_); rintro e w' ⟨rfl, ⟨nd, rfl⟩⟩; refine ⟨_, rfl, ?_⟩))
 go_ret
 exact ⟨by first | rfl | (simp; done) | (simp [*]; done) | exact not_isEmpty _ | exact (not_isEmpty _).symm | exact is_empty _ | exact (is_empty _).symm, by repeat (first | exact Drawn0.refl _ | apply Drawn0.step)⟩
def impl_GoodEmitter.f (a0_0 : Int) (a0_1 : Int) (a0_2 : Int) (a0_3 : Int) (a0_4 : Int) (a0_5 : Int) (a0_6 : Int) : Option (Bool) := (impl_isFar.f a0_0).bind fun t257 => (if t257 = true then ((impl_isFar.f a0_1).bind fun t258 => (if t258 = true then ((impl_isFar.f a0_6).bind fun t259 => (if t259 = true then ((impl_inRange.f a0_2 1 200).bind fun t260 => (if t260 = true then ((impl_inRange.f a0_3 0 20).bind fun t261 => (if t261 = true then ((impl_inRange.f a0_4 1 200).bind fun t262 => (if t262 = true then ((impl_inRange.f a0_5 0 1000000).bind fun t263 => (some t263)) else (some false))) else (some false))) else (some false))) else (some false))) else (some false))) else (some false))
set_option maxHeartbeats 8000000 in
set_option maxRecDepth 100000 in
theorem impl_GoodEmitter.calls (a0_0 : Int) (a0_1 : Int) (a0_2 : Int) (a0_3 : Int) (a0_4 : Int) (a0_5 : Int) (a0_6 : Int) (r : Bool) (w : World) (h : impl_GoodEmitter.f a0_0 a0_1 a0_2 a0_3 a0_4 a0_5 a0_6 = some r) :
  Calls Try.prog 30 #[.agg #[.int .i64 a0_0, .int .i64 a0_1, .int .i64 a0_2, .int .i64 a0_3, .int .i64 a0_4, .int .i64 a0_5, .int .i64 a0_6]] w fun e w' => e = .returned (.bool r) ∧ Below w.heap.size w w' := by
 have hu26 := Try.underlying26
 have HB := Aside0.mk (Below.refl w.heap.size w)
 have H : ((impl_isFar.f a0_0).bind fun t257 => (if t257 = true then ((impl_isFar.f a0_1).bind fun t258 => (if t258 = true then ((impl_isFar.f a0_6).bind fun t259 => (if t259 = true then ((impl_inRange.f a0_2 1 200).bind fun t260 => (if t260 = true then ((impl_inRange.f a0_3 0 20).bind fun t261 => (if t261 = true then ((impl_inRange.f a0_4 1 200).bind fun t262 => (if t262 = true then ((impl_inRange.f a0_5 0 1000000).bind fun t263 => (some t263)) else (some false))) else (some false))) else (some false))) else (some false))) else (some false))) else (some false))) = some r := h
 clear h
 replace H := Option.bind_eq_some_iff.mp H
 obtain ⟨t257, A20, H⟩ := H
 replace H : (if t257 = true then ((impl_isFar.f a0_1).bind fun t258 => (if t258 = true then ((impl_isFar.f a0_6).bind fun t259 => (if t259 = true then ((impl_inRange.f a0_2 1 200).bind fun t260 => (if t260 = true then ((impl_inRange.f a0_3 0 20).bind fun t261 => (if t261 = true then ((impl_inRange.f a0_4 1 200).bind fun t262 => (if t262 = true then ((impl_inRange.f a0_5 0 1000000).bind fun t263 => (some t263)) else (some false))) else (some false))) else (some false))) else (some false))) else (some false))) else (some false)) = some r := H
 have A2 := Aside0.mk A20
 clear A20
 by_cases c3 : t257 = true
 ·subst c3
  have H1 : ((impl_isFar.f a0_1).bind fun t258 => (if t258 = true then ((impl_isFar.f a0_6).bind fun t259 => (if t259 = true then ((impl_inRange.f a0_2 1 200).bind fun t260 => (if t260 = true then ((impl_inRange.f a0_3 0 20).bind fun t261 => (if t261 = true then ((impl_inRange.f a0_4 1 200).bind fun t262 => (if t262 = true then ((impl_inRange.f a0_5 0 1000000).bind fun t263 => (some t263)) else (some false))) else (some false))) else (some false))) else (some false))) else (some false))) = some r := by rw [if_pos rfl] at H; exact H
  clear H
  have H := H1
  clear H1
  replace H := Option.bind_eq_some_iff.mp H
  obtain ⟨t258, A40, H⟩ := H
  replace H : (if t258 = true then ((impl_isFar.f a0_6).bind fun t259 => (if t259 = true then ((impl_inRange.f a0_2 1 200).bind fun t260 => (if t260 = true then ((impl_inRange.f a0_3 0 20).bind fun t261 => (if t261 = true then ((impl_inRange.f a0_4 1 200).bind fun t262 => (if t262 = true then ((impl_inRange.f a0_5 0 1000000).bind fun t263 => (some t263)) else (some false))) else (some false))) else (some false))) else (some false))) else (some false)) = some r := H
  have A4 := Aside0.mk A40
  clear A40
  by_cases c5 : t258 = true
  ·subst c5
   have H1 : ((impl_isFar.f a0_6).bind fun t259 => (if t259 = true then ((impl_inRange.f a0_2 1 200).bind fun t260 => (if t260 = true then ((impl_inRange.f a0_3 0 20).bind fun t261 => (if t261 = true then ((impl_inRange.f a0_4 1 200).bind fun t262 => (if t262 = true then ((impl_inRange.f a0_5 0 1000000).bind fun t263 => (some t263)) else (some false))) else (some false))) else (some false))) else (some false))) = some r := by rw [if_pos rfl] at H; exact H
   clear H
   have H := H1
   clear H1
   replace H := Option.bind_eq_some_iff.mp H
   obtain ⟨t259, A60, H⟩ := H
   replace H : (if t259 = true then ((impl_inRange.f a0_2 1 200).bind fun t260 => (if t260 = true then ((impl_inRange.f a0_3 0 20).bind fun t261 => (if t261 = true then ((impl_inRange.f a0_4 1 200).bind fun t262 => (if t262 = true then ((impl_inRange.f a0_5 0 1000000).bind fun t263 => (some t263)) else (some false))) else (some false))) else (some false))) else (some false)) = some r := H
   have A6 := Aside0.mk A60
   clear A60
   by_cases c7 : t259 = true
   ·subst c7
    have H1 : ((impl_inRange.f a0_2 1 200).bind fun t260 => (if t260 = true then ((impl_inRange.f a0_3 0 20).bind fun t261 => (if t261 = true then ((impl_inRange.f a0_4 1 200).bind fun t262 => (if t262 = true then ((impl_inRange.f a0_5 0 1000000).bind fun t263 => (some t263)) else (some false))) else (some false))) else (some false))) = some r := by rw [if_pos rfl] at H; exact H
    clear H
    have H := H1
    clear H1
    replace H := Option.bind_eq_some_iff.mp H
    obtain ⟨t260, A80, H⟩ := H
    replace H : (if t260 = true then ((impl_inRange.f a0_3 0 20).bind fun t261 => (if t261 = true then ((impl_inRange.f a0_4 1 200).bind fun t262 => (if t262 = true then ((impl_inRange.f a0_5 0 1000000).bind fun t263 => (some t263)) else (some false))) else (some false))) else (some false)) = some r := H
    have A8 := Aside0.mk A80
    clear A80
    by_cases c9 : t260 = true
    ·subst c9
     have H1 : ((impl_inRange.f a0_3 0 20).bind fun t261 => (if t261 = true then ((impl_inRange.f a0_4 1 200).bind fun t262 => (if t262 = true then ((impl_inRange.f a0_5 0 1000000).bind fun t263 => (some t263)) else (some false))) else (some false))) = some r := by rw [if_pos rfl] at H; exact H
     clear H
     have H := H1
     clear H1
     replace H := Option.bind_eq_some_iff.mp H
     obtain ⟨t261, A100, H⟩ := H
     replace H : (if t261 = true then ((impl_inRange.f a0_4 1 200).bind fun t262 => (if t262 = true then ((impl_inRange.f a0_5 0 1000000).bind fun t263 => (some t263)) else (some false))) else (some false)) = some r := H
     have A10 := Aside0.mk A100
     clear A100
     by_cases c11 : t261 = true
     ·subst c11
      have H1 : ((impl_inRange.f a0_4 1 200).bind fun t262 => (if t262 = true then ((impl_inRange.f a0_5 0 1000000).bind fun t263 => (some t263)) else (some false))) = some r := by rw [if_pos rfl] at H; exact H
      clear H
      have H := H1
      clear H1
      replace H := Option.bind_eq_some_iff.mp H
      obtain ⟨t262, A120, H⟩ := H
      replace H : (if t262 = true then ((impl_inRange.f a0_5 0 1000000).bind fun t263 => (some t263)) else (some false)) = some r := H
      have A12 := Aside0.mk A120
      clear A120
      by_cases c13 : t262 = true
      ·subst c13
       have H1 : ((impl_inRange.f a0_5 0 1000000).bind fun t263 => (some t263)) = some r := by rw [if_pos rfl] at H; exact H
       clear H
       have H := H1
       clear H1
       replace H := Option.bind_eq_some_iff.mp H
       obtain ⟨t263, A140, H⟩ := H
       replace H : (some t263) = some r := H
       have A14 := Aside0.mk A140
       clear A140
       obtain rfl := Option.some.inj H
       go_enter Try.func30, Try.ntmps30
       go_wp2_with (first | ((with_reducible refine gate_dst (N := 1) rfl ?_); refine box_event rfl (N := 1) rfl (cs := #[.int .i64 a0_0, .int .i64 a0_1, .int .i64 a0_2, .int .i64 a0_3, .int .i64 a0_4, .int .i64 a0_5, .int .i64 a0_6]) (t := 26) sE ?_; intro gb256 hg w15 hbox hb; have BK256 := Aside0.mk hbox; have GW256 := gS w hg (lU); have GE256 := GW256; replace HB := bH (lU) hb; clear hb hbox hg; have hcz16_0 := cz BK256 0 (.int .i64 a0_0); have hcz16_1 := cz BK256 1 (.int .i64 a0_1); have hcz16_2 := cz BK256 2 (.int .i64 a0_2); have hcz16_3 := cz BK256 3 (.int .i64 a0_3); have hcz16_4 := cz BK256 4 (.int .i64 a0_4); have hcz16_5 := cz BK256 5 (.int .i64 a0_5); have hcz16_6 := cz BK256 6 (.int .i64 a0_6); have hfz16_0 := fz BK256 0; have hfz16_1 := fz BK256 1; have hfz16_2 := fz BK256 2; have hfz16_3 := fz BK256 3; have hfz16_4 := fz BK256 4; have hfz16_5 := fz BK256 5; have hfz16_6 := fz BK256 6) | ((with_reducible refine gate_callee (f := 44) rfl ?_); refine goesL_ (some 5) rfl rfl Try.func44 (by kernel_rfl) rfl #[.int .i64 a0_0] rfl aE ?_; (with_reducible refine (impl_isFar.calls a0_0 true _ A2.out).mono ?_); rintro e w' ⟨rfl, ⟨nd, rfl⟩⟩; refine ⟨_, rfl, ?_⟩) | (go_at_call 44; (with_reducible refine (impl_isFar.calls a0_1 true _ A4.out).mono ?_); rintro e w' ⟨rfl, ⟨nd, rfl⟩⟩) | (go_at_call 44; (with_reducible refine (impl_isFar.calls a0_6 true _ A6.out).mono ?_); rintro e w' ⟨rfl, ⟨nd, rfl⟩⟩) | (go_at_call 32; (with_reducible refine (impl_inRange.calls a0_2 1 200 true _ A8.out).mono ?_); rintro e w' ⟨rfl, ⟨nd, rfl⟩⟩) | (go_at_call 32; (with_reducible refine (impl_inRange.calls a0_3 0 20 true _ A10.out).mono ?_); rintro e w' ⟨rfl, ⟨nd, rfl⟩⟩) | (go_at_call 32; (with_reducible refine (impl_inRange.calls a0_4 1 200 true _ A12.out).mono ?_); rintro e w' ⟨rfl, ⟨nd, rfl⟩⟩) | (go_at_call 32; (with_reducible refine (impl_inRange.calls a0_5 0 1000000 t263 _ A14.out).mono ?_); rintro e w' ⟨rfl, ⟨nd, rfl⟩⟩))
       go_ret
       exact ⟨eE, lV1 GE256⟩
      ·replace c13 := Bool.eq_false_iff.mpr c13
       subst c13
       have H1 : (some false) = some r := by rw [if_neg (show ¬ (false = true) by decide)] at H; exact H
       clear H
       have H := H1
       clear H1
       obtain rfl := Option.some.inj H
       go_enter Try.func30, Try.ntmps30
       go_wp2_with (first | ((with_reducible refine gate_dst (N := 1) rfl ?_); refine box_event rfl (N := 1) rfl (cs := #[.int .i64 a0_0, .int .i64 a0_1, .int .i64 a0_2, .int .i64 a0_3, .int .i64 a0_4, .int .i64 a0_5, .int .i64 a0_6]) (t := 26) sE ?_; intro gb256 hg w17 hbox hb; have BK256 := Aside0.mk hbox; have GW256 := gS w hg (lU); have GE256 := GW256; replace HB := bH (lU) hb; clear hb hbox hg; have hcz18_0 := cz BK256 0 (.int .i64 a0_0); have hcz18_1 := cz BK256 1 (.int .i64 a0_1); have hcz18_2 := cz BK256 2 (.int .i64 a0_2); have hcz18_3 := cz BK256 3 (.int .i64 a0_3); have hcz18_4 := cz BK256 4 (.int .i64 a0_4); have hcz18_5 := cz BK256 5 (.int .i64 a0_5); have hcz18_6 := cz BK256 6 (.int .i64 a0_6); have hfz18_0 := fz BK256 0; have hfz18_1 := fz BK256 1; have hfz18_2 := fz BK256 2; have hfz18_3 := fz BK256 3; have hfz18_4 := fz BK256 4; have hfz18_5 := fz BK256 5; have hfz18_6 := fz BK256 6) | ((with_reducible refine gate_callee (f := 44) rfl ?_); refine goesL_ (some 5) rfl rfl Try.func44 (by kernel_rfl) rfl #[.int .i64 a0_0] rfl aE ?_; (with_reducible refine (impl_isFar.calls a0_0 true _ A2.out).mono ?_); rintro e w' ⟨rfl, ⟨nd, rfl⟩⟩; refine ⟨_, rfl, ?_⟩) | (go_at_call 44; (with_reducible refine (impl_isFar.calls a0_1 true _ A4.out).mono ?_); rintro e w' ⟨rfl, ⟨nd, rfl⟩⟩) | (go_at_call 44; (with_reducible refine (impl_isFar.calls a0_6 true _ A6.out).mono ?_); rintro e w' ⟨rfl, ⟨nd, rfl⟩⟩) | (go_at_call 32; (with_reducible refine (impl_inRange.calls a0_2 1 200 true _ A8.out).mono ?_); rintro e w' ⟨rfl, ⟨nd, rfl⟩⟩) | (go_at_call 32; (with_reducible refine (impl_inRange.calls a0_3 0 20 true _ A10.out).mono ?_); rintro e w' ⟨rfl, ⟨nd, rfl⟩⟩) | (go_at_call 32; (with_reducible refine (impl_inRange.calls a0_4 1 200 false _ A12.out).mono ?_); rintro e w' ⟨rfl, ⟨nd, rfl⟩⟩))
       go_ret
       exact ⟨eE, lV1 GE256⟩
     ·replace c11 := Bool.eq_false_iff.mpr c11
      subst c11
      have H1 : (some false) = some r := by rw [if_neg (show ¬ (false = true) by decide)] at H; exact H
      clear H
      have H := H1
      clear H1
      obtain rfl := Option.some.inj H
      go_enter Try.func30, Try.ntmps30
      go_wp2_with (first | ((with_reducible refine gate_dst (N := 1) rfl ?_); refine box_event rfl (N := 1) rfl (cs := #[.int .i64 a0_0, .int .i64 a0_1, .int .i64 a0_2, .int .i64 a0_3, .int .i64 a0_4, .int .i64 a0_5, .int .i64 a0_6]) (t := 26) sE ?_; intro gb256 hg w19 hbox hb; have BK256 := Aside0.mk hbox; have GW256 := gS w hg (lU); have GE256 := GW256; replace HB := bH (lU) hb; clear hb hbox hg; have hcz20_0 := cz BK256 0 (.int .i64 a0_0); have hcz20_1 := cz BK256 1 (.int .i64 a0_1); have hcz20_2 := cz BK256 2 (.int .i64 a0_2); have hcz20_3 := cz BK256 3 (.int .i64 a0_3); have hcz20_4 := cz BK256 4 (.int .i64 a0_4); have hcz20_5 := cz BK256 5 (.int .i64 a0_5); have hcz20_6 := cz BK256 6 (.int .i64 a0_6); have hfz20_0 := fz BK256 0; have hfz20_1 := fz BK256 1; have hfz20_2 := fz BK256 2; have hfz20_3 := fz BK256 3; have hfz20_4 := fz BK256 4; have hfz20_5 := fz BK256 5; have hfz20_6 := fz BK256 6) | ((with_reducible refine gate_callee (f := 44) rfl ?_); refine goesL_ (some 5) rfl rfl Try.func44 (by kernel_rfl) rfl #[.int .i64 a0_0] rfl aE ?_; (with_reducible refine (impl_isFar.calls a0_0 true _ A2.out).mono ?_); rintro e w' ⟨rfl, ⟨nd, rfl⟩⟩; refine ⟨_, rfl, ?_⟩) | (go_at_call 44; (with_reducible refine (impl_isFar.calls a0_1 true _ A4.out).mono ?_); rintro e w' ⟨rfl, ⟨nd, rfl⟩⟩) | (go_at_call 44; (with_reducible refine (impl_isFar.calls a0_6 true _ A6.out).mono ?_); rintro e w' ⟨rfl, ⟨nd, rfl⟩⟩) | (go_at_call 32; (with_reducible refine (impl_inRange.calls a0_2 1 200 true _ A8.out).mono ?_); rintro e w' ⟨rfl, ⟨nd, rfl⟩⟩) | (go_at_call 32; (with_reducible refine (impl_inRange.calls a0_3 0 20 false _ A10.out).mono ?_); rintro e w' ⟨rfl, ⟨nd, rfl⟩⟩))
      go_ret
      exact ⟨eE, lV1 GE256⟩
    ·replace c9 := Bool.eq_false_iff.mpr c9
     subst c9
     have H1 : (some false) = some r := by rw [if_neg (show ¬ (false = true) by decide)] at H; exact H
     clear H
     have H := H1
     clear H1
     obtain rfl := Option.some.inj H
     go_enter Try.func30, Try.ntmps30
     go_wp2_with (first | ((with_reducible refine gate_dst (N := 1) rfl ?_); refine box_event rfl (N := 1) rfl (cs := #[.int .i64 a0_0, .int .i64 a0_1, .int .i64 a0_2, .int .i64 a0_3, .int .i64 a0_4, .int .i64 a0_5, .int .i64 a0_6]) (t := 26) sE ?_; intro gb256 hg w21 hbox hb; have BK256 := Aside0.mk hbox; have GW256 := gS w hg (lU); have GE256 := GW256; replace HB := bH (lU) hb; clear hb hbox hg; have hcz22_0 := cz BK256 0 (.int .i64 a0_0); have hcz22_1 := cz BK256 1 (.int .i64 a0_1); have hcz22_2 := cz BK256 2 (.int .i64 a0_2); have hcz22_3 := cz BK256 3 (.int .i64 a0_3); have hcz22_4 := cz BK256 4 (.int .i64 a0_4); have hcz22_5 := cz BK256 5 (.int .i64 a0_5); have hcz22_6 := cz BK256 6 (.int .i64 a0_6); have hfz22_0 := fz BK256 0; have hfz22_1 := fz BK256 1; have hfz22_2 := fz BK256 2; have hfz22_3 := fz BK256 3; have hfz22_4 := fz BK256 4; have hfz22_5 := fz BK256 5; have hfz22_6 := fz BK256 6) | ((with_reducible refine gate_callee (f := 44) rfl ?_); refine goesL_ (some 5) rfl rfl Try.func44 (by kernel_rfl) rfl #[.int .i64 a0_0] rfl aE ?_; (with_reducible refine (impl_isFar.calls a0_0 true _ A2.out).mono ?_); rintro e w' ⟨rfl, ⟨nd, rfl⟩⟩; refine ⟨_, rfl, ?_⟩) | (go_at_call 44; (with_reducible refine (impl_isFar.calls a0_1 true _ A4.out).mono ?_); rintro e w' ⟨rfl, ⟨nd, rfl⟩⟩) | (go_at_call 44; (with_reducible refine (impl_isFar.calls a0_6 true _ A6.out).mono ?_); rintro e w' ⟨rfl, ⟨nd, rfl⟩⟩) | (go_at_call 32; (with_reducible refine (impl_inRange.calls a0_2 1 200 false _ A8.out).mono ?_); rintro e w' ⟨rfl, ⟨nd, rfl⟩⟩))
     go_ret
     exact ⟨eE, lV1 GE256⟩
   ·replace c7 := Bool.eq_false_iff.mpr c7
    subst c7
    have H1 : (some false) = some r := by rw [if_neg (show ¬ (false = true) by decide)] at H; exact H
    clear H
    have H := H1
    clear H1
    obtain rfl := Option.some.inj H
    go_enter Try.func30, Try.ntmps30
    go_wp2_with (first | ((with_reducible refine gate_dst (N := 1) rfl ?_); refine box_event rfl (N := 1) rfl (cs := #[.int .i64 a0_0, .int .i64 a0_1, .int .i64 a0_2, .int .i64 a0_3, .int .i64 a0_4, .int .i64 a0_5, .int .i64 a0_6]) (t := 26) sE ?_; intro gb256 hg w23 hbox hb; have BK256 := Aside0.mk hbox; have GW256 := gS w hg (lU); have GE256 := GW256; replace HB := bH (lU) hb; clear hb hbox hg; have hcz24_0 := cz BK256 0 (.int .i64 a0_0); have hcz24_1 := cz BK256 1 (.int .i64 a0_1); have hcz24_2 := cz BK256 2 (.int .i64 a0_2); have hcz24_3 := cz BK256 3 (.int .i64 a0_3); have hcz24_4 := cz BK256 4 (.int .i64 a0_4); have hcz24_5 := cz BK256 5 (.int .i64 a0_5); have hcz24_6 := cz BK256 6 (.int .i64 a0_6); have hfz24_0 := fz BK256 0; have hfz24_1 := fz BK256 1; have hfz24_2 := fz BK256 2; have hfz24_3 := fz BK256 3; have hfz24_4 := fz BK256 4; have hfz24_5 := fz BK256 5; have hfz24_6 := fz BK256 6) | ((with_reducible refine gate_callee (f := 44) rfl ?_); refine goesL_ (some 5) rfl rfl Try.func44 (by kernel_rfl) rfl #[.int .i64 a0_0] rfl aE ?_; (with_reducible refine (impl_isFar.calls a0_0 true _ A2.out).mono ?_); rintro e w' ⟨rfl, ⟨nd, rfl⟩⟩; refine ⟨_, rfl, ?_⟩) | (go_at_call 44; (with_reducible refine (impl_isFar.calls a0_1 true _ A4.out).mono ?_); rintro e w' ⟨rfl, ⟨nd, rfl⟩⟩) | (go_at_call 44; (with_reducible refine (impl_isFar.calls a0_6 false _ A6.out).mono ?_); rintro e w' ⟨rfl, ⟨nd, rfl⟩⟩))
    go_ret
    exact ⟨eE, lV1 GE256⟩
  ·replace c5 := Bool.eq_false_iff.mpr c5
   subst c5
   have H1 : (some false) = some r := by rw [if_neg (show ¬ (false = true) by decide)] at H; exact H
   clear H
   have H := H1
   clear H1
   obtain rfl := Option.some.inj H
   go_enter Try.func30, Try.ntmps30
   go_wp2_with (first | ((with_reducible refine gate_dst (N := 1) rfl ?_); refine box_event rfl (N := 1) rfl (cs := #[.int .i64 a0_0, .int .i64 a0_1, .int .i64 a0_2, .int .i64 a0_3, .int .i64 a0_4, .int .i64 a0_5, .int .i64 a0_6]) (t := 26) sE ?_; intro gb256 hg w25 hbox hb; have BK256 := Aside0.mk hbox; have GW256 := gS w hg (lU); have GE256 := GW256; replace HB := bH (lU) hb; clear hb hbox hg; have hcz26_0 := cz BK256 0 (.int .i64 a0_0); have hcz26_1 := cz BK256 1 (.int .i64 a0_1); have hcz26_2 := cz BK256 2 (.int .i64 a0_2); have hcz26_3 := cz BK256 3 (.int .i64 a0_3); have hcz26_4 := cz BK256 4 (.int .i64 a0_4); have hcz26_5 := cz BK256 5 (.int .i64 a0_5); have hcz26_6 := cz BK256 6 (.int .i64 a0_6); have hfz26_0 := fz BK256 0; have hfz26_1 := fz BK256 1; have hfz26_2 := fz BK256 2; have hfz26_3 := fz BK256 3; have hfz26_4 := fz BK256 4; have hfz26_5 := fz BK256 5; have hfz26_6 := fz BK256 6) | ((with_reducible refine gate_callee (f := 44) rfl ?_); refine goesL_ (some 5) rfl rfl Try.func44 (by kernel_rfl) rfl #[.int .i64 a0_0] rfl aE ?_; (with_reducible refine (impl_isFar.calls a0_0 true _ A2.out).mono ?_); rintro e w' ⟨rfl, ⟨nd, rfl⟩⟩; refine ⟨_, rfl, ?_⟩) | (go_at_call 44; (with_reducible refine (impl_isFar.calls a0_1 false _ A4.out).mono ?_); rintro e w' ⟨rfl, ⟨nd, rfl⟩⟩))
   go_ret
   exact ⟨eE, lV1 GE256⟩
 ·replace c3 := Bool.eq_false_iff.mpr c3
  subst c3
  have H1 : (some false) = some r := by rw [if_neg (show ¬ (false = true) by decide)] at H; exact H
  clear H
  have H := H1
  clear H1
  obtain rfl := Option.some.inj H
  go_enter Try.func30, Try.ntmps30
  go_wp2_with (first | ((with_reducible refine gate_dst (N := 1) rfl ?_); refine box_event rfl (N := 1) rfl (cs := #[.int .i64 a0_0, .int .i64 a0_1, .int .i64 a0_2, .int .i64 a0_3, .int .i64 a0_4, .int .i64 a0_5, .int .i64 a0_6]) (t := 26) sE ?_; intro gb256 hg w27 hbox hb; have BK256 := Aside0.mk hbox; have GW256 := gS w hg (lU); have GE256 := GW256; replace HB := bH (lU) hb; clear hb hbox hg; have hcz28_0 := cz BK256 0 (.int .i64 a0_0); have hcz28_1 := cz BK256 1 (.int .i64 a0_1); have hcz28_2 := cz BK256 2 (.int .i64 a0_2); have hcz28_3 := cz BK256 3 (.int .i64 a0_3); have hcz28_4 := cz BK256 4 (.int .i64 a0_4); have hcz28_5 := cz BK256 5 (.int .i64 a0_5); have hcz28_6 := cz BK256 6 (.int .i64 a0_6); have hfz28_0 := fz BK256 0; have hfz28_1 := fz BK256 1; have hfz28_2 := fz BK256 2; have hfz28_3 := fz BK256 3; have hfz28_4 := fz BK256 4; have hfz28_5 := fz BK256 5; have hfz28_6 := fz BK256 6) | ((with_reducible refine gate_callee (f := 44) rfl ?_); refine goesL_ (some 5) rfl rfl Try.func44 (by kernel_rfl) rfl #[.int .i64 a0_0] rfl aE ?_; (with_reducible refine (impl_isFar.calls a0_0 false _ A2.out).mono ?_); rintro e w' ⟨rfl, ⟨nd, rfl⟩⟩; refine ⟨_, rfl, ?_⟩))
  go_ret
  exact ⟨eE, lV1 GE256⟩
def impl_isSeed.f (a0 : Int) : Option (Bool) := (impl_inRange.f a0 0 2147483647).bind fun t264 => (some t264)
set_option maxHeartbeats 8000000 in
set_option maxRecDepth 100000 in
theorem impl_isSeed.calls (a0 : Int) (r : Bool) (w : World) (h : impl_isSeed.f a0 = some r) :
  Calls Try.prog 45 #[.int .i64 a0] w fun e w' => e = .returned (.bool r) ∧ Drawn0 w w' := by
 have H : ((impl_inRange.f a0 0 2147483647).bind fun t264 => (some t264)) = some r := h
 clear h
 replace H := Option.bind_eq_some_iff.mp H
 obtain ⟨t264, A20, H⟩ := H
 replace H : (some t264) = some r := H
 have A2 := Aside0.mk A20
 clear A20
 obtain rfl := Option.some.inj H
 go_enter Try.func45, Try.ntmps45
 go_wp2_with (first | ((with_reducible refine gate_callee (f := 32) rfl ?_); refine goesL_ (some 4) rfl rfl Try.func32 (by kernel_rfl) rfl #[.int .i64 a0, .int .i64 0, .int .i64 2147483647] rfl aE ?_; (with_reducible refine (impl_inRange.calls a0 0 2147483647 t264 _ A2.out).mono ?_); rintro e w' ⟨rfl, ⟨nd, rfl⟩⟩; refine ⟨_, rfl, ?_⟩))
 go_ret
 exact ⟨by first | rfl | (simp; done) | (simp [*]; done) | exact not_isEmpty _ | exact (not_isEmpty _).symm | exact is_empty _ | exact (is_empty _).symm, by repeat (first | exact Drawn0.refl _ | apply Drawn0.step)⟩
def impl_GoodFixed.f (a0 : Int) : Option (Bool) := (impl_inRange.f a0 (-1099511627776) 1099511627776).bind fun t265 => (some t265)
set_option maxHeartbeats 8000000 in
set_option maxRecDepth 100000 in
theorem impl_GoodFixed.calls (a0 : Int) (r : Bool) (w : World) (h : impl_GoodFixed.f a0 = some r) :
  Calls Try.prog 56 #[.int .i64 a0] w fun e w' => e = .returned (.bool r) ∧ Drawn0 w w' := by
 have H : ((impl_inRange.f a0 (-1099511627776) 1099511627776).bind fun t265 => (some t265)) = some r := h
 clear h
 replace H := Option.bind_eq_some_iff.mp H
 obtain ⟨t265, A20, H⟩ := H
 replace H : (some t265) = some r := H
 have A2 := Aside0.mk A20
 clear A20
 obtain rfl := Option.some.inj H
 go_enter Try.func56, Try.ntmps56
 go_wp2_with (first | ((with_reducible refine gate_callee (f := 32) rfl ?_); refine goesL_ (some 4) rfl rfl Try.func32 (by kernel_rfl) rfl #[.int .i64 a0, .int .i64 (-1099511627776), .int .i64 1099511627776] rfl aE ?_; (with_reducible refine (impl_inRange.calls a0 (-1099511627776) 1099511627776 t265 _ A2.out).mono ?_); rintro e w' ⟨rfl, ⟨nd, rfl⟩⟩; refine ⟨_, rfl, ?_⟩))
 go_ret
 exact ⟨by first | rfl | (simp; done) | (simp [*]; done) | exact not_isEmpty _ | exact (not_isEmpty _).symm | exact is_empty _ | exact (is_empty _).symm, by repeat (first | exact Drawn0.refl _ | apply Drawn0.step)⟩
def impl_areFixed.l0 : Nat → List Int → Int → Int → Option (Bool)
 | 0, _, _, _ => none
 | k + 1, x5, x6, x7 => if x7 < x6 then (if 0 ≤ x7 then (if x7 < (x5.length : Int) then ((impl_GoodFixed.f (rd x5 x7)).bind fun t267 => (if t267 = true then (impl_areFixed.l0 k x5 x6 (wrap64 (x7 + 1))) else (some false))) else (none)) else (none)) else (some true)
def impl_areFixed.f (k : Nat) (l0 : List Int) : Option (Bool) := impl_areFixed.l0 k l0 (l0.length : Int) 0
theorem impl_areFixed.mono_l : ∀ k, (∀ y0 y1 y2, LeO (impl_areFixed.l0 k y0 y1 y2) (impl_areFixed.l0 (k + 1) y0 y1 y2))
 | 0 => fun _ _ _ r h => by simp [impl_areFixed.l0] at h
 | k + 1 => by
  have ih0 := impl_areFixed.mono_l k
  ·intro y0 y1 y2
   unfold impl_areFixed.l0
   repeat' first
   | (with_reducible exact ih0 _ _ _)
   | (with_reducible exact LeO.refl _)
   | (with_reducible exact LeO.none _)
   | (with_reducible refine LeO.ite ?_ ?_)
   | (with_reducible refine LeO.bind ?_ (fun _ => ?_))
   | exact ih0 _ _ _
   | exact LeO.none _
   | refine LeO.ite ?_ ?_
   | refine LeO.bind ?_ (fun _ => ?_)
theorem impl_areFixed.mono : ∀ a0 k, LeO (impl_areFixed.f k a0) (impl_areFixed.f (k + 1) a0) := by
 intro a0 k
 have ih0 := impl_areFixed.mono_l k
 unfold impl_areFixed.f
 repeat' first
   | (with_reducible exact ih0 _ _ _)
   | (with_reducible exact LeO.refl _)
   | (with_reducible exact LeO.none _)
   | (with_reducible refine LeO.ite ?_ ?_)
   | (with_reducible refine LeO.bind ?_ (fun _ => ?_))
   | exact ih0 _ _ _
   | exact LeO.none _
   | refine LeO.ite ?_ ?_
   | refine LeO.bind ?_ (fun _ => ?_)
set_option maxHeartbeats 8000000 in
set_option maxRecDepth 100000 in
theorem impl_areFixed.calls (k : Nat) (A0 : Option Addr) (c0 : Nat) (l0 : List Int) (r : Bool) (w : World) (hr0 : Kd.C (Kd.int .i64) w A0 l0.length l0) (hc0 : l0.length ≤ c0) (h : impl_areFixed.f k l0 = some r) :
  Calls Try.prog 48 #[.slice A0 l0.length c0] w fun e w' => e = .returned (.bool r) ∧ Drawn0 w w' := by
 have HR0 := Aside0.mk hr0
 have HC0 := Aside0.mk hc0
 clear hr0 hc0
 have H : (impl_areFixed.l0 k l0 (l0.length : Int) 0) = some r := h
 clear h
 have H' := Aside0.mk H
 clear H
 go_enter Try.func48, Try.ntmps48
 go_wp2
 go_loopg [7] k (fun kq v7 w' => ∃ (x7_1 : Int), v7 = .int .i64 x7_1 ∧ Aside0 (impl_areFixed.l0 kq l0 (l0.length : Int) x7_1 = some r) ∧ Aside0 (kq ≤ k) ∧ Drawn0 w w')
 case atStart => exact ⟨(0), tE, H', ⟨Nat.le_refl _⟩, by repeat (first | exact Drawn0.refl _ | apply Drawn0.step)⟩
 case round =>
  clear H'
  obtain ⟨x7_1, rfl, HA, HK1, ⟨m1, rfl⟩⟩ := hrel
  cases gk with
  | zero => exact absurd HA.out (by simp [impl_areFixed.l0])
  | succ k1 =>
   have H := HA.out
   clear HA
   simp only [impl_areFixed.l0] at H
   by_cases c2 : x7_1 < (l0.length : Int)
   ·rw [if_pos c2] at H
    have c2b0 : decide (x7_1 < (l0.length : Int)) = true := decide_eq_true c2
    clear c2
    by_cases c3 : 0 ≤ x7_1
    ·rw [if_pos c3] at H
     have c3b0 : decide (0 ≤ x7_1) = true := decide_eq_true c3
     clear c3
     by_cases c4 : x7_1 < (l0.length : Int)
     ·rw [if_pos c4] at H
      have c4b0 : decide (x7_1 < (l0.length : Int)) = true := decide_eq_true c4
      clear c4
      replace H := Option.bind_eq_some_iff.mp H
      obtain ⟨t267, A50, H⟩ := H
      replace H : (if t267 = true then (impl_areFixed.l0 k1 l0 (l0.length : Int) (wrap64 (x7_1 + 1))) else (some false)) = some r := H
      have A5 := Aside0.mk A50
      clear A50
      by_cases c6 : t267 = true
      ·subst c6
       have H1 : (impl_areFixed.l0 k1 l0 (l0.length : Int) (wrap64 (x7_1 + 1))) = some r := by rw [if_pos rfl] at H; exact H
       clear H
       have H := H1
       clear H1
       have H' := Aside0.mk H
       clear H
       have p266 : 0 ≤ (x7_1 : Int) := of_decide_eq_true hE
       have q266 : x7_1 < (l0.length : Int) := of_decide_eq_true hE
       obtain ⟨ad266, e266, hx266_0⟩ := Kd.at_int HR0.out x7_1 p266 q266
       cases e266
       replace p266 := eq_true p266
       replace q266 := eq_true q266
       go_wp2_with (first | ((with_reducible refine gate_callee (f := 56) rfl ?_); refine goesL_ (some 12) rfl rfl Try.func56 (by kernel_rfl) rfl #[.int .i64 (rd l0 x7_1)] rfl aE ?_; (with_reducible refine (impl_GoodFixed.calls (rd l0 x7_1) true _ A5.out).mono ?_); rintro e w' ⟨rfl, ⟨nd, rfl⟩⟩; refine ⟨_, rfl, ?_⟩))
       go_roundg k1
       case measure => have := HK1.out; omega
       case rel => exact ⟨(wrap64 (x7_1 + 1)), tE, H', ⟨by have := HK1.out; omega⟩, by repeat (first | exact Drawn0.refl _ | apply Drawn0.step)⟩
      ·replace c6 := Bool.eq_false_iff.mpr c6
       subst c6
       have H1 : (some false) = some r := by rw [if_neg (show ¬ (false = true) by decide)] at H; exact H
       clear H
       have H := H1
       clear H1
       obtain rfl := Option.some.inj H
       have p266 : 0 ≤ (x7_1 : Int) := of_decide_eq_true hE
       have q266 : x7_1 < (l0.length : Int) := of_decide_eq_true hE
       obtain ⟨ad266, e266, hx266_0⟩ := Kd.at_int HR0.out x7_1 p266 q266
       cases e266
       replace p266 := eq_true p266
       replace q266 := eq_true q266
       go_wp2_with (first | ((with_reducible refine gate_callee (f := 56) rfl ?_); refine goesL_ (some 12) rfl rfl Try.func56 (by kernel_rfl) rfl #[.int .i64 (rd l0 x7_1)] rfl aE ?_; (with_reducible refine (impl_GoodFixed.calls (rd l0 x7_1) false _ A5.out).mono ?_); rintro e w' ⟨rfl, ⟨nd, rfl⟩⟩; refine ⟨_, rfl, ?_⟩))
       go_ret
       exact ⟨by first | rfl | (simp; done) | (simp [*]; done) | exact not_isEmpty _ | exact (not_isEmpty _).symm | exact is_empty _ | exact (is_empty _).symm, by repeat (first | exact Drawn0.refl _ | apply Drawn0.step)⟩
     ·rw [if_neg c4] at H
      exact absurd H (by simp)
    ·rw [if_neg c3] at H
     exact absurd H (by simp)
   ·rw [if_neg c2] at H
    have c2b0 : decide (x7_1 < (l0.length : Int)) = false := decide_eq_false c2
    clear c2
    obtain rfl := Option.some.inj H
    go_wp2
    go_ret
    exact ⟨by first | rfl | (simp; done) | (simp [*]; done) | exact not_isEmpty _ | exact (not_isEmpty _).symm | exact is_empty _ | exact (is_empty _).symm, by repeat (first | exact Drawn0.refl _ | apply Drawn0.step)⟩
end Go.Proofs.Ythgfobcckoedaaa.PFnExactRunCloud
