/- Texts of the row of the law FnExactStepCloud, laid together. -/
import Derived.Test.YthgfobcckoedaaaZFnExactStepCloud3
import Derived.Test.YthgfobcckoedaaaZFnExactStepCloud5
namespace Go.Proofs.Ythgfobcckoedaaa.PFnExactStepCloud
open Go.RowKit Go.Proofs.YthgfobcckoedaaaW.PrintWords Go.Proofs.YthgfobcckoedaaaW.PrintLast Go.Proofs.YthgfobcckoedaaaW.PrintMore
attribute [local go_sem] max2_int min2_int max_two min_two max_three min_three max_four min_four   -- for this text's walks alone
set_option linter.unusedVariables false
set_option linter.unusedSimpArgs false
mutual
def impl_Emitter_step.l0 : Nat → List (S48) → Int → Int → Int → Int → Int → Int → Int → Int → Int → Int → Int → List (S48) → Int → Int → List (S48) → Option (Int × Int × (List (S48)) × Bool)
 | 0, _, _, _, _, _, _, _, _, _, _, _, _, _, _, _, _ => none
 | k + 1, x19, x20, x21, x261000, x261001, x261002, x261003, x261004, x261005, x261006, x262000, x262001, x262002, x264000, x264001, x264002 => if x21 < x20 then (if 0 ≤ x21 then (if x21 < (x19.length : Int) then (if (wrap64 (((rd_T48 x19 x21).f4) - 1)) > 0 then (if x264002.length < 3518437208883 then (impl_Emitter_step.l0 k x19 x20 (wrap64 (x21 + 1)) x261000 x261001 x261002 x261003 x261004 x261005 x261006 x262000 x262001 x262002 x264000 x264001 (x264002 ++ [(⟨wrap64 (((rd_T48 x19 x21).f0) + ((rd_T48 x19 x21).f2)), wrap64 (((rd_T48 x19 x21).f1) + ((rd_T48 x19 x21).f3)), (rd_T48 x19 x21).f2, wrap64 (((rd_T48 x19 x21).f3) - x261006), wrap64 (((rd_T48 x19 x21).f4) - 1)⟩ : S48)])) else (none)) else (impl_Emitter_step.l0 k x19 x20 (wrap64 (x21 + 1)) x261000 x261001 x261002 x261003 x261004 x261005 x261006 x262000 x262001 x262002 x264000 x264001 x264002)) else (none)) else (none)) else (if x261002 = 0 then (none) else (if (Int.tmod x262001 x261002) = 0 then (impl_Emitter_step.l1 k 0 x261000 x261001 x261002 x261003 x261004 x261005 x261006 x264000 x264001 x264002) else ((impl_GoodCloud.f k x264000 x264001 x264002).bind fun t281 => (some (x264000, x264001, x264002, t281)))))
def impl_Emitter_step.l1 : Nat → Int → Int → Int → Int → Int → Int → Int → Int → Int → Int → List (S48) → Option (Int × Int × (List (S48)) × Bool)
 | 0, _, _, _, _, _, _, _, _, _, _, _ => none
 | k + 1, x9, x261000, x261001, x261002, x261003, x261004, x261005, x261006, x264000, x264001, x264002 => if x9 < x261003 then (if (x264002.length : Int) < 60 then ((impl_Emitter_born.f k x261000 x261001 x261002 x261003 x261004 x261005 x261006 x264000).bind fun bt269 => (if x264002.length < 3518437208883 then (impl_Emitter_step.l1 k (wrap64 (x9 + 1)) x261000 x261001 x261002 x261003 x261004 x261005 x261006 bt269.2.2.2.2.2 x264001 (x264002 ++ [(⟨bt269.1, bt269.2.1, bt269.2.2.1, bt269.2.2.2.1, bt269.2.2.2.2.1⟩ : S48)])) else (none))) else ((impl_GoodCloud.f k x264000 x264001 x264002).bind fun t279 => (some (x264000, x264001, x264002, t279)))) else ((impl_GoodCloud.f k x264000 x264001 x264002).bind fun t280 => (some (x264000, x264001, x264002, t280)))
end
def impl_Emitter_step.f (k : Nat) (a0_0 : Int) (a0_1 : Int) (a0_2 : Int) (a0_3 : Int) (a0_4 : Int) (a0_5 : Int) (a0_6 : Int) (a1_0 : Int) (a1_1 : Int) (l1_2 : List (S48)) : Option (Int × Int × (List (S48)) × Bool) := impl_Emitter_step.l0 k l1_2 (l1_2.length : Int) 0 a0_0 a0_1 a0_2 a0_3 a0_4 a0_5 a0_6 a1_0 a1_1 l1_2 a1_0 (wrap64 (a1_1 + 1)) ([] : List (S48))
theorem impl_Emitter_step.mono_l : ∀ k, (∀ y0 y1 y2 y3 y4 y5 y6 y7 y8 y9 y10 y11 y12 y13 y14 y15, LeO (impl_Emitter_step.l0 k y0 y1 y2 y3 y4 y5 y6 y7 y8 y9 y10 y11 y12 y13 y14 y15) (impl_Emitter_step.l0 (k + 1) y0 y1 y2 y3 y4 y5 y6 y7 y8 y9 y10 y11 y12 y13 y14 y15)) ∧ (∀ y0 y1 y2 y3 y4 y5 y6 y7 y8 y9 y10, LeO (impl_Emitter_step.l1 k y0 y1 y2 y3 y4 y5 y6 y7 y8 y9 y10) (impl_Emitter_step.l1 (k + 1) y0 y1 y2 y3 y4 y5 y6 y7 y8 y9 y10))
 | 0 => ⟨fun _ _ _ _ _ _ _ _ _ _ _ _ _ _ _ _ r h => by simp [impl_Emitter_step.l0] at h, fun _ _ _ _ _ _ _ _ _ _ _ r h => by simp [impl_Emitter_step.l1] at h⟩
 | k + 1 => by
  obtain ⟨ih0, ih1⟩ := impl_Emitter_step.mono_l k
  refine ⟨?_, ?_⟩
  ·intro y0 y1 y2 y3 y4 y5 y6 y7 y8 y9 y10 y11 y12 y13 y14 y15
   unfold impl_Emitter_step.l0
   repeat' first
   | (with_reducible exact ih0 _ _ _ _ _ _ _ _ _ _ _ _ _ _ _ _)
   | (with_reducible exact ih1 _ _ _ _ _ _ _ _ _ _ _)
   | (with_reducible exact impl_Emitter_born.mono _ _ _ _ _ _ _ _ _)
   | (with_reducible exact impl_GoodCloud.mono _ _ _ _)
   | (with_reducible exact LeO.refl _)
   | (with_reducible exact LeO.none _)
   | (with_reducible refine LeO.ite ?_ ?_)
   | (with_reducible refine LeO.bind ?_ (fun _ => ?_))
   | exact ih0 _ _ _ _ _ _ _ _ _ _ _ _ _ _ _ _
   | exact ih1 _ _ _ _ _ _ _ _ _ _ _
   | exact impl_Emitter_born.mono _ _ _ _ _ _ _ _ _
   | exact impl_GoodCloud.mono _ _ _ _
   | exact LeO.none _
   | refine LeO.ite ?_ ?_
   | refine LeO.bind ?_ (fun _ => ?_)
  ·intro y0 y1 y2 y3 y4 y5 y6 y7 y8 y9 y10
   unfold impl_Emitter_step.l1
   repeat' first
   | (with_reducible exact ih0 _ _ _ _ _ _ _ _ _ _ _ _ _ _ _ _)
   | (with_reducible exact ih1 _ _ _ _ _ _ _ _ _ _ _)
   | (with_reducible exact impl_Emitter_born.mono _ _ _ _ _ _ _ _ _)
   | (with_reducible exact impl_GoodCloud.mono _ _ _ _)
   | (with_reducible exact LeO.refl _)
   | (with_reducible exact LeO.none _)
   | (with_reducible refine LeO.ite ?_ ?_)
   | (with_reducible refine LeO.bind ?_ (fun _ => ?_))
   | exact ih0 _ _ _ _ _ _ _ _ _ _ _ _ _ _ _ _
   | exact ih1 _ _ _ _ _ _ _ _ _ _ _
   | exact impl_Emitter_born.mono _ _ _ _ _ _ _ _ _
   | exact impl_GoodCloud.mono _ _ _ _
   | exact LeO.none _
   | refine LeO.ite ?_ ?_
   | refine LeO.bind ?_ (fun _ => ?_)
theorem impl_Emitter_step.mono : ∀ a0 a1 a2 a3 a4 a5 a6 a7 a8 a9 k, LeO (impl_Emitter_step.f k a0 a1 a2 a3 a4 a5 a6 a7 a8 a9) (impl_Emitter_step.f (k + 1) a0 a1 a2 a3 a4 a5 a6 a7 a8 a9) := by
 intro a0 a1 a2 a3 a4 a5 a6 a7 a8 a9 k
 obtain ⟨ih0, ih1⟩ := impl_Emitter_step.mono_l k
 unfold impl_Emitter_step.f
 repeat' first
   | (with_reducible exact ih0 _ _ _ _ _ _ _ _ _ _ _ _ _ _ _ _)
   | (with_reducible exact ih1 _ _ _ _ _ _ _ _ _ _ _)
   | (with_reducible exact impl_Emitter_born.mono _ _ _ _ _ _ _ _ _)
   | (with_reducible exact impl_GoodCloud.mono _ _ _ _)
   | (with_reducible exact LeO.refl _)
   | (with_reducible exact LeO.none _)
   | (with_reducible refine LeO.ite ?_ ?_)
   | (with_reducible refine LeO.bind ?_ (fun _ => ?_))
   | exact ih0 _ _ _ _ _ _ _ _ _ _ _ _ _ _ _ _
   | exact ih1 _ _ _ _ _ _ _ _ _ _ _
   | exact impl_Emitter_born.mono _ _ _ _ _ _ _ _ _
   | exact impl_GoodCloud.mono _ _ _ _
   | exact LeO.none _
   | refine LeO.ite ?_ ?_
   | refine LeO.bind ?_ (fun _ => ?_)
def impl_Emitter_step.T7 : Bool × List (List Nat × List Nat) := (true, [([], []), ([0], [0]), ([], []), ([2], [2]), ([1, 3], [1, 3]), ([], []), ([5], [5]), ([], []), ([7], [7]), ([6, 8], [6, 8]), ([], []), ([10], [10]), ([], []), ([12], [12]), ([11, 13], [11, 13]), ([0, 1, 2, 3, 4, 5, 6, 7, 8, 10, 11], []), ([15, 4, 0, 1, 2, 3, 4, 5, 6, 7, 8, 10, 11], [4, 15]), ([0, 1, 2, 3, 4, 5, 6, 7, 8, 9, 10, 11, 15, 16], []), ([17, 9, 16, 0, 1, 2, 3, 4, 5, 6, 7, 8, 9, 10, 11, 15, 16], [9, 17]), ([0, 1, 2, 3, 4, 5, 6, 7, 8, 9, 10, 11, 12, 13, 14, 15, 16, 17, 18], []), ([19, 14, 18, 0, 1, 2, 3, 4, 5, 6, 7, 8, 9, 10, 11, 12, 13, 14, 15, 16, 17, 18], [14, 19])])
def impl_Emitter_step.B7 : List Nat := [0, 1, 0, 4, 15, 0, 32, 0, 128, 480, 0, 1024, 0, 4096, 15360, 3583, 36351, 102399, 233471, 524287, 1048575]
theorem impl_Emitter_step.tab7 : rtab .any (opsOf Try.f34 7) = impl_Emitter_step.T7 := by kernel_rfl
theorem impl_Emitter_step.bits7 : waitsOk impl_Emitter_step.T7.2 impl_Emitter_step.B7 = true := by kernel_rfl
set_option maxHeartbeats 8000000 in
set_option maxRecDepth 100000 in
theorem impl_Emitter_step.calls (k : Nat) (a0_0 : Int) (a0_1 : Int) (a0_2 : Int) (a0_3 : Int) (a0_4 : Int) (a0_5 : Int) (a0_6 : Int) (a1_0 : Int) (a1_1 : Int) (A1_2 : Option Addr) (c1_2 : Nat) (l1_2 : List (S48)) (r1 : Int) (r2 : Int) (r3 : List (S48)) (r4 : Bool) (w : World) (hr1_2 : Kd.C k48 w A1_2 l1_2.length l1_2) (hc1_2 : l1_2.length ≤ c1_2) (h : impl_Emitter_step.f k a0_0 a0_1 a0_2 a0_3 a0_4 a0_5 a0_6 a1_0 a1_1 l1_2 = some (r1, r2, r3, r4)) :
  Calls Try.prog 34 #[.agg #[.int .i64 a0_0, .int .i64 a0_1, .int .i64 a0_2, .int .i64 a0_3, .int .i64 a0_4, .int .i64 a0_5, .int .i64 a0_6], .agg #[.int .i64 a1_0, .int .i64 a1_1, .slice A1_2 l1_2.length c1_2]] w fun e w' => ∃ v2_ : Value, e = .returned (.tuple #[.agg #[.int .i64 r1, .int .i64 r2, v2_], .bool r4]) ∧ Kd.R k48 48 w' w.heap.size (fun _ => True) v2_ r3 ∧ Below w.heap.size w w' := by
 have hu26 := Try.underlying26
 have hu35 := Try.underlying35
 have hu48 := Try.underlying48
 have HR1_2 := Aside0.mk hr1_2
 have HC1_2 := Aside0.mk hc1_2
 clear hr1_2 hc1_2
 have HB := Aside0.mk (Below.refl w.heap.size w)
 have H : (impl_Emitter_step.l0 k l1_2 (l1_2.length : Int) 0 a0_0 a0_1 a0_2 a0_3 a0_4 a0_5 a0_6 a1_0 a1_1 l1_2 a1_0 (wrap64 (a1_1 + 1)) ([] : List (S48))) = some (r1, r2, r3, r4) := h
 clear h
 have H' := Aside0.mk H
 clear H
 go_enter Try.func34, Try.ntmps34
 go_wp2_with (first | ((with_reducible refine gate_dst (N := 2) rfl ?_); (try (refine gate_guard (by rfl) ?_; dsimp only)); refine box_event rfl (N := 2) rfl (cs := #[.int .i64 a0_0, .int .i64 a0_1, .int .i64 a0_2, .int .i64 a0_3, .int .i64 a0_4, .int .i64 a0_5, .int .i64 a0_6]) (t := 26) sE ?_; intro gb260 hg w3 hbox hb; have BK260 := Aside0.mk hbox; have GW260 := gS w hg (lU); have GE260 := GW260; replace HB := Aside0.mk (below_step (lU) hb); clear hb hbox hg) | ((with_reducible refine gate_dst (N := 3) rfl ?_); (try (refine gate_guard (by rfl) ?_; dsimp only)); refine box_event rfl (N := 3) rfl (cs := #[.int .i64 a1_0, .int .i64 a1_1, .slice A1_2 l1_2.length c1_2]) (t := 35) sE ?_; intro gb261 hg w4 hbox hb; have BK261 := Aside0.mk hbox; have GW261 := gS w hg (lU1 GE260.out); have GE261 := GW261; replace HB := Aside0.mk (below_step (lU1 GE260.out) hb); have NB260_261 := nL hg (bU BK260.out); have NB261_260 := nG hg (bU BK260.out); replace BK260 := Aside0.mk (blk_below (bU BK260.out) hb); clear hb hbox hg) | ((with_reducible refine gate_dst (N := 4) rfl ?_); (try (refine gate_guard (by rfl) ?_; dsimp only)); refine box_event rfl (N := 4) rfl (cs := #[.int .i64 0, .int .i64 0, .slice none 0 0]) (t := 35) sE ?_; intro gb262 hg w5 hbox hb; have BK262 := Aside0.mk hbox; have GW262 := gS w hg (lU2 GE260.out GE261.out); have GE262 := GW262; replace HB := Aside0.mk (below_step (lU2 GE260.out GE261.out) hb); have NB260_262 := nL hg (bU BK260.out); have NB262_260 := nG hg (bU BK260.out); replace BK260 := Aside0.mk (blk_below (bU BK260.out) hb); have NB261_262 := nL hg (bU BK261.out); have NB262_261 := nG hg (bU BK261.out); replace BK261 := Aside0.mk (blk_below (bU BK261.out) hb); clear hb hbox hg; have hnb6 := NB261_260.out; have hnc6 := NB260_261.out; have hnb7 := NB261_262.out; have hnc7 := NB262_261.out; have hcz8_0 : w5.cell? ⟨gb261, 0, none⟩ = some (.int .i64 a1_0) := (blk_cell BK261.out 0).trans rfl; have hcz8_1 : w5.cell? ⟨gb261, 1, none⟩ = some (.int .i64 a1_1) := (blk_cell BK261.out 1).trans rfl; have hcz8_2 : w5.cell? ⟨gb261, 2, none⟩ = some (.slice A1_2 l1_2.length c1_2) := (blk_cell BK261.out 2).trans rfl; have hfz8_0 := blk_frozen BK261.out 0; have hfz8_1 := blk_frozen BK261.out 1; have hfz8_2 := blk_frozen BK261.out 2) | ((with_reducible refine gate_dst (N := 6) rfl ?_); (try (refine gate_guard (by rfl) ?_; dsimp only)); refine box_event rfl (N := 6) rfl (cs := #[.int .i64 0, .int .i64 0, .slice none 0 0]) (t := 35) sE ?_; intro gb263 hg w9 hbox hb; have BK263 := Aside0.mk hbox; have GW263 := gS w hg (lU3 GE260.out GE261.out GE262.out); have GE263 := GW263; replace HB := Aside0.mk (below_step (lU3 GE260.out GE261.out GE262.out) hb); have NB260_263 := nL hg (bU BK260.out); have NB263_260 := nG hg (bU BK260.out); replace BK260 := Aside0.mk (blk_below (bU BK260.out) hb); have NB261_263 := nL hg (bU BK261.out); have NB263_261 := nG hg (bU BK261.out); replace BK261 := Aside0.mk (blk_below (bU BK261.out) hb); have NB262_263 := nL hg (bU BK262.out); have NB263_262 := nG hg (bU BK262.out); replace BK262 := Aside0.mk (blk_below (bU BK262.out) hb); clear hb hbox hg; have hnb10 := NB263_260.out; have hnc10 := NB260_263.out; have hnb11 := NB263_261.out; have hnc11 := NB261_263.out; have hnb12 := NB263_262.out; have hnc12 := NB262_263.out; have hcz13_0 : w9.cell? ⟨gb263, 0, none⟩ = some (.int .i64 0) := (blk_cell BK263.out 0).trans rfl; have hcz13_1 : w9.cell? ⟨gb263, 1, none⟩ = some (.int .i64 0) := (blk_cell BK263.out 1).trans rfl; have hcz13_2 : w9.cell? ⟨gb263, 2, none⟩ = some (.slice none 0 0) := (blk_cell BK263.out 2).trans rfl; have hfz13_0 := blk_frozen BK263.out 0; have hfz13_1 := blk_frozen BK263.out 1; have hfz13_2 := blk_frozen BK263.out 2) | ((with_reducible refine gate_store (t := 35) (p := 6) rfl ?_); refine store_event (t := 35) (p := 6) (v := ?vo_w14) (w1 := (((w9.setCell ⟨gb263, 0, none⟩ (.int .i64 a1_0)).setCell ⟨gb263, 1, none⟩ (.int .i64 (wrap64 (a1_1 + 1)))).setCell ⟨gb263, 2, none⟩ (.slice none 0 0))) ?hg ?ho ?hn ?hr ?_; (case ho => rfl); (case hg => rfl); (case hn => rfl); (case hr => first | (go_simp; done) | (go_simp; rfl) | (have hq0_ := (blk_cell BK263.out 0).trans (show _ = some _ from rfl); have hf0_ := blk_frozen BK263.out 0; have hq1_ := (blk_cell BK263.out 1).trans (show _ = some _ from rfl); have hf1_ := blk_frozen BK263.out 1; have hq2_ := (blk_cell BK263.out 2).trans (show _ = some _ from rfl); have hf2_ := blk_frozen BK263.out 2; first | (go_simp; done) | (go_simp; rfl))); intro w14 hw; replace BK260 : Aside0 (w14.heap[gb260]? = some (.cells #[.int .i64 a0_0, .int .i64 a0_1, .int .i64 a0_2, .int .i64 a0_3, .int .i64 a0_4, .int .i64 a0_5, .int .i64 a0_6] 26 (0, 0))) := ⟨(by rw [hw]; exact (bF NB260_263.out BK260.out))⟩; replace BK261 : Aside0 (w14.heap[gb261]? = some (.cells #[.int .i64 a1_0, .int .i64 a1_1, .slice A1_2 l1_2.length c1_2] 35 (0, 0))) := ⟨(by rw [hw]; exact (bF NB261_263.out BK261.out))⟩; replace BK262 : Aside0 (w14.heap[gb262]? = some (.cells #[.int .i64 0, .int .i64 0, .slice none 0 0] 35 (0, 0))) := ⟨(by rw [hw]; exact (bF NB262_263.out BK262.out))⟩; replace BK263 : Aside0 (w14.heap[gb263]? = some (.cells #[.int .i64 a1_0, .int .i64 (wrap64 (a1_1 + 1)), .slice none 0 0] 35 (0, 0))) := ⟨(by rw [hw]; exact (by refine bU ?_; refine blk_put (cs := #[.int .i64 a1_0, .int .i64 (wrap64 (a1_1 + 1)), .slice none 0 0]) ?_ 2 _ rfl; refine bU ?_; refine blk_put (cs := #[.int .i64 a1_0, .int .i64 0, .slice none 0 0]) ?_ 1 _ rfl; refine bU ?_; refine blk_put (cs := #[.int .i64 0, .int .i64 0, .slice none 0 0]) ?_ 0 _ rfl; refine bU ?_; exact BK263.out))⟩; replace HB : Aside0 (Below w.heap.size w w14) := ⟨(by rw [hw]; exact (lU4 GE260.out GE261.out GE262.out GE263.out))⟩; clear hw; have hcz15_0 : w14.cell? ⟨gb261, 0, none⟩ = some (.int .i64 a1_0) := (blk_cell BK261.out 0).trans rfl; have hcz15_1 : w14.cell? ⟨gb261, 1, none⟩ = some (.int .i64 a1_1) := (blk_cell BK261.out 1).trans rfl; have hcz15_2 : w14.cell? ⟨gb261, 2, none⟩ = some (.slice A1_2 l1_2.length c1_2) := (blk_cell BK261.out 2).trans rfl; have hfz15_0 := blk_frozen BK261.out 0; have hfz15_1 := blk_frozen BK261.out 1; have hfz15_2 := blk_frozen BK261.out 2))
 go_loopg [21] k (fun kq v21 w' => ∃ (x21_1 : Int) (x264002_1 : List (S48)) (u264002 : Value), v21 = .int .i64 x21_1 ∧ Aside0 (impl_Emitter_step.l0 kq l1_2 (l1_2.length : Int) x21_1 a0_0 a0_1 a0_2 a0_3 a0_4 a0_5 a0_6 a1_0 a1_1 l1_2 a1_0 (wrap64 (a1_1 + 1)) x264002_1 = some (r1, r2, r3, r4)) ∧ Aside0 (kq ≤ k) ∧ Aside0 (Kd.R k48 48 w' w.heap.size (fun _ => True) u264002 x264002_1) ∧ Aside0 (w'.heap[gb260]? = some (.cells #[.int .i64 a0_0, .int .i64 a0_1, .int .i64 a0_2, .int .i64 a0_3, .int .i64 a0_4, .int .i64 a0_5, .int .i64 a0_6] 26 (0, 0))) ∧ Aside0 (w'.heap[gb261]? = some (.cells #[.int .i64 a1_0, .int .i64 a1_1, (.slice A1_2 l1_2.length c1_2)] 35 (0, 0))) ∧ Aside0 (w'.heap[gb262]? = some (.cells #[.int .i64 0, .int .i64 0, (.slice none 0 0)] 35 (0, 0))) ∧ Aside0 (w'.heap[gb263]? = some (.cells #[.int .i64 a1_0, .int .i64 (wrap64 (a1_1 + 1)), u264002] 35 (0, 0))) ∧ Aside0 (Below w.heap.size w w'))
 case atStart => exact ⟨(0), (([] : List (S48))), (.slice none 0 0), tE, H', ⟨Nat.le_refl _⟩, ⟨by first | exact Kd.R_nil _ _ _ _ _ | exact Kd.N_nil _ _ _ _ _ | exact Kd.V_nil _ _ _ _ _ | exact Kd.Q_nil _ _ _ _ _ | exact Kd.S_nil _ _ _ _ _⟩, ⟨by refine bU ?_; exact BK260.out⟩, ⟨by refine bU ?_; exact BK261.out⟩, ⟨by refine bU ?_; exact BK262.out⟩, ⟨by refine bU ?_; exact BK263.out⟩, ⟨by repeat (first | (with_reducible first | exact HB.out | apply below_alloc | apply pw_below_drewN | apply below_drew1 | refine below_set ?_ GE260.out | refine below_set ?_ GE261.out | refine below_set ?_ GE262.out | refine below_set ?_ GE263.out) | exact HB.out)⟩⟩
 case round =>
  clear H'
  try clear c1
  try clear q1
  try clear p2
  try clear q2
  try clear hf2
  try clear c3
  try clear c6
  try clear p6
  try clear c7
  try clear c10
  try clear c11
  try clear c12
  try clear hcz13_0
  try clear hcz13_1
  try clear hcz13_2
  try clear hcz15_0
  try clear hcz15_1
  try clear hcz15_2
  try clear hcz8_0
  try clear hcz8_1
  try clear hcz8_2
  try clear hfz13_0
  try clear hfz13_1
  try clear hfz13_2
  try clear hfz15_0
  try clear hfz15_1
  try clear hfz15_2
  try clear hfz8_0
  try clear hfz8_1
  try clear hfz8_2
  obtain ⟨x21_1, x264002_1, u264002, rfl, HA, HK1, HO_264002, BK260, BK261, BK262, BK263, HB⟩ := hrel
  cases gk with
  | zero => exact absurd HA.out (by simp [impl_Emitter_step.l0])
  | succ k1 =>
   have H := HA.out
   clear HA
   simp only [impl_Emitter_step.l0] at H
   by_cases c16 : x21_1 < (l1_2.length : Int)
   ·rw [if_pos c16] at H
    have c16b0 : decide (x21_1 < (l1_2.length : Int)) = true := decide_eq_true c16
    clear c16
    by_cases c17 : 0 ≤ x21_1
    ·rw [if_pos c17] at H
     have c17b0 : decide (0 ≤ x21_1) = true := decide_eq_true c17
     clear c17
     by_cases c18 : x21_1 < (l1_2.length : Int)
     ·rw [if_pos c18] at H
      have c18b0 : decide (x21_1 < (l1_2.length : Int)) = true := decide_eq_true c18
      clear c18
      by_cases c19 : (wrap64 (((rd_T48 l1_2 x21_1).f4) - 1)) > 0
      ·rw [if_pos c19] at H
       have c19b0 : decide (0 < (wrap64 (((rd_T48 l1_2 x21_1).f4) - 1))) = true := decide_eq_true c19
       clear c19
       by_cases c20 : x264002_1.length < 3518437208883
       ·rw [if_pos c20] at H
        have LMc20 := Aside0.mk c20
        clear c20
        obtain ⟨y266, hy266⟩ : ∃ y_ : List (S48), y_ = (x264002_1 ++ [(⟨wrap64 (((rd_T48 l1_2 x21_1).f0) + ((rd_T48 l1_2 x21_1).f2)), wrap64 (((rd_T48 l1_2 x21_1).f1) + ((rd_T48 l1_2 x21_1).f3)), (rd_T48 l1_2 x21_1).f2, wrap64 (((rd_T48 l1_2 x21_1).f3) - a0_6), wrap64 (((rd_T48 l1_2 x21_1).f4) - 1)⟩ : S48)]) := ⟨_, rfl⟩
        replace H : (impl_Emitter_step.l0 k1 l1_2 (l1_2.length : Int) (wrap64 (x21_1 + 1)) a0_0 a0_1 a0_2 a0_3 a0_4 a0_5 a0_6 a1_0 a1_1 l1_2 a1_0 (wrap64 (a1_1 + 1)) y266) = some (r1, r2, r3, r4) := by first | (rw [hy266]; with_reducible exact H) | (have H2_ := (Option.bind_some _ _).symm.trans H; rw [hy266]; with_reducible exact H2_) | (have H2_ := (Option.bind_some _ _).symm.trans H; with_reducible exact H2_) | with_reducible exact H | (rw [hy266]; exact H) | exact H
        have Ny266 := Aside0.mk hy266
        clear hy266
        have H' := Aside0.mk H
        clear H
        have p264 : 0 ≤ (x21_1 : Int) := of_decide_eq_true hE
        have q264 : x21_1 < (l1_2.length : Int) := of_decide_eq_true hE
        obtain ⟨ad264, e264, hx264_0, hx264_1, hx264_2, hx264_3, hx264_4⟩ := at_T48 HR1_2.out x21_1 p264 q264
        cases e264
        replace hx264_0 := (HB.out.cell (World.block_lt_of_cell? w _ hx264_0)).trans hx264_0
        replace hx264_1 := (HB.out.cell (World.block_lt_of_cell? w _ hx264_1)).trans hx264_1
        replace hx264_2 := (HB.out.cell (World.block_lt_of_cell? w _ hx264_2)).trans hx264_2
        replace hx264_3 := (HB.out.cell (World.block_lt_of_cell? w _ hx264_3)).trans hx264_3
        replace hx264_4 := (HB.out.cell (World.block_lt_of_cell? w _ hx264_4)).trans hx264_4
        replace p264 := eq_true p264
        replace q264 := eq_true q264
        try go_wp2_with (first | ((with_reducible refine gate_dst (N := 8) rfl ?_); (try (refine gate_guard (by rfl) ?_; dsimp only)); refine box_event rfl (N := 8) rfl (cs := #[.int .i64 0, .int .i64 0, .int .i64 0, .int .i64 0, .int .i64 0]) (t := 48) sE ?_; intro gb265 hg w21 hbox hb; replace HO_264002 := Aside0.mk (Kd.R_below (Kd.R_elderB (rU HO_264002.out) gb265 (Nat.le_of_eq hg.symm)) hb); have BK265 := Aside0.mk hbox; have GW265 := gS w hg (lU4 GE260.out GE261.out GE262.out GE263.out); have GE265 := GW265; replace HB := Aside0.mk (below_step (lU4 GE260.out GE261.out GE262.out GE263.out) hb); have NB260_265 := nL hg (bU BK260.out); have NB265_260 := nG hg (bU BK260.out); replace BK260 := Aside0.mk (blk_below (bU BK260.out) hb); have NB261_265 := nL hg (bU BK261.out); have NB265_261 := nG hg (bU BK261.out); replace BK261 := Aside0.mk (blk_below (bU BK261.out) hb); have NB262_265 := nL hg (bU BK262.out); have NB265_262 := nG hg (bU BK262.out); replace BK262 := Aside0.mk (blk_below (bU BK262.out) hb); have NB263_265 := nL hg (bU BK263.out); have NB265_263 := nG hg (bU BK263.out); replace BK263 := Aside0.mk (blk_below (bU BK263.out) hb); clear hb hbox hg; have hnb22 := NB265_260.out; have hnc22 := NB260_265.out; have hnb23 := NB265_261.out; have hnc23 := NB261_265.out; have hnb24 := NB265_262.out; have hnc24 := NB262_265.out; have hnb25 := NB265_263.out; have hnc25 := NB263_265.out; have hcz26_0 : w21.cell? ⟨gb265, 0, none⟩ = some (.int .i64 0) := (blk_cell BK265.out 0).trans rfl; have hcz26_1 : w21.cell? ⟨gb265, 1, none⟩ = some (.int .i64 0) := (blk_cell BK265.out 1).trans rfl; have hcz26_2 : w21.cell? ⟨gb265, 2, none⟩ = some (.int .i64 0) := (blk_cell BK265.out 2).trans rfl; have hcz26_3 : w21.cell? ⟨gb265, 3, none⟩ = some (.int .i64 0) := (blk_cell BK265.out 3).trans rfl; have hcz26_4 : w21.cell? ⟨gb265, 4, none⟩ = some (.int .i64 0) := (blk_cell BK265.out 4).trans rfl; have hfz26_0 := blk_frozen BK265.out 0; have hfz26_1 := blk_frozen BK265.out 1; have hfz26_2 := blk_frozen BK265.out 2; have hfz26_3 := blk_frozen BK265.out 3; have hfz26_4 := blk_frozen BK265.out 4) | ((with_reducible refine gate_store (t := 48) (p := 8) rfl ?_); refine store_event (t := 48) (p := 8) (v := ?vo_w27) (w1 := (((((w21.setCell ⟨gb265, 0, none⟩ (.int .i64 ((rd_T48 l1_2 x21_1).f0))).setCell ⟨gb265, 1, none⟩ (.int .i64 ((rd_T48 l1_2 x21_1).f1))).setCell ⟨gb265, 2, none⟩ (.int .i64 ((rd_T48 l1_2 x21_1).f2))).setCell ⟨gb265, 3, none⟩ (.int .i64 ((rd_T48 l1_2 x21_1).f3))).setCell ⟨gb265, 4, none⟩ (.int .i64 ((rd_T48 l1_2 x21_1).f4)))) ?hg ?ho ?hn ?hr ?_; (case ho => rfl); (case hg => rfl); (case hn => rfl); (case hr => first | (go_simp; done) | (go_simp; rfl) | (have hq0_ := (blk_cell BK265.out 0).trans (show _ = some _ from rfl); have hf0_ := blk_frozen BK265.out 0; have hq1_ := (blk_cell BK265.out 1).trans (show _ = some _ from rfl); have hf1_ := blk_frozen BK265.out 1; have hq2_ := (blk_cell BK265.out 2).trans (show _ = some _ from rfl); have hf2_ := blk_frozen BK265.out 2; have hq3_ := (blk_cell BK265.out 3).trans (show _ = some _ from rfl); have hf3_ := blk_frozen BK265.out 3; have hq4_ := (blk_cell BK265.out 4).trans (show _ = some _ from rfl); have hf4_ := blk_frozen BK265.out 4; first | (go_simp; done) | (go_simp; rfl))); intro w27 hw; replace HO_264002 : Aside0 (Kd.R k48 48 w27 w.heap.size (fun k_ => k_ ≠ gb265) u264002 x264002_1) := ⟨(by rw [hw]; exact (by (with_reducible repeat (first | apply Kd.R_alloc | apply Kd.R_drewN | apply Kd.R_drew)); exact Kd.R_mono (Kd.R_far (p := ⟨gb265, 4, none⟩) (Kd.R_far (p := ⟨gb265, 3, none⟩) (Kd.R_far (p := ⟨gb265, 2, none⟩) (Kd.R_far (p := ⟨gb265, 1, none⟩) (Kd.R_far (p := ⟨gb265, 0, none⟩) (Kd.R_mono HO_264002.out (fun k_ hk => (⟨hk, hk.2⟩ : _ ∧ k_ ≠ gb265))) (fun _ hk => hk.2) (.int .i64 ((rd_T48 l1_2 x21_1).f0))) (fun _ hk => hk.2) (.int .i64 ((rd_T48 l1_2 x21_1).f1))) (fun _ hk => hk.2) (.int .i64 ((rd_T48 l1_2 x21_1).f2))) (fun _ hk => hk.2) (.int .i64 ((rd_T48 l1_2 x21_1).f3))) (fun _ hk => hk.2) (.int .i64 ((rd_T48 l1_2 x21_1).f4))) (fun _ hk => hk.1.2)))⟩; replace BK260 : Aside0 (w27.heap[gb260]? = some (.cells #[.int .i64 a0_0, .int .i64 a0_1, .int .i64 a0_2, .int .i64 a0_3, .int .i64 a0_4, .int .i64 a0_5, .int .i64 a0_6] 26 (0, 0))) := ⟨(by rw [hw]; exact (bF NB260_265.out BK260.out))⟩; replace BK261 : Aside0 (w27.heap[gb261]? = some (.cells #[.int .i64 a1_0, .int .i64 a1_1, .slice (some ad264) l1_2.length c1_2] 35 (0, 0))) := ⟨(by rw [hw]; exact (bF NB261_265.out BK261.out))⟩; replace BK262 : Aside0 (w27.heap[gb262]? = some (.cells #[.int .i64 0, .int .i64 0, .slice none 0 0] 35 (0, 0))) := ⟨(by rw [hw]; exact (bF NB262_265.out BK262.out))⟩; replace BK263 : Aside0 (w27.heap[gb263]? = some (.cells #[.int .i64 a1_0, .int .i64 (wrap64 (a1_1 + 1)), u264002] 35 (0, 0))) := ⟨(by rw [hw]; exact (bF NB263_265.out BK263.out))⟩; replace BK265 : Aside0 (w27.heap[gb265]? = some (.cells #[.int .i64 ((rd_T48 l1_2 x21_1).f0), .int .i64 ((rd_T48 l1_2 x21_1).f1), .int .i64 ((rd_T48 l1_2 x21_1).f2), .int .i64 ((rd_T48 l1_2 x21_1).f3), .int .i64 ((rd_T48 l1_2 x21_1).f4)] 48 (0, 0))) := ⟨(by rw [hw]; exact (by refine bU ?_; refine blk_put (cs := #[.int .i64 ((rd_T48 l1_2 x21_1).f0), .int .i64 ((rd_T48 l1_2 x21_1).f1), .int .i64 ((rd_T48 l1_2 x21_1).f2), .int .i64 ((rd_T48 l1_2 x21_1).f3), .int .i64 0]) ?_ 4 _ rfl; refine bU ?_; refine blk_put (cs := #[.int .i64 ((rd_T48 l1_2 x21_1).f0), .int .i64 ((rd_T48 l1_2 x21_1).f1), .int .i64 ((rd_T48 l1_2 x21_1).f2), .int .i64 0, .int .i64 0]) ?_ 3 _ rfl; refine bU ?_; refine blk_put (cs := #[.int .i64 ((rd_T48 l1_2 x21_1).f0), .int .i64 ((rd_T48 l1_2 x21_1).f1), .int .i64 0, .int .i64 0, .int .i64 0]) ?_ 2 _ rfl; refine bU ?_; refine blk_put (cs := #[.int .i64 ((rd_T48 l1_2 x21_1).f0), .int .i64 0, .int .i64 0, .int .i64 0, .int .i64 0]) ?_ 1 _ rfl; refine bU ?_; refine blk_put (cs := #[.int .i64 0, .int .i64 0, .int .i64 0, .int .i64 0, .int .i64 0]) ?_ 0 _ rfl; refine bU ?_; exact BK265.out))⟩; replace HB : Aside0 (Below w.heap.size w w27) := ⟨(by rw [hw]; exact (lU5 GE260.out GE261.out GE262.out GE263.out GE265.out))⟩; clear hw; have hcz28_0 : w27.cell? ⟨gb265, 0, none⟩ = some (.int .i64 ((rd_T48 l1_2 x21_1).f0)) := (blk_cell BK265.out 0).trans rfl; have hcz28_1 : w27.cell? ⟨gb265, 1, none⟩ = some (.int .i64 ((rd_T48 l1_2 x21_1).f1)) := (blk_cell BK265.out 1).trans rfl; have hcz28_2 : w27.cell? ⟨gb265, 2, none⟩ = some (.int .i64 ((rd_T48 l1_2 x21_1).f2)) := (blk_cell BK265.out 2).trans rfl; have hcz28_3 : w27.cell? ⟨gb265, 3, none⟩ = some (.int .i64 ((rd_T48 l1_2 x21_1).f3)) := (blk_cell BK265.out 3).trans rfl; have hcz28_4 : w27.cell? ⟨gb265, 4, none⟩ = some (.int .i64 ((rd_T48 l1_2 x21_1).f4)) := (blk_cell BK265.out 4).trans rfl; have hfz28_0 := blk_frozen BK265.out 0; have hfz28_1 := blk_frozen BK265.out 1; have hfz28_2 := blk_frozen BK265.out 2; have hfz28_3 := blk_frozen BK265.out 3; have hfz28_4 := blk_frozen BK265.out 4) | ((with_reducible refine gate_store (t := 3) (p := 28) rfl ?_); refine store_event (t := 3) (p := 28) (v := ?vo_w29) (w1 := (w27.setCell ⟨gb265, 4, none⟩ (.int .i64 (wrap64 (((rd_T48 l1_2 x21_1).f4) - 1))))) ?hg ?ho ?hn ?hr ?_; (case ho => rfl); (case hg => rfl); (case hn => rfl); (case hr => first | (go_simp; done) | (go_simp; rfl) | (have hq0_ := (blk_cell BK265.out 4).trans (show _ = some _ from rfl); have hf0_ := blk_frozen BK265.out 4; first | (go_simp; done) | (go_simp; rfl))); intro w29 hw; replace HO_264002 : Aside0 (Kd.R k48 48 w29 w.heap.size (fun k_ => k_ ≠ gb265) u264002 x264002_1) := ⟨(by rw [hw]; exact (by (with_reducible repeat (first | apply Kd.R_alloc | apply Kd.R_drewN | apply Kd.R_drew)); exact Kd.R_mono (Kd.R_far (p := ⟨gb265, 4, none⟩) (Kd.R_mono HO_264002.out (fun k_ hk => (⟨hk, hk⟩ : _ ∧ k_ ≠ gb265))) (fun _ hk => hk.2) (.int .i64 (wrap64 (((rd_T48 l1_2 x21_1).f4) - 1)))) (fun _ hk => hk.1)))⟩; replace BK260 : Aside0 (w29.heap[gb260]? = some (.cells #[.int .i64 a0_0, .int .i64 a0_1, .int .i64 a0_2, .int .i64 a0_3, .int .i64 a0_4, .int .i64 a0_5, .int .i64 a0_6] 26 (0, 0))) := ⟨(by rw [hw]; exact (bF NB260_265.out BK260.out))⟩; replace BK261 : Aside0 (w29.heap[gb261]? = some (.cells #[.int .i64 a1_0, .int .i64 a1_1, .slice (some ad264) l1_2.length c1_2] 35 (0, 0))) := ⟨(by rw [hw]; exact (bF NB261_265.out BK261.out))⟩; replace BK262 : Aside0 (w29.heap[gb262]? = some (.cells #[.int .i64 0, .int .i64 0, .slice none 0 0] 35 (0, 0))) := ⟨(by rw [hw]; exact (bF NB262_265.out BK262.out))⟩; replace BK263 : Aside0 (w29.heap[gb263]? = some (.cells #[.int .i64 a1_0, .int .i64 (wrap64 (a1_1 + 1)), u264002] 35 (0, 0))) := ⟨(by rw [hw]; exact (bF NB263_265.out BK263.out))⟩; replace BK265 : Aside0 (w29.heap[gb265]? = some (.cells #[.int .i64 ((rd_T48 l1_2 x21_1).f0), .int .i64 ((rd_T48 l1_2 x21_1).f1), .int .i64 ((rd_T48 l1_2 x21_1).f2), .int .i64 ((rd_T48 l1_2 x21_1).f3), .int .i64 (wrap64 (((rd_T48 l1_2 x21_1).f4) - 1))] 48 (0, 0))) := ⟨(by rw [hw]; exact (by refine bU ?_; refine blk_put (cs := #[.int .i64 ((rd_T48 l1_2 x21_1).f0), .int .i64 ((rd_T48 l1_2 x21_1).f1), .int .i64 ((rd_T48 l1_2 x21_1).f2), .int .i64 ((rd_T48 l1_2 x21_1).f3), .int .i64 ((rd_T48 l1_2 x21_1).f4)]) ?_ 4 _ rfl; refine bU ?_; exact BK265.out))⟩; replace HB : Aside0 (Below w.heap.size w w29) := ⟨(by rw [hw]; exact (lU5 GE260.out GE261.out GE262.out GE263.out GE265.out))⟩; clear hw; have hcz30_0 : w29.cell? ⟨gb265, 0, none⟩ = some (.int .i64 ((rd_T48 l1_2 x21_1).f0)) := (blk_cell BK265.out 0).trans rfl; have hcz30_1 : w29.cell? ⟨gb265, 1, none⟩ = some (.int .i64 ((rd_T48 l1_2 x21_1).f1)) := (blk_cell BK265.out 1).trans rfl; have hcz30_2 : w29.cell? ⟨gb265, 2, none⟩ = some (.int .i64 ((rd_T48 l1_2 x21_1).f2)) := (blk_cell BK265.out 2).trans rfl; have hcz30_3 : w29.cell? ⟨gb265, 3, none⟩ = some (.int .i64 ((rd_T48 l1_2 x21_1).f3)) := (blk_cell BK265.out 3).trans rfl; have hcz30_4 : w29.cell? ⟨gb265, 4, none⟩ = some (.int .i64 (wrap64 (((rd_T48 l1_2 x21_1).f4) - 1))) := (blk_cell BK265.out 4).trans rfl; have hfz30_0 := blk_frozen BK265.out 0; have hfz30_1 := blk_frozen BK265.out 1; have hfz30_2 := blk_frozen BK265.out 2; have hfz30_3 := blk_frozen BK265.out 3; have hfz30_4 := blk_frozen BK265.out 4))
        replace HO_264002 := Aside0.mk (Kd.R_drew HO_264002.out)
        replace BK260 := Aside0.mk (blk_drew BK260.out)
        replace BK261 := Aside0.mk (blk_drew BK261.out)
        replace BK262 := Aside0.mk (blk_drew BK262.out)
        replace BK263 := Aside0.mk (blk_drew BK263.out)
        replace BK265 := Aside0.mk (blk_drew BK265.out)
        replace HB := Aside0.mk (below_drew1 HB.out)
        refine start2_ (n := 21) (S := fun w' => w'.cell? ⟨gb265, 0, none⟩ = some (.int .i64 ((rd_T48 l1_2 x21_1).f0)) ∧ w'.cell? ⟨gb265, 1, none⟩ = some (.int .i64 ((rd_T48 l1_2 x21_1).f1)) ∧ w'.cell? ⟨gb265, 2, none⟩ = some (.int .i64 ((rd_T48 l1_2 x21_1).f2)) ∧ w'.cell? ⟨gb265, 3, none⟩ = some (.int .i64 ((rd_T48 l1_2 x21_1).f3)) ∧ w'.cell? ⟨gb265, 4, none⟩ = some (.int .i64 (wrap64 (((rd_T48 l1_2 x21_1).f4) - 1)))) (T := fun w' => w'.cell? ⟨gb260, 0, none⟩ = some (.int .i64 a0_0) ∧ w'.cell? ⟨gb260, 1, none⟩ = some (.int .i64 a0_1) ∧ w'.cell? ⟨gb260, 2, none⟩ = some (.int .i64 a0_2) ∧ w'.cell? ⟨gb260, 3, none⟩ = some (.int .i64 a0_3) ∧ w'.cell? ⟨gb260, 4, none⟩ = some (.int .i64 a0_4) ∧ w'.cell? ⟨gb260, 5, none⟩ = some (.int .i64 a0_5) ∧ w'.cell? ⟨gb260, 6, none⟩ = some (.int .i64 a0_6)) (ds := [16, 18, 20]) #[false, false, false, false, false, false, false, false, false, false, false, false, false, false, false, false, false, false, false, false, false] (by kernel_rfl) rfl rfl ⟨(blk_cell BK265.out 0).trans rfl, (blk_cell BK265.out 1).trans rfl, (blk_cell BK265.out 2).trans rfl, (blk_cell BK265.out 3).trans rfl, (blk_cell BK265.out 4).trans rfl⟩ ⟨(blk_cell BK260.out 0).trans rfl, (blk_cell BK260.out 1).trans rfl, (blk_cell BK260.out 2).trans rfl, (blk_cell BK260.out 3).trans rfl, (blk_cell BK260.out 4).trans rfl, (blk_cell BK260.out 5).trans rfl, (blk_cell BK260.out 6).trans rfl⟩ (fun hHeld => ?_)
        generalize w29.drew = w31 at HO_264002 BK260 BK261 BK262 BK263 BK265 HB hHeld ⊢
        have hT := hHeld.2
        refine pure2_ (i := 0) (N := some 32) (v := ?_) (a' := ?_) #[true, false, false, false, false, false, false, false, false, false, false, false, false, false, false, false, false, false, false, false, false] rfl rfl (by kernel_rfl) (fun _ _ _ h => h) (Or.inl ⟨by rfl, ?_⟩) ?_ ?_
        rotate_left
        ·intro w'
         go_simp
         with_reducible rfl
        rotate_left
        ·simp only [Act.put, List.setIfInBounds_toArray, List.set_cons_zero, List.set_cons_succ, i64_w, i32_w]
         rfl
        refine pure2_ (i := 2) (N := some 34) (v := ?_) (a' := ?_) #[true, false, true, false, false, false, false, false, false, false, false, false, false, false, false, false, false, false, false, false, false] rfl rfl (by kernel_rfl) (fun _ _ _ h => h) (Or.inl ⟨by rfl, ?_⟩) ?_ ?_
        rotate_left
        ·intro w'
         go_simp
         with_reducible rfl
        rotate_left
        ·simp only [Act.put, List.setIfInBounds_toArray, List.set_cons_zero, List.set_cons_succ, i64_w, i32_w]
         rfl
        refine pure2_ (i := 5) (N := some 37) (v := ?_) (a' := ?_) #[true, false, true, false, false, true, false, false, false, false, false, false, false, false, false, false, false, false, false, false, false] rfl rfl (by kernel_rfl) (fun _ _ _ h => h) (Or.inl ⟨by rfl, ?_⟩) ?_ ?_
        rotate_left
        ·intro w'
         go_simp
         with_reducible rfl
        rotate_left
        ·simp only [Act.put, List.setIfInBounds_toArray, List.set_cons_zero, List.set_cons_succ, i64_w, i32_w]
         rfl
        refine pure2_ (i := 7) (N := some 39) (v := ?_) (a' := ?_) #[true, false, true, false, false, true, false, true, false, false, false, false, false, false, false, false, false, false, false, false, false] rfl rfl (by kernel_rfl) (fun _ _ _ h => h) (Or.inl ⟨by rfl, ?_⟩) ?_ ?_
        rotate_left
        ·intro w'
         go_simp
         with_reducible rfl
        rotate_left
        ·simp only [Act.put, List.setIfInBounds_toArray, List.set_cons_zero, List.set_cons_succ, i64_w, i32_w]
         rfl
        refine pure2_ (i := 10) (N := some 42) (v := ?_) (a' := ?_) #[true, false, true, false, false, true, false, true, false, false, true, false, false, false, false, false, false, false, false, false, false] rfl rfl (by kernel_rfl) (fun _ _ _ h => h) (Or.inl ⟨by rfl, ?_⟩) ?_ ?_
        rotate_left
        ·intro w'
         go_simp
         with_reducible rfl
        rotate_left
        ·simp only [Act.put, List.setIfInBounds_toArray, List.set_cons_zero, List.set_cons_succ, i64_w, i32_w]
         rfl
        refine pure2_ (i := 12) (N := some 44) (v := ?_) (a' := ?_) #[true, false, true, false, false, true, false, true, false, false, true, false, true, false, false, false, false, false, false, false, false] rfl rfl (by kernel_rfl) (fun _ _ _ h => h) (Or.inl ⟨by rfl, ?_⟩) ?_ ?_
        rotate_left
        ·intro w'
         go_simp
         with_reducible rfl
        rotate_left
        ·simp only [Act.put, List.setIfInBounds_toArray, List.set_cons_zero, List.set_cons_succ, i64_w, i32_w]
         rfl
        refine takeS_ (i := 1) (N := some 33) (v := ?_) (a' := ?_) #[true, true, true, false, false, true, false, true, false, false, true, false, true, false, false, false, false, false, false, false, false] rfl rfl (by kernel_rfl) (fun _ _ _ h => h) (Or.inl ⟨by rfl, ?_⟩) hHeld ?_ ?_
        rotate_left
        ·rintro w' ⟨⟨s0, s1, s2, s3, s4⟩, ⟨t0, t1, t2, t3, t4, t5, t6⟩⟩
         go_simp
         with_reducible rfl
        rotate_left
        ·simp only [Act.put, List.setIfInBounds_toArray, List.set_cons_zero, List.set_cons_succ, i64_w, i32_w]
         rfl
        refine takeS_ (i := 3) (N := some 35) (v := ?_) (a' := ?_) #[true, true, true, true, false, true, false, true, false, false, true, false, true, false, false, false, false, false, false, false, false] rfl rfl (by kernel_rfl) (fun _ _ _ h => h) (Or.inl ⟨by rfl, ?_⟩) hHeld ?_ ?_
        rotate_left
        ·rintro w' ⟨⟨s0, s1, s2, s3, s4⟩, ⟨t0, t1, t2, t3, t4, t5, t6⟩⟩
         go_simp
         with_reducible rfl
        rotate_left
        ·simp only [Act.put, List.setIfInBounds_toArray, List.set_cons_zero, List.set_cons_succ, i64_w, i32_w]
         rfl
        refine pure2_ (i := 4) (N := some 36) (v := ?_) (a' := ?_) #[true, true, true, true, true, true, false, true, false, false, true, false, true, false, false, false, false, false, false, false, false] rfl rfl (by kernel_rfl) (fun _ _ _ h => h) (Or.inl ⟨by rfl, ?_⟩) ?_ ?_
        rotate_left
        ·intro w'
         go_simp
         with_reducible rfl
        rotate_left
        ·simp only [Act.put, List.setIfInBounds_toArray, List.set_cons_zero, List.set_cons_succ, i64_w, i32_w]
         rfl
        refine takeS_ (i := 6) (N := some 38) (v := ?_) (a' := ?_) #[true, true, true, true, true, true, true, true, false, false, true, false, true, false, false, false, false, false, false, false, false] rfl rfl (by kernel_rfl) (fun _ _ _ h => h) (Or.inl ⟨by rfl, ?_⟩) hHeld ?_ ?_
        rotate_left
        ·rintro w' ⟨⟨s0, s1, s2, s3, s4⟩, ⟨t0, t1, t2, t3, t4, t5, t6⟩⟩
         go_simp
         with_reducible rfl
        rotate_left
        ·simp only [Act.put, List.setIfInBounds_toArray, List.set_cons_zero, List.set_cons_succ, i64_w, i32_w]
         rfl
        refine takeS_ (i := 8) (N := some 40) (v := ?_) (a' := ?_) #[true, true, true, true, true, true, true, true, true, false, true, false, true, false, false, false, false, false, false, false, false] rfl rfl (by kernel_rfl) (fun _ _ _ h => h) (Or.inl ⟨by rfl, ?_⟩) hHeld ?_ ?_
        rotate_left
        ·rintro w' ⟨⟨s0, s1, s2, s3, s4⟩, ⟨t0, t1, t2, t3, t4, t5, t6⟩⟩
         go_simp
         with_reducible rfl
        rotate_left
        ·simp only [Act.put, List.setIfInBounds_toArray, List.set_cons_zero, List.set_cons_succ, i64_w, i32_w]
         rfl
        refine pure2_ (i := 9) (N := some 41) (v := ?_) (a' := ?_) #[true, true, true, true, true, true, true, true, true, true, true, false, true, false, false, false, false, false, false, false, false] rfl rfl (by kernel_rfl) (fun _ _ _ h => h) (Or.inl ⟨by rfl, ?_⟩) ?_ ?_
        rotate_left
        ·intro w'
         go_simp
         with_reducible rfl
        rotate_left
        ·simp only [Act.put, List.setIfInBounds_toArray, List.set_cons_zero, List.set_cons_succ, i64_w, i32_w]
         rfl
        refine takeS_ (i := 11) (N := some 43) (v := ?_) (a' := ?_) #[true, true, true, true, true, true, true, true, true, true, true, true, true, false, false, false, false, false, false, false, false] rfl rfl (by kernel_rfl) (fun _ _ _ h => h) (Or.inl ⟨by rfl, ?_⟩) hHeld ?_ ?_
        rotate_left
        ·rintro w' ⟨⟨s0, s1, s2, s3, s4⟩, ⟨t0, t1, t2, t3, t4, t5, t6⟩⟩
         go_simp
         with_reducible rfl
        rotate_left
        ·simp only [Act.put, List.setIfInBounds_toArray, List.set_cons_zero, List.set_cons_succ, i64_w, i32_w]
         rfl
        refine pure2_ (i := 15) (N := some 47) (v := ?_) (a' := ?_) #[true, true, true, true, true, true, true, true, true, true, true, true, true, false, false, true, false, false, false, false, false] rfl rfl (by kernel_rfl) (fun _ _ _ h => h) (Or.inl ⟨by rfl, ?_⟩) ?_ ?_
        rotate_left
        ·intro w'
         go_simp
         with_reducible rfl
        rotate_left
        ·simp only [Act.put, List.setIfInBounds_toArray, List.set_cons_zero, List.set_cons_succ, i64_w, i32_w]
         rfl
        refine takeT_ (i := 13) (N := some 45) (v := ?_) (a' := ?_) #[true, true, true, true, true, true, true, true, true, true, true, true, true, true, false, true, false, false, false, false, false] rfl rfl (by kernel_rfl) (fun _ _ _ h => h) (Or.inl ⟨by rfl, ?_⟩) hT ?_ ?_
        rotate_left
        ·rintro w' ⟨t0, t1, t2, t3, t4, t5, t6⟩
         go_simp
         with_reducible rfl
        rotate_left
        ·simp only [Act.put, List.setIfInBounds_toArray, List.set_cons_zero, List.set_cons_succ, i64_w, i32_w]
         rfl
        refine pure2_ (i := 14) (N := some 46) (v := ?_) (a' := ?_) #[true, true, true, true, true, true, true, true, true, true, true, true, true, true, true, true, false, false, false, false, false] rfl rfl (by kernel_rfl) (fun _ _ _ h => h) (Or.inl ⟨by rfl, ?_⟩) ?_ ?_
        rotate_left
        ·intro w'
         go_simp
         with_reducible rfl
        rotate_left
        ·simp only [Act.put, List.setIfInBounds_toArray, List.set_cons_zero, List.set_cons_succ, i64_w, i32_w]
         rfl
        refine last2_ (i := 16) (N := none) #[true, true, true, true, true, true, true, true, true, true, true, true, true, true, true, true, true, false, false, false, false] rfl rfl (by kernel_rfl) (by decide) (fun K hK => ?_)
        have hs32 : w31.cell? ⟨gb265, 0, none⟩ = some (.int .i64 ((rd_T48 l1_2 x21_1).f0)) := (blk_cell BK265.out 0).trans rfl
        have hfs32 := blk_frozen BK265.out 0
        have hns32_0 := NB260_265.out
        have hns32_1 := NB261_265.out
        have hns32_2 := NB262_265.out
        have hns32_3 := NB263_265.out
        have hms32_0 := NB265_260.out
        have hms32_1 := NB265_261.out
        have hms32_2 := NB265_262.out
        have hms32_3 := NB265_263.out
        refine skip_ (w1 := ?_) (by rfl) rfl ?_ ?_
        rotate_left
        ·go_simp
         rfl
        refine hK.out _ _ ⟨((cell_far (p := ⟨gb265, _, none⟩) NB260_265.out _).trans (hT.1)), ((cell_far (p := ⟨gb265, _, none⟩) NB260_265.out _).trans (hT.2.1)), ((cell_far (p := ⟨gb265, _, none⟩) NB260_265.out _).trans (hT.2.2.1)), ((cell_far (p := ⟨gb265, _, none⟩) NB260_265.out _).trans (hT.2.2.2.1)), ((cell_far (p := ⟨gb265, _, none⟩) NB260_265.out _).trans (hT.2.2.2.2.1)), ((cell_far (p := ⟨gb265, _, none⟩) NB260_265.out _).trans (hT.2.2.2.2.2.1)), ((cell_far (p := ⟨gb265, _, none⟩) NB260_265.out _).trans (hT.2.2.2.2.2.2))⟩ (fun hT => ?_)
        clear hK K
        refine pure2_ (i := 17) (N := some 48) (v := ?_) (a' := ?_) #[true, true, true, true, true, true, true, true, true, true, true, true, true, true, true, true, true, true, false, false, false] rfl rfl (by kernel_rfl) (fun _ _ _ h => h) (Or.inl ⟨by rfl, ?_⟩) ?_ ?_
        rotate_left
        ·intro w'
         go_simp
         with_reducible rfl
        rotate_left
        ·simp only [Act.put, List.setIfInBounds_toArray, List.set_cons_zero, List.set_cons_succ, i64_w, i32_w]
         rfl
        refine last2_ (i := 18) (N := none) #[true, true, true, true, true, true, true, true, true, true, true, true, true, true, true, true, true, true, true, false, false] rfl rfl (by kernel_rfl) (by decide) (fun K hK => ?_)
        have hs33 : w31.cell? ⟨gb265, 1, none⟩ = some (.int .i64 ((rd_T48 l1_2 x21_1).f1)) := (blk_cell BK265.out 1).trans rfl
        have hfs33 := blk_frozen BK265.out 1
        have hns33_0 := NB260_265.out
        have hns33_1 := NB261_265.out
        have hns33_2 := NB262_265.out
        have hns33_3 := NB263_265.out
        have hms33_0 := NB265_260.out
        have hms33_1 := NB265_261.out
        have hms33_2 := NB265_262.out
        have hms33_3 := NB265_263.out
        refine skip_ (w1 := ?_) (by rfl) rfl ?_ ?_
        rotate_left
        ·go_simp
         rfl
        refine hK.out _ _ ⟨((cell_far (p := ⟨gb265, _, none⟩) NB260_265.out _).trans (hT.1)), ((cell_far (p := ⟨gb265, _, none⟩) NB260_265.out _).trans (hT.2.1)), ((cell_far (p := ⟨gb265, _, none⟩) NB260_265.out _).trans (hT.2.2.1)), ((cell_far (p := ⟨gb265, _, none⟩) NB260_265.out _).trans (hT.2.2.2.1)), ((cell_far (p := ⟨gb265, _, none⟩) NB260_265.out _).trans (hT.2.2.2.2.1)), ((cell_far (p := ⟨gb265, _, none⟩) NB260_265.out _).trans (hT.2.2.2.2.2.1)), ((cell_far (p := ⟨gb265, _, none⟩) NB260_265.out _).trans (hT.2.2.2.2.2.2))⟩ (fun hT => ?_)
        clear hK K
        refine pure2_ (i := 19) (N := some 49) (v := ?_) (a' := ?_) #[true, true, true, true, true, true, true, true, true, true, true, true, true, true, true, true, true, true, true, true, false] rfl rfl (by kernel_rfl) (fun _ _ _ h => h) (Or.inl ⟨by rfl, ?_⟩) ?_ ?_
        rotate_left
        ·intro w'
         go_simp
         with_reducible rfl
        rotate_left
        ·simp only [Act.put, List.setIfInBounds_toArray, List.set_cons_zero, List.set_cons_succ, i64_w, i32_w]
         rfl
        refine last2_ (i := 20) (N := none) #[true, true, true, true, true, true, true, true, true, true, true, true, true, true, true, true, true, true, true, true, true] rfl rfl (by kernel_rfl) (by decide) (fun K hK => ?_)
        have hs34 : w31.cell? ⟨gb265, 3, none⟩ = some (.int .i64 ((rd_T48 l1_2 x21_1).f3)) := (blk_cell BK265.out 3).trans rfl
        have hfs34 := blk_frozen BK265.out 3
        have hns34_0 := NB260_265.out
        have hns34_1 := NB261_265.out
        have hns34_2 := NB262_265.out
        have hns34_3 := NB263_265.out
        have hms34_0 := NB265_260.out
        have hms34_1 := NB265_261.out
        have hms34_2 := NB265_262.out
        have hms34_3 := NB265_263.out
        refine skip_ (w1 := ?_) (by rfl) rfl ?_ ?_
        rotate_left
        ·go_simp
         rfl
        refine hK.out _ _ ⟨((cell_far (p := ⟨gb265, _, none⟩) NB260_265.out _).trans (hT.1)), ((cell_far (p := ⟨gb265, _, none⟩) NB260_265.out _).trans (hT.2.1)), ((cell_far (p := ⟨gb265, _, none⟩) NB260_265.out _).trans (hT.2.2.1)), ((cell_far (p := ⟨gb265, _, none⟩) NB260_265.out _).trans (hT.2.2.2.1)), ((cell_far (p := ⟨gb265, _, none⟩) NB260_265.out _).trans (hT.2.2.2.2.1)), ((cell_far (p := ⟨gb265, _, none⟩) NB260_265.out _).trans (hT.2.2.2.2.2.1)), ((cell_far (p := ⟨gb265, _, none⟩) NB260_265.out _).trans (hT.2.2.2.2.2.2))⟩ (fun hT => ?_)
        clear hK K
        refine done2_ (by kernel_rfl) ?_
        have hnb35 := NB263_260.out
        have hnc35 := NB260_263.out
        have hnb36 := NB263_261.out
        have hnc36 := NB261_263.out
        have hnb37 := NB263_262.out
        have hnc37 := NB262_263.out
        have hcz38_0 : w31.cell? ⟨gb263, 0, none⟩ = some (.int .i64 a1_0) := (blk_cell BK263.out 0).trans rfl
        have hcz38_1 : w31.cell? ⟨gb263, 1, none⟩ = some (.int .i64 (wrap64 (a1_1 + 1))) := (blk_cell BK263.out 1).trans rfl
        have hcz38_2 : w31.cell? ⟨gb263, 2, none⟩ = some (u264002) := (blk_cell BK263.out 2).trans rfl
        have hfz38_0 := blk_frozen BK263.out 0
        have hfz38_1 := blk_frozen BK263.out 1
        have hfz38_2 := blk_frozen BK263.out 2
        have hcz39_0 : w31.cell? ⟨gb265, 0, none⟩ = some (.int .i64 ((rd_T48 l1_2 x21_1).f0)) := (blk_cell BK265.out 0).trans rfl
        have hcz39_1 : w31.cell? ⟨gb265, 1, none⟩ = some (.int .i64 ((rd_T48 l1_2 x21_1).f1)) := (blk_cell BK265.out 1).trans rfl
        have hcz39_2 : w31.cell? ⟨gb265, 2, none⟩ = some (.int .i64 ((rd_T48 l1_2 x21_1).f2)) := (blk_cell BK265.out 2).trans rfl
        have hcz39_3 : w31.cell? ⟨gb265, 3, none⟩ = some (.int .i64 ((rd_T48 l1_2 x21_1).f3)) := (blk_cell BK265.out 3).trans rfl
        have hcz39_4 : w31.cell? ⟨gb265, 4, none⟩ = some (.int .i64 (wrap64 (((rd_T48 l1_2 x21_1).f4) - 1))) := (blk_cell BK265.out 4).trans rfl
        have hfz39_0 := blk_frozen BK265.out 0
        have hfz39_1 := blk_frozen BK265.out 1
        have hfz39_2 := blk_frozen BK265.out 2
        have hfz39_3 := blk_frozen BK265.out 3
        have hfz39_4 := blk_frozen BK265.out 4
        try go_wp2_with (first | ((with_reducible refine gate_builtin (b := .append) (xs := #[.tmp 51, .tmp 53]) rfl ?_); (try (refine gate_guard (by rfl) ?_; dsimp only)); at_builtin; refine Kd.R_append k48 (w0 := w) w.heap.size rfl (.tmp 51) (.tmp 53) 33 48 (.agg #[(.int .i64 0), (.int .i64 0), (.int .i64 0), (.int .i64 0), (.int .i64 0)]) 40 rfl Try.underlying33 info48 rfl (by decide) (by omega) u264002 x264002_1 (⟨wrap64 (((rd_T48 l1_2 x21_1).f0) + ((rd_T48 l1_2 x21_1).f2)), wrap64 (((rd_T48 l1_2 x21_1).f1) + ((rd_T48 l1_2 x21_1).f3)), (rd_T48 l1_2 x21_1).f2, wrap64 (((rd_T48 l1_2 x21_1).f3) - a0_6), wrap64 (((rd_T48 l1_2 x21_1).f4) - 1)⟩ : S48) [.int .i64 (wrap64 (((rd_T48 l1_2 x21_1).f0) + ((rd_T48 l1_2 x21_1).f2))), .int .i64 (wrap64 (((rd_T48 l1_2 x21_1).f1) + ((rd_T48 l1_2 x21_1).f3))), .int .i64 ((rd_T48 l1_2 x21_1).f2), .int .i64 (wrap64 (((rd_T48 l1_2 x21_1).f3) - a0_6)), .int .i64 (wrap64 (((rd_T48 l1_2 x21_1).f4) - 1))] (fun k_ => k_ ≠ gb265) (fun _ => False) rfl (by first | (go_simp; done) | (go_simp; rfl)) ?aP (fun _ hk => hk.elim) ?aF ?aO ?aB ?aS ?aL ?_; (case aP => exact k48_mkM _ _ _ (⟨wrap64 (((rd_T48 l1_2 x21_1).f0) + ((rd_T48 l1_2 x21_1).f2)), wrap64 (((rd_T48 l1_2 x21_1).f1) + ((rd_T48 l1_2 x21_1).f3)), (rd_T48 l1_2 x21_1).f2, wrap64 (((rd_T48 l1_2 x21_1).f3) - a0_6), wrap64 (((rd_T48 l1_2 x21_1).f4) - 1)⟩ : S48)); (case aB => exact (lU5 GE260.out GE261.out GE262.out GE263.out GE265.out)); (case aF => exact (fun k_ hk => Kd.freshB (g := gb265) (o := .cells #[.int .i64 (wrap64 (((rd_T48 l1_2 x21_1).f0) + ((rd_T48 l1_2 x21_1).f2))), .int .i64 (wrap64 (((rd_T48 l1_2 x21_1).f1) + ((rd_T48 l1_2 x21_1).f3))), .int .i64 ((rd_T48 l1_2 x21_1).f2), .int .i64 (wrap64 (((rd_T48 l1_2 x21_1).f3) - a0_6)), .int .i64 (wrap64 (((rd_T48 l1_2 x21_1).f4) - 1))] 48 (0, 0)) (by refine bU ?_; refine blk_put (cs := #[.int .i64 (wrap64 (((rd_T48 l1_2 x21_1).f0) + ((rd_T48 l1_2 x21_1).f2))), .int .i64 (wrap64 (((rd_T48 l1_2 x21_1).f1) + ((rd_T48 l1_2 x21_1).f3))), .int .i64 ((rd_T48 l1_2 x21_1).f2), .int .i64 ((rd_T48 l1_2 x21_1).f3), .int .i64 (wrap64 (((rd_T48 l1_2 x21_1).f4) - 1))]) ?_ 3 _ rfl; refine bU ?_; refine blk_put (cs := #[.int .i64 (wrap64 (((rd_T48 l1_2 x21_1).f0) + ((rd_T48 l1_2 x21_1).f2))), .int .i64 ((rd_T48 l1_2 x21_1).f1), .int .i64 ((rd_T48 l1_2 x21_1).f2), .int .i64 ((rd_T48 l1_2 x21_1).f3), .int .i64 (wrap64 (((rd_T48 l1_2 x21_1).f4) - 1))]) ?_ 1 _ rfl; refine bU ?_; refine blk_put (cs := #[.int .i64 ((rd_T48 l1_2 x21_1).f0), .int .i64 ((rd_T48 l1_2 x21_1).f1), .int .i64 ((rd_T48 l1_2 x21_1).f2), .int .i64 ((rd_T48 l1_2 x21_1).f3), .int .i64 (wrap64 (((rd_T48 l1_2 x21_1).f4) - 1))]) ?_ 0 _ rfl; refine bU ?_; exact BK265.out) k_ hk)); (case aO => exact (by (with_reducible repeat (first | apply Kd.R_alloc | apply Kd.R_drewN | apply Kd.R_drew)); exact Kd.R_mono (Kd.R_far (p := ⟨gb265, 3, none⟩) (Kd.R_far (p := ⟨gb265, 1, none⟩) (Kd.R_far (p := ⟨gb265, 0, none⟩) (Kd.R_mono HO_264002.out (fun k_ hk => (⟨hk, hk⟩ : _ ∧ k_ ≠ gb265))) (fun _ hk => hk.2) (.int .i64 (wrap64 (((rd_T48 l1_2 x21_1).f0) + ((rd_T48 l1_2 x21_1).f2))))) (fun _ hk => hk.2) (.int .i64 (wrap64 (((rd_T48 l1_2 x21_1).f1) + ((rd_T48 l1_2 x21_1).f3))))) (fun _ hk => hk.2) (.int .i64 (wrap64 (((rd_T48 l1_2 x21_1).f3) - a0_6)))) (fun _ hk => hk.1))); (case aS => exact (below_size (lU5 GE260.out GE261.out GE262.out GE263.out GE265.out))); (case aL => have := LMc20.out; omega); intro v267 w40 ho hb hg hat; rw [← Ny266.out] at ho; replace BK260 := Aside0.mk (blk_grown (g := gb260) (o := .cells #[.int .i64 a0_0, .int .i64 a0_1, .int .i64 a0_2, .int .i64 a0_3, .int .i64 a0_4, .int .i64 a0_5, .int .i64 a0_6] 26 (0, 0)) (bF NB260_265.out BK260.out) hg (Kd.R_ne HO_264002.out BK260.out (by decide))); replace BK261 := Aside0.mk (blk_grown (g := gb261) (o := .cells #[.int .i64 a1_0, .int .i64 a1_1, .slice (some ad264) l1_2.length c1_2] 35 (0, 0)) (bF NB261_265.out BK261.out) hg (Kd.R_ne HO_264002.out BK261.out (by decide))); replace BK262 := Aside0.mk (blk_grown (g := gb262) (o := .cells #[.int .i64 0, .int .i64 0, .slice none 0 0] 35 (0, 0)) (bF NB262_265.out BK262.out) hg (Kd.R_ne HO_264002.out BK262.out (by decide))); replace BK263 := Aside0.mk (blk_grown (g := gb263) (o := .cells #[.int .i64 a1_0, .int .i64 (wrap64 (a1_1 + 1)), u264002] 35 (0, 0)) (bF NB263_265.out BK263.out) hg (Kd.R_ne HO_264002.out BK263.out (by decide))); replace BK265 := Aside0.mk (blk_grown (g := gb265) (o := .cells #[.int .i64 (wrap64 (((rd_T48 l1_2 x21_1).f0) + ((rd_T48 l1_2 x21_1).f2))), .int .i64 (wrap64 (((rd_T48 l1_2 x21_1).f1) + ((rd_T48 l1_2 x21_1).f3))), .int .i64 ((rd_T48 l1_2 x21_1).f2), .int .i64 (wrap64 (((rd_T48 l1_2 x21_1).f3) - a0_6)), .int .i64 (wrap64 (((rd_T48 l1_2 x21_1).f4) - 1))] 48 (0, 0)) (by refine bU ?_; refine blk_put (cs := #[.int .i64 (wrap64 (((rd_T48 l1_2 x21_1).f0) + ((rd_T48 l1_2 x21_1).f2))), .int .i64 (wrap64 (((rd_T48 l1_2 x21_1).f1) + ((rd_T48 l1_2 x21_1).f3))), .int .i64 ((rd_T48 l1_2 x21_1).f2), .int .i64 ((rd_T48 l1_2 x21_1).f3), .int .i64 (wrap64 (((rd_T48 l1_2 x21_1).f4) - 1))]) ?_ 3 _ rfl; refine bU ?_; refine blk_put (cs := #[.int .i64 (wrap64 (((rd_T48 l1_2 x21_1).f0) + ((rd_T48 l1_2 x21_1).f2))), .int .i64 ((rd_T48 l1_2 x21_1).f1), .int .i64 ((rd_T48 l1_2 x21_1).f2), .int .i64 ((rd_T48 l1_2 x21_1).f3), .int .i64 (wrap64 (((rd_T48 l1_2 x21_1).f4) - 1))]) ?_ 1 _ rfl; refine bU ?_; refine blk_put (cs := #[.int .i64 ((rd_T48 l1_2 x21_1).f0), .int .i64 ((rd_T48 l1_2 x21_1).f1), .int .i64 ((rd_T48 l1_2 x21_1).f2), .int .i64 ((rd_T48 l1_2 x21_1).f3), .int .i64 (wrap64 (((rd_T48 l1_2 x21_1).f4) - 1))]) ?_ 0 _ rfl; refine bU ?_; exact BK265.out) hg (Kd.R_away HO_264002.out (fun _ hk => hk))); replace HB := Aside0.mk hb; have HO268 := Aside0.mk ho; clear HO_264002; clear ho hb hg hat; obtain ⟨Ao41, co41, eo41⟩ := Kd.R_slice HO268.out; subst eo41; have hcz42_0 : w40.cell? ⟨gb263, 0, none⟩ = some (.int .i64 a1_0) := (blk_cell BK263.out 0).trans rfl; have hcz42_1 : w40.cell? ⟨gb263, 1, none⟩ = some (.int .i64 (wrap64 (a1_1 + 1))) := (blk_cell BK263.out 1).trans rfl; have hcz42_2 : w40.cell? ⟨gb263, 2, none⟩ = some (u264002) := (blk_cell BK263.out 2).trans rfl; have hfz42_0 := blk_frozen BK263.out 0; have hfz42_1 := blk_frozen BK263.out 1; have hfz42_2 := blk_frozen BK263.out 2) | ((with_reducible refine gate_store (t := 33) (p := 55) rfl ?_); refine store_event (t := 33) (p := 55) (v := ?vo_w43) (w1 := (w40.setCell ⟨gb263, 2, none⟩ (.slice Ao41 y266.length co41))) ?hg ?ho ?hn ?hr ?_; (case ho => rfl); (case hg => rfl); (case hn => rfl); (case hr => first | (go_simp; done) | (go_simp; rfl) | (have hq0_ := (blk_cell BK263.out 2).trans (show _ = some _ from rfl); have hf0_ := blk_frozen BK263.out 2; first | (go_simp; done) | (go_simp; rfl))); intro w43 hw; replace HO268 : Aside0 (Kd.R k48 48 w43 w.heap.size (fun k_ => k_ ≠ gb265) (.slice Ao41 y266.length co41) y266) := ⟨(by rw [hw]; exact (by (with_reducible repeat (first | apply Kd.R_alloc | apply Kd.R_drewN | apply Kd.R_drew)); exact Kd.R_mono (Kd.R_far (p := ⟨gb263, 2, none⟩) (Kd.R_types HO268.out BK263.out (by decide)) (fun _ hk => hk.2) (.slice Ao41 y266.length co41)) (fun _ hk => hk.1)))⟩; replace BK260 : Aside0 (w43.heap[gb260]? = some (.cells #[.int .i64 a0_0, .int .i64 a0_1, .int .i64 a0_2, .int .i64 a0_3, .int .i64 a0_4, .int .i64 a0_5, .int .i64 a0_6] 26 (0, 0))) := ⟨(by rw [hw]; exact (bF NB260_263.out BK260.out))⟩; replace BK261 : Aside0 (w43.heap[gb261]? = some (.cells #[.int .i64 a1_0, .int .i64 a1_1, .slice (some ad264) l1_2.length c1_2] 35 (0, 0))) := ⟨(by rw [hw]; exact (bF NB261_263.out BK261.out))⟩; replace BK262 : Aside0 (w43.heap[gb262]? = some (.cells #[.int .i64 0, .int .i64 0, .slice none 0 0] 35 (0, 0))) := ⟨(by rw [hw]; exact (bF NB262_263.out BK262.out))⟩; replace BK263 : Aside0 (w43.heap[gb263]? = some (.cells #[.int .i64 a1_0, .int .i64 (wrap64 (a1_1 + 1)), .slice Ao41 y266.length co41] 35 (0, 0))) := ⟨(by rw [hw]; exact (by refine bU ?_; refine blk_put (cs := #[.int .i64 a1_0, .int .i64 (wrap64 (a1_1 + 1)), u264002]) ?_ 2 _ rfl; refine bU ?_; exact BK263.out))⟩; replace BK265 : Aside0 (w43.heap[gb265]? = some (.cells #[.int .i64 (wrap64 (((rd_T48 l1_2 x21_1).f0) + ((rd_T48 l1_2 x21_1).f2))), .int .i64 (wrap64 (((rd_T48 l1_2 x21_1).f1) + ((rd_T48 l1_2 x21_1).f3))), .int .i64 ((rd_T48 l1_2 x21_1).f2), .int .i64 (wrap64 (((rd_T48 l1_2 x21_1).f3) - a0_6)), .int .i64 (wrap64 (((rd_T48 l1_2 x21_1).f4) - 1))] 48 (0, 0))) := ⟨(by rw [hw]; exact (bF NB265_263.out BK265.out))⟩; replace HB : Aside0 (Below w.heap.size w w43) := ⟨(by rw [hw]; exact (lU5 GE260.out GE261.out GE262.out GE263.out GE265.out))⟩; clear hw))
        go_roundg k1
        case measure => have := HK1.out; omega
        case rel => exact ⟨(wrap64 (x21_1 + 1)), (y266), (.slice Ao41 y266.length co41), tE, H', ⟨by have := HK1.out; omega⟩, ⟨by (with_reducible repeat (first | apply Kd.R_alloc | apply Kd.R_drewN | apply Kd.R_drew)); exact Kd.R_mono HO268.out (fun _ hk => trivial)⟩, ⟨by refine bU ?_; exact BK260.out⟩, ⟨by refine bU ?_; exact BK261.out⟩, ⟨by refine bU ?_; exact BK262.out⟩, ⟨by refine bU ?_; exact BK263.out⟩, ⟨by repeat (first | (with_reducible first | exact HB.out | apply below_alloc | apply pw_below_drewN | apply below_drew1 | refine below_set ?_ GE260.out | refine below_set ?_ GE261.out | refine below_set ?_ GE262.out | refine below_set ?_ GE263.out | refine below_set ?_ GE265.out) | exact HB.out)⟩⟩
       ·rw [if_neg c20] at H
        exact absurd H (by simp)
      ·rw [if_neg c19] at H
       have c19b0 : decide (0 < (wrap64 (((rd_T48 l1_2 x21_1).f4) - 1))) = false := decide_eq_false c19
       clear c19
       have H' := Aside0.mk H
       clear H
       have p264 : 0 ≤ (x21_1 : Int) := of_decide_eq_true hE
       have q264 : x21_1 < (l1_2.length : Int) := of_decide_eq_true hE
       obtain ⟨ad264, e264, hx264_0, hx264_1, hx264_2, hx264_3, hx264_4⟩ := at_T48 HR1_2.out x21_1 p264 q264
       cases e264
       replace hx264_0 := (HB.out.cell (World.block_lt_of_cell? w _ hx264_0)).trans hx264_0
       replace hx264_1 := (HB.out.cell (World.block_lt_of_cell? w _ hx264_1)).trans hx264_1
       replace hx264_2 := (HB.out.cell (World.block_lt_of_cell? w _ hx264_2)).trans hx264_2
       replace hx264_3 := (HB.out.cell (World.block_lt_of_cell? w _ hx264_3)).trans hx264_3
       replace hx264_4 := (HB.out.cell (World.block_lt_of_cell? w _ hx264_4)).trans hx264_4
       replace p264 := eq_true p264
       replace q264 := eq_true q264
       go_wp2_with (first | ((with_reducible refine gate_dst (N := 8) rfl ?_); (try (refine gate_guard (by rfl) ?_; dsimp only)); refine box_event rfl (N := 8) rfl (cs := #[.int .i64 0, .int .i64 0, .int .i64 0, .int .i64 0, .int .i64 0]) (t := 48) sE ?_; intro gb265 hg w44 hbox hb; replace HO_264002 := Aside0.mk (Kd.R_below (Kd.R_elderB (rU HO_264002.out) gb265 (Nat.le_of_eq hg.symm)) hb); have BK265 := Aside0.mk hbox; have GW265 := gS w hg (lU4 GE260.out GE261.out GE262.out GE263.out); have GE265 := GW265; replace HB := Aside0.mk (below_step (lU4 GE260.out GE261.out GE262.out GE263.out) hb); have NB260_265 := nL hg (bU BK260.out); have NB265_260 := nG hg (bU BK260.out); replace BK260 := Aside0.mk (blk_below (bU BK260.out) hb); have NB261_265 := nL hg (bU BK261.out); have NB265_261 := nG hg (bU BK261.out); replace BK261 := Aside0.mk (blk_below (bU BK261.out) hb); have NB262_265 := nL hg (bU BK262.out); have NB265_262 := nG hg (bU BK262.out); replace BK262 := Aside0.mk (blk_below (bU BK262.out) hb); have NB263_265 := nL hg (bU BK263.out); have NB265_263 := nG hg (bU BK263.out); replace BK263 := Aside0.mk (blk_below (bU BK263.out) hb); clear hb hbox hg; have hnb45 := NB265_260.out; have hnc45 := NB260_265.out; have hnb46 := NB265_261.out; have hnc46 := NB261_265.out; have hnb47 := NB265_262.out; have hnc47 := NB262_265.out; have hnb48 := NB265_263.out; have hnc48 := NB263_265.out; have hcz49_0 : w44.cell? ⟨gb265, 0, none⟩ = some (.int .i64 0) := (blk_cell BK265.out 0).trans rfl; have hcz49_1 : w44.cell? ⟨gb265, 1, none⟩ = some (.int .i64 0) := (blk_cell BK265.out 1).trans rfl; have hcz49_2 : w44.cell? ⟨gb265, 2, none⟩ = some (.int .i64 0) := (blk_cell BK265.out 2).trans rfl; have hcz49_3 : w44.cell? ⟨gb265, 3, none⟩ = some (.int .i64 0) := (blk_cell BK265.out 3).trans rfl; have hcz49_4 : w44.cell? ⟨gb265, 4, none⟩ = some (.int .i64 0) := (blk_cell BK265.out 4).trans rfl; have hfz49_0 := blk_frozen BK265.out 0; have hfz49_1 := blk_frozen BK265.out 1; have hfz49_2 := blk_frozen BK265.out 2; have hfz49_3 := blk_frozen BK265.out 3; have hfz49_4 := blk_frozen BK265.out 4) | ((with_reducible refine gate_store (t := 48) (p := 8) rfl ?_); refine store_event (t := 48) (p := 8) (v := ?vo_w50) (w1 := (((((w44.setCell ⟨gb265, 0, none⟩ (.int .i64 ((rd_T48 l1_2 x21_1).f0))).setCell ⟨gb265, 1, none⟩ (.int .i64 ((rd_T48 l1_2 x21_1).f1))).setCell ⟨gb265, 2, none⟩ (.int .i64 ((rd_T48 l1_2 x21_1).f2))).setCell ⟨gb265, 3, none⟩ (.int .i64 ((rd_T48 l1_2 x21_1).f3))).setCell ⟨gb265, 4, none⟩ (.int .i64 ((rd_T48 l1_2 x21_1).f4)))) ?hg ?ho ?hn ?hr ?_; (case ho => rfl); (case hg => rfl); (case hn => rfl); (case hr => first | (go_simp; done) | (go_simp; rfl) | (have hq0_ := (blk_cell BK265.out 0).trans (show _ = some _ from rfl); have hf0_ := blk_frozen BK265.out 0; have hq1_ := (blk_cell BK265.out 1).trans (show _ = some _ from rfl); have hf1_ := blk_frozen BK265.out 1; have hq2_ := (blk_cell BK265.out 2).trans (show _ = some _ from rfl); have hf2_ := blk_frozen BK265.out 2; have hq3_ := (blk_cell BK265.out 3).trans (show _ = some _ from rfl); have hf3_ := blk_frozen BK265.out 3; have hq4_ := (blk_cell BK265.out 4).trans (show _ = some _ from rfl); have hf4_ := blk_frozen BK265.out 4; first | (go_simp; done) | (go_simp; rfl))); intro w50 hw; replace HO_264002 : Aside0 (Kd.R k48 48 w50 w.heap.size (fun k_ => k_ ≠ gb265) u264002 x264002_1) := ⟨(by rw [hw]; exact (by (with_reducible repeat (first | apply Kd.R_alloc | apply Kd.R_drewN | apply Kd.R_drew)); exact Kd.R_mono (Kd.R_far (p := ⟨gb265, 4, none⟩) (Kd.R_far (p := ⟨gb265, 3, none⟩) (Kd.R_far (p := ⟨gb265, 2, none⟩) (Kd.R_far (p := ⟨gb265, 1, none⟩) (Kd.R_far (p := ⟨gb265, 0, none⟩) (Kd.R_mono HO_264002.out (fun k_ hk => (⟨hk, hk.2⟩ : _ ∧ k_ ≠ gb265))) (fun _ hk => hk.2) (.int .i64 ((rd_T48 l1_2 x21_1).f0))) (fun _ hk => hk.2) (.int .i64 ((rd_T48 l1_2 x21_1).f1))) (fun _ hk => hk.2) (.int .i64 ((rd_T48 l1_2 x21_1).f2))) (fun _ hk => hk.2) (.int .i64 ((rd_T48 l1_2 x21_1).f3))) (fun _ hk => hk.2) (.int .i64 ((rd_T48 l1_2 x21_1).f4))) (fun _ hk => hk.1.2)))⟩; replace BK260 : Aside0 (w50.heap[gb260]? = some (.cells #[.int .i64 a0_0, .int .i64 a0_1, .int .i64 a0_2, .int .i64 a0_3, .int .i64 a0_4, .int .i64 a0_5, .int .i64 a0_6] 26 (0, 0))) := ⟨(by rw [hw]; exact (bF NB260_265.out BK260.out))⟩; replace BK261 : Aside0 (w50.heap[gb261]? = some (.cells #[.int .i64 a1_0, .int .i64 a1_1, .slice (some ad264) l1_2.length c1_2] 35 (0, 0))) := ⟨(by rw [hw]; exact (bF NB261_265.out BK261.out))⟩; replace BK262 : Aside0 (w50.heap[gb262]? = some (.cells #[.int .i64 0, .int .i64 0, .slice none 0 0] 35 (0, 0))) := ⟨(by rw [hw]; exact (bF NB262_265.out BK262.out))⟩; replace BK263 : Aside0 (w50.heap[gb263]? = some (.cells #[.int .i64 a1_0, .int .i64 (wrap64 (a1_1 + 1)), u264002] 35 (0, 0))) := ⟨(by rw [hw]; exact (bF NB263_265.out BK263.out))⟩; replace BK265 : Aside0 (w50.heap[gb265]? = some (.cells #[.int .i64 ((rd_T48 l1_2 x21_1).f0), .int .i64 ((rd_T48 l1_2 x21_1).f1), .int .i64 ((rd_T48 l1_2 x21_1).f2), .int .i64 ((rd_T48 l1_2 x21_1).f3), .int .i64 ((rd_T48 l1_2 x21_1).f4)] 48 (0, 0))) := ⟨(by rw [hw]; exact (by refine bU ?_; refine blk_put (cs := #[.int .i64 ((rd_T48 l1_2 x21_1).f0), .int .i64 ((rd_T48 l1_2 x21_1).f1), .int .i64 ((rd_T48 l1_2 x21_1).f2), .int .i64 ((rd_T48 l1_2 x21_1).f3), .int .i64 0]) ?_ 4 _ rfl; refine bU ?_; refine blk_put (cs := #[.int .i64 ((rd_T48 l1_2 x21_1).f0), .int .i64 ((rd_T48 l1_2 x21_1).f1), .int .i64 ((rd_T48 l1_2 x21_1).f2), .int .i64 0, .int .i64 0]) ?_ 3 _ rfl; refine bU ?_; refine blk_put (cs := #[.int .i64 ((rd_T48 l1_2 x21_1).f0), .int .i64 ((rd_T48 l1_2 x21_1).f1), .int .i64 0, .int .i64 0, .int .i64 0]) ?_ 2 _ rfl; refine bU ?_; refine blk_put (cs := #[.int .i64 ((rd_T48 l1_2 x21_1).f0), .int .i64 0, .int .i64 0, .int .i64 0, .int .i64 0]) ?_ 1 _ rfl; refine bU ?_; refine blk_put (cs := #[.int .i64 0, .int .i64 0, .int .i64 0, .int .i64 0, .int .i64 0]) ?_ 0 _ rfl; refine bU ?_; exact BK265.out))⟩; replace HB : Aside0 (Below w.heap.size w w50) := ⟨(by rw [hw]; exact (lU5 GE260.out GE261.out GE262.out GE263.out GE265.out))⟩; clear hw; have hcz51_0 : w50.cell? ⟨gb265, 0, none⟩ = some (.int .i64 ((rd_T48 l1_2 x21_1).f0)) := (blk_cell BK265.out 0).trans rfl; have hcz51_1 : w50.cell? ⟨gb265, 1, none⟩ = some (.int .i64 ((rd_T48 l1_2 x21_1).f1)) := (blk_cell BK265.out 1).trans rfl; have hcz51_2 : w50.cell? ⟨gb265, 2, none⟩ = some (.int .i64 ((rd_T48 l1_2 x21_1).f2)) := (blk_cell BK265.out 2).trans rfl; have hcz51_3 : w50.cell? ⟨gb265, 3, none⟩ = some (.int .i64 ((rd_T48 l1_2 x21_1).f3)) := (blk_cell BK265.out 3).trans rfl; have hcz51_4 : w50.cell? ⟨gb265, 4, none⟩ = some (.int .i64 ((rd_T48 l1_2 x21_1).f4)) := (blk_cell BK265.out 4).trans rfl; have hfz51_0 := blk_frozen BK265.out 0; have hfz51_1 := blk_frozen BK265.out 1; have hfz51_2 := blk_frozen BK265.out 2; have hfz51_3 := blk_frozen BK265.out 3; have hfz51_4 := blk_frozen BK265.out 4) | ((with_reducible refine gate_store (t := 3) (p := 28) rfl ?_); refine store_event (t := 3) (p := 28) (v := ?vo_w52) (w1 := (w50.setCell ⟨gb265, 4, none⟩ (.int .i64 (wrap64 (((rd_T48 l1_2 x21_1).f4) - 1))))) ?hg ?ho ?hn ?hr ?_; (case ho => rfl); (case hg => rfl); (case hn => rfl); (case hr => first | (go_simp; done) | (go_simp; rfl) | (have hq0_ := (blk_cell BK265.out 4).trans (show _ = some _ from rfl); have hf0_ := blk_frozen BK265.out 4; first | (go_simp; done) | (go_simp; rfl))); intro w52 hw; replace HO_264002 : Aside0 (Kd.R k48 48 w52 w.heap.size (fun k_ => k_ ≠ gb265) u264002 x264002_1) := ⟨(by rw [hw]; exact (by (with_reducible repeat (first | apply Kd.R_alloc | apply Kd.R_drewN | apply Kd.R_drew)); exact Kd.R_mono (Kd.R_far (p := ⟨gb265, 4, none⟩) (Kd.R_mono HO_264002.out (fun k_ hk => (⟨hk, hk⟩ : _ ∧ k_ ≠ gb265))) (fun _ hk => hk.2) (.int .i64 (wrap64 (((rd_T48 l1_2 x21_1).f4) - 1)))) (fun _ hk => hk.1)))⟩; replace BK260 : Aside0 (w52.heap[gb260]? = some (.cells #[.int .i64 a0_0, .int .i64 a0_1, .int .i64 a0_2, .int .i64 a0_3, .int .i64 a0_4, .int .i64 a0_5, .int .i64 a0_6] 26 (0, 0))) := ⟨(by rw [hw]; exact (bF NB260_265.out BK260.out))⟩; replace BK261 : Aside0 (w52.heap[gb261]? = some (.cells #[.int .i64 a1_0, .int .i64 a1_1, .slice (some ad264) l1_2.length c1_2] 35 (0, 0))) := ⟨(by rw [hw]; exact (bF NB261_265.out BK261.out))⟩; replace BK262 : Aside0 (w52.heap[gb262]? = some (.cells #[.int .i64 0, .int .i64 0, .slice none 0 0] 35 (0, 0))) := ⟨(by rw [hw]; exact (bF NB262_265.out BK262.out))⟩; replace BK263 : Aside0 (w52.heap[gb263]? = some (.cells #[.int .i64 a1_0, .int .i64 (wrap64 (a1_1 + 1)), u264002] 35 (0, 0))) := ⟨(by rw [hw]; exact (bF NB263_265.out BK263.out))⟩; replace BK265 : Aside0 (w52.heap[gb265]? = some (.cells #[.int .i64 ((rd_T48 l1_2 x21_1).f0), .int .i64 ((rd_T48 l1_2 x21_1).f1), .int .i64 ((rd_T48 l1_2 x21_1).f2), .int .i64 ((rd_T48 l1_2 x21_1).f3), .int .i64 (wrap64 (((rd_T48 l1_2 x21_1).f4) - 1))] 48 (0, 0))) := ⟨(by rw [hw]; exact (by refine bU ?_; refine blk_put (cs := #[.int .i64 ((rd_T48 l1_2 x21_1).f0), .int .i64 ((rd_T48 l1_2 x21_1).f1), .int .i64 ((rd_T48 l1_2 x21_1).f2), .int .i64 ((rd_T48 l1_2 x21_1).f3), .int .i64 ((rd_T48 l1_2 x21_1).f4)]) ?_ 4 _ rfl; refine bU ?_; exact BK265.out))⟩; replace HB : Aside0 (Below w.heap.size w w52) := ⟨(by rw [hw]; exact (lU5 GE260.out GE261.out GE262.out GE263.out GE265.out))⟩; clear hw; have hcz53_0 : w52.cell? ⟨gb265, 0, none⟩ = some (.int .i64 ((rd_T48 l1_2 x21_1).f0)) := (blk_cell BK265.out 0).trans rfl; have hcz53_1 : w52.cell? ⟨gb265, 1, none⟩ = some (.int .i64 ((rd_T48 l1_2 x21_1).f1)) := (blk_cell BK265.out 1).trans rfl; have hcz53_2 : w52.cell? ⟨gb265, 2, none⟩ = some (.int .i64 ((rd_T48 l1_2 x21_1).f2)) := (blk_cell BK265.out 2).trans rfl; have hcz53_3 : w52.cell? ⟨gb265, 3, none⟩ = some (.int .i64 ((rd_T48 l1_2 x21_1).f3)) := (blk_cell BK265.out 3).trans rfl; have hcz53_4 : w52.cell? ⟨gb265, 4, none⟩ = some (.int .i64 (wrap64 (((rd_T48 l1_2 x21_1).f4) - 1))) := (blk_cell BK265.out 4).trans rfl; have hfz53_0 := blk_frozen BK265.out 0; have hfz53_1 := blk_frozen BK265.out 1; have hfz53_2 := blk_frozen BK265.out 2; have hfz53_3 := blk_frozen BK265.out 3; have hfz53_4 := blk_frozen BK265.out 4))
       go_roundg k1
       case measure => have := HK1.out; omega
       case rel => exact ⟨(wrap64 (x21_1 + 1)), (x264002_1), (u264002), tE, H', ⟨by have := HK1.out; omega⟩, ⟨by (with_reducible repeat (first | apply Kd.R_alloc | apply Kd.R_drewN | apply Kd.R_drew)); exact Kd.R_mono HO_264002.out (fun _ hk => trivial)⟩, ⟨by refine bU ?_; exact BK260.out⟩, ⟨by refine bU ?_; exact BK261.out⟩, ⟨by refine bU ?_; exact BK262.out⟩, ⟨by refine bU ?_; exact BK263.out⟩, ⟨by repeat (first | (with_reducible first | exact HB.out | apply below_alloc | apply pw_below_drewN | apply below_drew1 | refine below_set ?_ GE260.out | refine below_set ?_ GE261.out | refine below_set ?_ GE262.out | refine below_set ?_ GE263.out | refine below_set ?_ GE265.out) | exact HB.out)⟩⟩
     ·rw [if_neg c18] at H
      exact absurd H (by simp)
    ·rw [if_neg c17] at H
     exact absurd H (by simp)
   ·rw [if_neg c16] at H
    have c16b0 : decide (x21_1 < (l1_2.length : Int)) = false := decide_eq_false c16
    clear c16
    by_cases c54 : a0_2 = 0
    ·rw [if_pos c54] at H
     exact absurd H (by simp)
    ·rw [if_neg c54] at H
     have c54b0 : (a0_2 == 0) = false := beq_eq_false_iff_ne.mpr c54
     have c54b1 : (a0_2 != 0) = true := bne_iff_ne.mpr c54
     by_cases c55 : (Int.tmod a1_1 a0_2) = 0
     ·rw [if_pos c55] at H
      have c55b0 : ((Int.tmod a1_1 a0_2) == 0) = true := beq_iff_eq.mpr c55
      have c55b1 : ((Int.tmod a1_1 a0_2) != 0) = false := bne_eq_false_iff_eq.mpr c55
      clear c55
      have H' := Aside0.mk H
      clear H
      have hnb56 := NB261_260.out
      have hnc56 := NB260_261.out
      have hnb57 := NB261_262.out
      have hnc57 := NB262_261.out
      have hnb58 := NB261_263.out
      have hnc58 := NB263_261.out
      have hcz59_0 : wr.cell? ⟨gb261, 0, none⟩ = some (.int .i64 a1_0) := (blk_cell BK261.out 0).trans rfl
      have hcz59_1 : wr.cell? ⟨gb261, 1, none⟩ = some (.int .i64 a1_1) := (blk_cell BK261.out 1).trans rfl
      have hcz59_2 : wr.cell? ⟨gb261, 2, none⟩ = some (.slice A1_2 l1_2.length c1_2) := (blk_cell BK261.out 2).trans rfl
      have hfz59_0 := blk_frozen BK261.out 0
      have hfz59_1 := blk_frozen BK261.out 1
      have hfz59_2 := blk_frozen BK261.out 2
      have hnb60 := NB260_262.out
      have hnc60 := NB262_260.out
      have hnb61 := NB260_263.out
      have hnc61 := NB263_260.out
      have hcz62_0 : wr.cell? ⟨gb260, 0, none⟩ = some (.int .i64 a0_0) := (blk_cell BK260.out 0).trans rfl
      have hcz62_1 : wr.cell? ⟨gb260, 1, none⟩ = some (.int .i64 a0_1) := (blk_cell BK260.out 1).trans rfl
      have hcz62_2 : wr.cell? ⟨gb260, 2, none⟩ = some (.int .i64 a0_2) := (blk_cell BK260.out 2).trans rfl
      have hcz62_3 : wr.cell? ⟨gb260, 3, none⟩ = some (.int .i64 a0_3) := (blk_cell BK260.out 3).trans rfl
      have hcz62_4 : wr.cell? ⟨gb260, 4, none⟩ = some (.int .i64 a0_4) := (blk_cell BK260.out 4).trans rfl
      have hcz62_5 : wr.cell? ⟨gb260, 5, none⟩ = some (.int .i64 a0_5) := (blk_cell BK260.out 5).trans rfl
      have hcz62_6 : wr.cell? ⟨gb260, 6, none⟩ = some (.int .i64 a0_6) := (blk_cell BK260.out 6).trans rfl
      have hfz62_0 := blk_frozen BK260.out 0
      have hfz62_1 := blk_frozen BK260.out 1
      have hfz62_2 := blk_frozen BK260.out 2
      have hfz62_3 := blk_frozen BK260.out 3
      have hfz62_4 := blk_frozen BK260.out 4
      have hfz62_5 := blk_frozen BK260.out 5
      have hfz62_6 := blk_frozen BK260.out 6
      go_wp2
      go_loopg [9] k1 (fun kq v9 w' => ∃ (x9_2 : Int) (x264000_2 : Int) (x264002_2 : List (S48)) (u264002 : Value), v9 = .int .i64 x9_2 ∧ Aside0 (impl_Emitter_step.l1 kq x9_2 a0_0 a0_1 a0_2 a0_3 a0_4 a0_5 a0_6 x264000_2 (wrap64 (a1_1 + 1)) x264002_2 = some (r1, r2, r3, r4)) ∧ Aside0 (kq ≤ k1) ∧ Aside0 (Kd.R k48 48 w' w.heap.size (fun _ => True) u264002 x264002_2) ∧ Aside0 (w'.heap[gb260]? = some (.cells #[.int .i64 a0_0, .int .i64 a0_1, .int .i64 a0_2, .int .i64 a0_3, .int .i64 a0_4, .int .i64 a0_5, .int .i64 a0_6] 26 (0, 0))) ∧ Aside0 (w'.heap[gb261]? = some (.cells #[.int .i64 a1_0, .int .i64 a1_1, (.slice A1_2 l1_2.length c1_2)] 35 (0, 0))) ∧ Aside0 (w'.heap[gb262]? = some (.cells #[.int .i64 0, .int .i64 0, (.slice none 0 0)] 35 (0, 0))) ∧ Aside0 (w'.heap[gb263]? = some (.cells #[.int .i64 x264000_2, .int .i64 (wrap64 (a1_1 + 1)), u264002] 35 (0, 0))) ∧ Aside0 (Below w.heap.size w w'))
      case atStart => exact ⟨(0), (a1_0), (x264002_1), (u264002), tE, H', ⟨Nat.le_refl _⟩, ⟨by (with_reducible repeat (first | apply Kd.R_alloc | apply Kd.R_drewN | apply Kd.R_drew)); exact HO_264002.out⟩, ⟨by refine bU ?_; exact BK260.out⟩, ⟨by refine bU ?_; exact BK261.out⟩, ⟨by refine bU ?_; exact BK262.out⟩, ⟨by refine bU ?_; exact BK263.out⟩, ⟨by repeat (first | (with_reducible first | exact HB.out | apply below_alloc | apply pw_below_drewN | apply below_drew1 | refine below_set ?_ GE260.out | refine below_set ?_ GE261.out | refine below_set ?_ GE262.out | refine below_set ?_ GE263.out) | exact HB.out)⟩⟩
      case round =>
       clear H'
       try clear c1
       try clear q1
       try clear c2
       try clear p2
       try clear q2
       try clear hx2
       try clear hf2
       try clear c3
       try clear q3
       try clear hf3
       try clear c4
       try clear q4
       try clear hf4
       try clear c5
       try clear c6
       try clear p6
       try clear c7
       try clear c10
       try clear c11
       try clear c12
       try clear c16
       try clear c16b0
       try clear c17
       try clear c17b0
       try clear c18
       try clear c18b0
       try clear c19
       try clear c19b0
       try clear c20
       try clear c22
       try clear c23
       try clear c24
       try clear c25
       try clear p26
       try clear q26
       try clear hx26
       try clear c34
       try clear c35
       try clear c36
       try clear c37
       try clear c45
       try clear c46
       try clear c47
       try clear c48
       try clear c54
       try clear c54b0
       try clear c54b1
       try clear c55
       try clear c55b0
       try clear c55b1
       try clear c56
       try clear c57
       try clear c58
       try clear c60
       try clear c61
       try clear hcz13_0
       try clear hcz13_1
       try clear hcz13_2
       try clear hcz15_0
       try clear hcz15_1
       try clear hcz15_2
       try clear hcz26_0
       try clear hcz26_1
       try clear hcz26_2
       try clear hcz26_3
       try clear hcz26_4
       try clear hcz28_0
       try clear hcz28_1
       try clear hcz28_2
       try clear hcz28_3
       try clear hcz28_4
       try clear hcz30_0
       try clear hcz30_1
       try clear hcz30_2
       try clear hcz30_3
       try clear hcz30_4
       try clear hcz38_0
       try clear hcz38_1
       try clear hcz38_2
       try clear hcz39_0
       try clear hcz39_1
       try clear hcz39_2
       try clear hcz39_3
       try clear hcz39_4
       try clear hcz42_0
       try clear hcz42_1
       try clear hcz42_2
       try clear hcz49_0
       try clear hcz49_1
       try clear hcz49_2
       try clear hcz49_3
       try clear hcz49_4
       try clear hcz51_0
       try clear hcz51_1
       try clear hcz51_2
       try clear hcz51_3
       try clear hcz51_4
       try clear hcz53_0
       try clear hcz53_1
       try clear hcz53_2
       try clear hcz53_3
       try clear hcz53_4
       try clear hcz59_0
       try clear hcz59_1
       try clear hcz59_2
       try clear hcz62_0
       try clear hcz62_1
       try clear hcz62_2
       try clear hcz62_3
       try clear hcz62_4
       try clear hcz62_5
       try clear hcz62_6
       try clear hcz8_0
       try clear hcz8_1
       try clear hcz8_2
       try clear hfz13_0
       try clear hfz13_1
       try clear hfz13_2
       try clear hfz15_0
       try clear hfz15_1
       try clear hfz15_2
       try clear hfz26_0
       try clear hfz26_1
       try clear hfz26_2
       try clear hfz26_3
       try clear hfz26_4
       try clear hfz28_0
       try clear hfz28_1
       try clear hfz28_2
       try clear hfz28_3
       try clear hfz28_4
       try clear hfz30_0
       try clear hfz30_1
       try clear hfz30_2
       try clear hfz30_3
       try clear hfz30_4
       try clear hfz38_0
       try clear hfz38_1
       try clear hfz38_2
       try clear hfz39_0
       try clear hfz39_1
       try clear hfz39_2
       try clear hfz39_3
       try clear hfz39_4
       try clear hfz42_0
       try clear hfz42_1
       try clear hfz42_2
       try clear hfz49_0
       try clear hfz49_1
       try clear hfz49_2
       try clear hfz49_3
       try clear hfz49_4
       try clear hfz51_0
       try clear hfz51_1
       try clear hfz51_2
       try clear hfz51_3
       try clear hfz51_4
       try clear hfz53_0
       try clear hfz53_1
       try clear hfz53_2
       try clear hfz53_3
       try clear hfz53_4
       try clear hfz59_0
       try clear hfz59_1
       try clear hfz59_2
       try clear hfz62_0
       try clear hfz62_1
       try clear hfz62_2
       try clear hfz62_3
       try clear hfz62_4
       try clear hfz62_5
       try clear hfz62_6
       try clear hfz8_0
       try clear hfz8_1
       try clear hfz8_2
       try clear hx264_0
       try clear hx264_1
       try clear hx264_2
       try clear hx264_3
       try clear hx264_4
       try clear p2
       try clear p264
       try clear p6
       try clear q1
       try clear q2
       try clear q264
       obtain ⟨x9_2, x264000_2, x264002_2, u264002, rfl, HA, HK2, HO_264002, BK260, BK261, BK262, BK263, HB⟩ := hrel
       cases gk with
       | zero => exact absurd HA.out (by simp [impl_Emitter_step.l1])
       | succ k2 =>
        have H := HA.out
        clear HA
        simp only [impl_Emitter_step.l1] at H
        by_cases c63 : x9_2 < a0_3
        ·rw [if_pos c63] at H
         have c63b0 : decide (x9_2 < a0_3) = true := decide_eq_true c63
         clear c63
         by_cases c64 : (x264002_2.length : Int) < 60
         ·rw [if_pos c64] at H
          have c64b0 : decide ((x264002_2.length : Int) < 60) = true := decide_eq_true c64
          have c64b1 : decide (x264002_2.length < 60) = true := decide_eq_true (by omega)
          clear c64
          replace H := Option.bind_eq_some_iff.mp H
          obtain ⟨⟨t269, t270, t271, t272, t273, t274⟩, A650, H⟩ := H
          replace H : (if x264002_2.length < 3518437208883 then (impl_Emitter_step.l1 k2 (wrap64 (x9_2 + 1)) a0_0 a0_1 a0_2 a0_3 a0_4 a0_5 a0_6 t274 (wrap64 (a1_1 + 1)) (x264002_2 ++ [(⟨t269, t270, t271, t272, t273⟩ : S48)])) else (none)) = some (r1, r2, r3, r4) := H
          have A65 := Aside0.mk A650
          clear A650
          by_cases c66 : x264002_2.length < 3518437208883
          ·rw [if_pos c66] at H
           have LMc66 := Aside0.mk c66
           clear c66
           obtain ⟨y276, hy276⟩ : ∃ y_ : List (S48), y_ = (x264002_2 ++ [(⟨t269, t270, t271, t272, t273⟩ : S48)]) := ⟨_, rfl⟩
           replace H : (impl_Emitter_step.l1 k2 (wrap64 (x9_2 + 1)) a0_0 a0_1 a0_2 a0_3 a0_4 a0_5 a0_6 t274 (wrap64 (a1_1 + 1)) y276) = some (r1, r2, r3, r4) := by first | (rw [hy276]; with_reducible exact H) | (have H2_ := (Option.bind_some _ _).symm.trans H; rw [hy276]; with_reducible exact H2_) | (have H2_ := (Option.bind_some _ _).symm.trans H; with_reducible exact H2_) | with_reducible exact H | (rw [hy276]; exact H) | exact H
           have Ny276 := Aside0.mk hy276
           clear hy276
           have H' := Aside0.mk H
           clear H
           have hnb67 := NB260_261.out
           have hnc67 := NB261_260.out
           have hnb68 := NB260_262.out
           have hnc68 := NB262_260.out
           have hnb69 := NB260_263.out
           have hnc69 := NB263_260.out
           have hcz70_0 : wr.cell? ⟨gb260, 0, none⟩ = some (.int .i64 a0_0) := (blk_cell BK260.out 0).trans rfl
           have hcz70_1 : wr.cell? ⟨gb260, 1, none⟩ = some (.int .i64 a0_1) := (blk_cell BK260.out 1).trans rfl
           have hcz70_2 : wr.cell? ⟨gb260, 2, none⟩ = some (.int .i64 a0_2) := (blk_cell BK260.out 2).trans rfl
           have hcz70_3 : wr.cell? ⟨gb260, 3, none⟩ = some (.int .i64 a0_3) := (blk_cell BK260.out 3).trans rfl
           have hcz70_4 : wr.cell? ⟨gb260, 4, none⟩ = some (.int .i64 a0_4) := (blk_cell BK260.out 4).trans rfl
           have hcz70_5 : wr.cell? ⟨gb260, 5, none⟩ = some (.int .i64 a0_5) := (blk_cell BK260.out 5).trans rfl
           have hcz70_6 : wr.cell? ⟨gb260, 6, none⟩ = some (.int .i64 a0_6) := (blk_cell BK260.out 6).trans rfl
           have hfz70_0 := blk_frozen BK260.out 0
           have hfz70_1 := blk_frozen BK260.out 1
           have hfz70_2 := blk_frozen BK260.out 2
           have hfz70_3 := blk_frozen BK260.out 3
           have hfz70_4 := blk_frozen BK260.out 4
           have hfz70_5 := blk_frozen BK260.out 5
           have hfz70_6 := blk_frozen BK260.out 6
           have hnb71 := NB263_261.out
           have hnc71 := NB261_263.out
           have hnb72 := NB263_262.out
           have hnc72 := NB262_263.out
           have hcz73_0 : wr.cell? ⟨gb263, 0, none⟩ = some (.int .i64 x264000_2) := (blk_cell BK263.out 0).trans rfl
           have hcz73_1 : wr.cell? ⟨gb263, 1, none⟩ = some (.int .i64 (wrap64 (a1_1 + 1))) := (blk_cell BK263.out 1).trans rfl
           have hcz73_2 : wr.cell? ⟨gb263, 2, none⟩ = some (u264002) := (blk_cell BK263.out 2).trans rfl
           have hfz73_0 := blk_frozen BK263.out 0
           have hfz73_1 := blk_frozen BK263.out 1
           have hfz73_2 := blk_frozen BK263.out 2
           obtain ⟨Ao74, co74, eo74⟩ := Kd.R_slice HO_264002.out
           subst eo74
           go_wp2_with (first | ((with_reducible refine gate_callee (f := 49) rfl ?_); refine goesL_ (some 79) rfl rfl Try.func49 (by kernel_rfl) rfl #[.agg #[.int .i64 a0_0, .int .i64 a0_1, .int .i64 a0_2, .int .i64 a0_3, .int .i64 a0_4, .int .i64 a0_5, .int .i64 a0_6], .int .i64 x264000_2] rfl aE ?_; (with_reducible refine (impl_Emitter_born.calls k2 a0_0 a0_1 a0_2 a0_3 a0_4 a0_5 a0_6 x264000_2 t269 t270 t271 t272 t273 t274 _ A65.out).mono ?_); rintro e w75 ⟨rfl, hb⟩; refine ⟨_, rfl, ?_⟩; replace HO_264002 := Aside0.mk (Kd.R_below (rU HO_264002.out) hb); replace BK260 := Aside0.mk (blk_below (bU BK260.out) hb); replace BK261 := Aside0.mk (blk_below (bU BK261.out) hb); replace BK262 := Aside0.mk (blk_below (bU BK262.out) hb); replace BK263 := Aside0.mk (blk_below (bU BK263.out) hb); replace HB := Aside0.mk (below_step (lU4 GE260.out GE261.out GE262.out GE263.out) hb); (try clear hb); (try clear hb2); (try clear hk); (try clear hi)) | ((with_reducible refine gate_dst (N := 10) rfl ?_); (try (refine gate_guard (by rfl) ?_; dsimp only)); refine box_event rfl (N := 10) rfl (cs := #[.int .i64 0, .int .i64 0, .int .i64 0, .int .i64 0, .int .i64 0]) (t := 48) sE ?_; intro gb275 hg w76 hbox hb; replace HO_264002 := Aside0.mk (Kd.R_below (Kd.R_elderB (rU HO_264002.out) gb275 (Nat.le_of_eq hg.symm)) hb); have BK275 := Aside0.mk hbox; have GW275 := gS w hg (lU4 GE260.out GE261.out GE262.out GE263.out); have GE275 := GW275; replace HB := Aside0.mk (below_step (lU4 GE260.out GE261.out GE262.out GE263.out) hb); have NB260_275 := nL hg (bU BK260.out); have NB275_260 := nG hg (bU BK260.out); replace BK260 := Aside0.mk (blk_below (bU BK260.out) hb); have NB261_275 := nL hg (bU BK261.out); have NB275_261 := nG hg (bU BK261.out); replace BK261 := Aside0.mk (blk_below (bU BK261.out) hb); have NB262_275 := nL hg (bU BK262.out); have NB275_262 := nG hg (bU BK262.out); replace BK262 := Aside0.mk (blk_below (bU BK262.out) hb); have NB263_275 := nL hg (bU BK263.out); have NB275_263 := nG hg (bU BK263.out); replace BK263 := Aside0.mk (blk_below (bU BK263.out) hb); clear hb hbox hg; have hnb77 := NB275_260.out; have hnc77 := NB260_275.out; have hnb78 := NB275_261.out; have hnc78 := NB261_275.out; have hnb79 := NB275_262.out; have hnc79 := NB262_275.out; have hnb80 := NB275_263.out; have hnc80 := NB263_275.out; have hcz81_0 : w76.cell? ⟨gb275, 0, none⟩ = some (.int .i64 0) := (blk_cell BK275.out 0).trans rfl; have hcz81_1 : w76.cell? ⟨gb275, 1, none⟩ = some (.int .i64 0) := (blk_cell BK275.out 1).trans rfl; have hcz81_2 : w76.cell? ⟨gb275, 2, none⟩ = some (.int .i64 0) := (blk_cell BK275.out 2).trans rfl; have hcz81_3 : w76.cell? ⟨gb275, 3, none⟩ = some (.int .i64 0) := (blk_cell BK275.out 3).trans rfl; have hcz81_4 : w76.cell? ⟨gb275, 4, none⟩ = some (.int .i64 0) := (blk_cell BK275.out 4).trans rfl; have hfz81_0 := blk_frozen BK275.out 0; have hfz81_1 := blk_frozen BK275.out 1; have hfz81_2 := blk_frozen BK275.out 2; have hfz81_3 := blk_frozen BK275.out 3; have hfz81_4 := blk_frozen BK275.out 4) | ((with_reducible refine gate_store (t := 48) (p := 10) rfl ?_); refine store_event (t := 48) (p := 10) (v := ?vo_w82) (w1 := (((((w76.setCell ⟨gb275, 0, none⟩ (.int .i64 t269)).setCell ⟨gb275, 1, none⟩ (.int .i64 t270)).setCell ⟨gb275, 2, none⟩ (.int .i64 t271)).setCell ⟨gb275, 3, none⟩ (.int .i64 t272)).setCell ⟨gb275, 4, none⟩ (.int .i64 t273))) ?hg ?ho ?hn ?hr ?_; (case ho => rfl); (case hg => rfl); (case hn => rfl); (case hr => first | (go_simp; done) | (go_simp; rfl) | (have hq0_ := (blk_cell BK275.out 0).trans (show _ = some _ from rfl); have hf0_ := blk_frozen BK275.out 0; have hq1_ := (blk_cell BK275.out 1).trans (show _ = some _ from rfl); have hf1_ := blk_frozen BK275.out 1; have hq2_ := (blk_cell BK275.out 2).trans (show _ = some _ from rfl); have hf2_ := blk_frozen BK275.out 2; have hq3_ := (blk_cell BK275.out 3).trans (show _ = some _ from rfl); have hf3_ := blk_frozen BK275.out 3; have hq4_ := (blk_cell BK275.out 4).trans (show _ = some _ from rfl); have hf4_ := blk_frozen BK275.out 4; first | (go_simp; done) | (go_simp; rfl))); intro w82 hw; replace HO_264002 : Aside0 (Kd.R k48 48 w82 w.heap.size (fun k_ => k_ ≠ gb275) (.slice Ao74 x264002_2.length co74) x264002_2) := ⟨(by rw [hw]; exact (by (with_reducible repeat (first | apply Kd.R_alloc | apply Kd.R_drewN | apply Kd.R_drew)); exact Kd.R_mono (Kd.R_far (p := ⟨gb275, 4, none⟩) (Kd.R_far (p := ⟨gb275, 3, none⟩) (Kd.R_far (p := ⟨gb275, 2, none⟩) (Kd.R_far (p := ⟨gb275, 1, none⟩) (Kd.R_far (p := ⟨gb275, 0, none⟩) (Kd.R_mono HO_264002.out (fun k_ hk => (⟨hk, hk.2⟩ : _ ∧ k_ ≠ gb275))) (fun _ hk => hk.2) (.int .i64 t269)) (fun _ hk => hk.2) (.int .i64 t270)) (fun _ hk => hk.2) (.int .i64 t271)) (fun _ hk => hk.2) (.int .i64 t272)) (fun _ hk => hk.2) (.int .i64 t273)) (fun _ hk => hk.1.2)))⟩; replace BK260 : Aside0 (w82.heap[gb260]? = some (.cells #[.int .i64 a0_0, .int .i64 a0_1, .int .i64 a0_2, .int .i64 a0_3, .int .i64 a0_4, .int .i64 a0_5, .int .i64 a0_6] 26 (0, 0))) := ⟨(by rw [hw]; exact (bF NB260_275.out BK260.out))⟩; replace BK261 : Aside0 (w82.heap[gb261]? = some (.cells #[.int .i64 a1_0, .int .i64 a1_1, .slice A1_2 l1_2.length c1_2] 35 (0, 0))) := ⟨(by rw [hw]; exact (bF NB261_275.out BK261.out))⟩; replace BK262 : Aside0 (w82.heap[gb262]? = some (.cells #[.int .i64 0, .int .i64 0, .slice none 0 0] 35 (0, 0))) := ⟨(by rw [hw]; exact (bF NB262_275.out BK262.out))⟩; replace BK263 : Aside0 (w82.heap[gb263]? = some (.cells #[.int .i64 x264000_2, .int .i64 (wrap64 (a1_1 + 1)), .slice Ao74 x264002_2.length co74] 35 (0, 0))) := ⟨(by rw [hw]; exact (bF NB263_275.out BK263.out))⟩; replace BK275 : Aside0 (w82.heap[gb275]? = some (.cells #[.int .i64 t269, .int .i64 t270, .int .i64 t271, .int .i64 t272, .int .i64 t273] 48 (0, 0))) := ⟨(by rw [hw]; exact (by refine bU ?_; refine blk_put (cs := #[.int .i64 t269, .int .i64 t270, .int .i64 t271, .int .i64 t272, .int .i64 0]) ?_ 4 _ rfl; refine bU ?_; refine blk_put (cs := #[.int .i64 t269, .int .i64 t270, .int .i64 t271, .int .i64 0, .int .i64 0]) ?_ 3 _ rfl; refine bU ?_; refine blk_put (cs := #[.int .i64 t269, .int .i64 t270, .int .i64 0, .int .i64 0, .int .i64 0]) ?_ 2 _ rfl; refine bU ?_; refine blk_put (cs := #[.int .i64 t269, .int .i64 0, .int .i64 0, .int .i64 0, .int .i64 0]) ?_ 1 _ rfl; refine bU ?_; refine blk_put (cs := #[.int .i64 0, .int .i64 0, .int .i64 0, .int .i64 0, .int .i64 0]) ?_ 0 _ rfl; refine bU ?_; exact BK275.out))⟩; replace HB : Aside0 (Below w.heap.size w w82) := ⟨(by rw [hw]; exact (lU5 GE260.out GE261.out GE262.out GE263.out GE275.out))⟩; clear hw; have hcz83_0 : w82.cell? ⟨gb263, 0, none⟩ = some (.int .i64 x264000_2) := (blk_cell BK263.out 0).trans rfl; have hcz83_1 : w82.cell? ⟨gb263, 1, none⟩ = some (.int .i64 (wrap64 (a1_1 + 1))) := (blk_cell BK263.out 1).trans rfl; have hcz83_2 : w82.cell? ⟨gb263, 2, none⟩ = some (.slice Ao74 x264002_2.length co74) := (blk_cell BK263.out 2).trans rfl; have hfz83_0 := blk_frozen BK263.out 0; have hfz83_1 := blk_frozen BK263.out 1; have hfz83_2 := blk_frozen BK263.out 2; have hcz84_0 : w82.cell? ⟨gb275, 0, none⟩ = some (.int .i64 t269) := (blk_cell BK275.out 0).trans rfl; have hcz84_1 : w82.cell? ⟨gb275, 1, none⟩ = some (.int .i64 t270) := (blk_cell BK275.out 1).trans rfl; have hcz84_2 : w82.cell? ⟨gb275, 2, none⟩ = some (.int .i64 t271) := (blk_cell BK275.out 2).trans rfl; have hcz84_3 : w82.cell? ⟨gb275, 3, none⟩ = some (.int .i64 t272) := (blk_cell BK275.out 3).trans rfl; have hcz84_4 : w82.cell? ⟨gb275, 4, none⟩ = some (.int .i64 t273) := (blk_cell BK275.out 4).trans rfl; have hfz84_0 := blk_frozen BK275.out 0; have hfz84_1 := blk_frozen BK275.out 1; have hfz84_2 := blk_frozen BK275.out 2; have hfz84_3 := blk_frozen BK275.out 3; have hfz84_4 := blk_frozen BK275.out 4) | ((with_reducible refine gate_builtin (b := .append) (xs := #[.tmp 84, .tmp 86]) rfl ?_); (try (refine gate_guard (by rfl) ?_; dsimp only)); at_builtin; refine Kd.R_append k48 (w0 := w) w.heap.size rfl (.tmp 84) (.tmp 86) 33 48 (.agg #[(.int .i64 0), (.int .i64 0), (.int .i64 0), (.int .i64 0), (.int .i64 0)]) 40 rfl Try.underlying33 info48 rfl (by decide) (by omega) (.slice Ao74 x264002_2.length co74) x264002_2 (⟨t269, t270, t271, t272, t273⟩ : S48) [.int .i64 t269, .int .i64 t270, .int .i64 t271, .int .i64 t272, .int .i64 t273] (fun k_ => k_ ≠ gb275) (fun _ => False) rfl rfl ?aP (fun _ hk => hk.elim) ?aF ?aO ?aB ?aS ?aL ?_; (case aP => exact k48_mkM _ _ _ (⟨t269, t270, t271, t272, t273⟩ : S48)); (case aB => exact (lU5 GE260.out GE261.out GE262.out GE263.out GE275.out)); (case aF => exact (fun k_ hk => Kd.freshB (g := gb275) (o := .cells #[.int .i64 t269, .int .i64 t270, .int .i64 t271, .int .i64 t272, .int .i64 t273] 48 (0, 0)) (bU BK275.out) k_ hk)); (case aO => exact (rU HO_264002.out)); (case aS => exact (below_size (lU5 GE260.out GE261.out GE262.out GE263.out GE275.out))); (case aL => have := LMc66.out; omega); intro v277 w85 ho hb hg hat; rw [← Ny276.out] at ho; replace BK260 := Aside0.mk (blk_grown (g := gb260) (o := .cells #[.int .i64 a0_0, .int .i64 a0_1, .int .i64 a0_2, .int .i64 a0_3, .int .i64 a0_4, .int .i64 a0_5, .int .i64 a0_6] 26 (0, 0)) (bU BK260.out) hg (Kd.R_ne HO_264002.out BK260.out (by decide))); replace BK261 := Aside0.mk (blk_grown (g := gb261) (o := .cells #[.int .i64 a1_0, .int .i64 a1_1, .slice A1_2 l1_2.length c1_2] 35 (0, 0)) (bU BK261.out) hg (Kd.R_ne HO_264002.out BK261.out (by decide))); replace BK262 := Aside0.mk (blk_grown (g := gb262) (o := .cells #[.int .i64 0, .int .i64 0, .slice none 0 0] 35 (0, 0)) (bU BK262.out) hg (Kd.R_ne HO_264002.out BK262.out (by decide))); replace BK263 := Aside0.mk (blk_grown (g := gb263) (o := .cells #[.int .i64 x264000_2, .int .i64 (wrap64 (a1_1 + 1)), .slice Ao74 x264002_2.length co74] 35 (0, 0)) (bU BK263.out) hg (Kd.R_ne HO_264002.out BK263.out (by decide))); replace BK275 := Aside0.mk (blk_grown (g := gb275) (o := .cells #[.int .i64 t269, .int .i64 t270, .int .i64 t271, .int .i64 t272, .int .i64 t273] 48 (0, 0)) (bU BK275.out) hg (Kd.R_away HO_264002.out (fun _ hk => hk))); replace HB := Aside0.mk hb; have HO278 := Aside0.mk ho; clear HO_264002; clear ho hb hg hat; have hcz86_0 : w85.cell? ⟨gb263, 0, none⟩ = some (.int .i64 x264000_2) := (blk_cell BK263.out 0).trans rfl; have hcz86_1 : w85.cell? ⟨gb263, 1, none⟩ = some (.int .i64 (wrap64 (a1_1 + 1))) := (blk_cell BK263.out 1).trans rfl; have hcz86_2 : w85.cell? ⟨gb263, 2, none⟩ = some (.slice Ao74 x264002_2.length co74) := (blk_cell BK263.out 2).trans rfl; have hfz86_0 := blk_frozen BK263.out 0; have hfz86_1 := blk_frozen BK263.out 1; have hfz86_2 := blk_frozen BK263.out 2) | ((with_reducible refine gate_store (t := 3) (p := 88) rfl ?_); refine store_event (t := 3) (p := 88) (v := ?vo_w87) (w1 := (w85.setCell ⟨gb263, 0, none⟩ (.int .i64 t274))) ?hg ?ho ?hn ?hr ?_; (case ho => rfl); (case hg => rfl); (case hn => rfl); (case hr => first | (go_simp; done) | (go_simp; rfl) | (have hq0_ := (blk_cell BK263.out 0).trans (show _ = some _ from rfl); have hf0_ := blk_frozen BK263.out 0; first | (go_simp; done) | (go_simp; rfl))); intro w87 hw; replace HO278 : Aside0 (Kd.R k48 48 w87 w.heap.size (fun k_ => k_ ≠ gb275) v277 y276) := ⟨(by rw [hw]; exact (by (with_reducible repeat (first | apply Kd.R_alloc | apply Kd.R_drewN | apply Kd.R_drew)); exact Kd.R_mono (Kd.R_far (p := ⟨gb263, 0, none⟩) (Kd.R_types HO278.out BK263.out (by decide)) (fun _ hk => hk.2) (.int .i64 t274)) (fun _ hk => hk.1)))⟩; replace BK260 : Aside0 (w87.heap[gb260]? = some (.cells #[.int .i64 a0_0, .int .i64 a0_1, .int .i64 a0_2, .int .i64 a0_3, .int .i64 a0_4, .int .i64 a0_5, .int .i64 a0_6] 26 (0, 0))) := ⟨(by rw [hw]; exact (bF NB260_263.out BK260.out))⟩; replace BK261 : Aside0 (w87.heap[gb261]? = some (.cells #[.int .i64 a1_0, .int .i64 a1_1, .slice A1_2 l1_2.length c1_2] 35 (0, 0))) := ⟨(by rw [hw]; exact (bF NB261_263.out BK261.out))⟩; replace BK262 : Aside0 (w87.heap[gb262]? = some (.cells #[.int .i64 0, .int .i64 0, .slice none 0 0] 35 (0, 0))) := ⟨(by rw [hw]; exact (bF NB262_263.out BK262.out))⟩; replace BK263 : Aside0 (w87.heap[gb263]? = some (.cells #[.int .i64 t274, .int .i64 (wrap64 (a1_1 + 1)), .slice Ao74 x264002_2.length co74] 35 (0, 0))) := ⟨(by rw [hw]; exact (by refine bU ?_; refine blk_put (cs := #[.int .i64 x264000_2, .int .i64 (wrap64 (a1_1 + 1)), .slice Ao74 x264002_2.length co74]) ?_ 0 _ rfl; refine bU ?_; exact BK263.out))⟩; replace BK275 : Aside0 (w87.heap[gb275]? = some (.cells #[.int .i64 t269, .int .i64 t270, .int .i64 t271, .int .i64 t272, .int .i64 t273] 48 (0, 0))) := ⟨(by rw [hw]; exact (bF NB275_263.out BK275.out))⟩; replace HB : Aside0 (Below w.heap.size w w87) := ⟨(by rw [hw]; exact (lU5 GE260.out GE261.out GE262.out GE263.out GE275.out))⟩; clear hw; obtain ⟨Ao88, co88, eo88⟩ := Kd.R_slice HO278.out; subst eo88; have hcz89_0 : w87.cell? ⟨gb263, 0, none⟩ = some (.int .i64 t274) := (blk_cell BK263.out 0).trans rfl; have hcz89_1 : w87.cell? ⟨gb263, 1, none⟩ = some (.int .i64 (wrap64 (a1_1 + 1))) := (blk_cell BK263.out 1).trans rfl; have hcz89_2 : w87.cell? ⟨gb263, 2, none⟩ = some (.slice Ao74 x264002_2.length co74) := (blk_cell BK263.out 2).trans rfl; have hfz89_0 := blk_frozen BK263.out 0; have hfz89_1 := blk_frozen BK263.out 1; have hfz89_2 := blk_frozen BK263.out 2) | ((with_reducible refine gate_store (t := 33) (p := 89) rfl ?_); refine store_event (t := 33) (p := 89) (v := ?vo_w90) (w1 := (w87.setCell ⟨gb263, 2, none⟩ (.slice Ao88 y276.length co88))) ?hg ?ho ?hn ?hr ?_; (case ho => rfl); (case hg => rfl); (case hn => rfl); (case hr => first | (go_simp; done) | (go_simp; rfl) | (have hq0_ := (blk_cell BK263.out 2).trans (show _ = some _ from rfl); have hf0_ := blk_frozen BK263.out 2; first | (go_simp; done) | (go_simp; rfl))); intro w90 hw; replace HO278 : Aside0 (Kd.R k48 48 w90 w.heap.size (fun k_ => k_ ≠ gb275) (.slice Ao88 y276.length co88) y276) := ⟨(by rw [hw]; exact (by (with_reducible repeat (first | apply Kd.R_alloc | apply Kd.R_drewN | apply Kd.R_drew)); exact Kd.R_mono (Kd.R_far (p := ⟨gb263, 2, none⟩) (Kd.R_types HO278.out BK263.out (by decide)) (fun _ hk => hk.2) (.slice Ao88 y276.length co88)) (fun _ hk => hk.1)))⟩; replace BK260 : Aside0 (w90.heap[gb260]? = some (.cells #[.int .i64 a0_0, .int .i64 a0_1, .int .i64 a0_2, .int .i64 a0_3, .int .i64 a0_4, .int .i64 a0_5, .int .i64 a0_6] 26 (0, 0))) := ⟨(by rw [hw]; exact (bF NB260_263.out BK260.out))⟩; replace BK261 : Aside0 (w90.heap[gb261]? = some (.cells #[.int .i64 a1_0, .int .i64 a1_1, .slice A1_2 l1_2.length c1_2] 35 (0, 0))) := ⟨(by rw [hw]; exact (bF NB261_263.out BK261.out))⟩; replace BK262 : Aside0 (w90.heap[gb262]? = some (.cells #[.int .i64 0, .int .i64 0, .slice none 0 0] 35 (0, 0))) := ⟨(by rw [hw]; exact (bF NB262_263.out BK262.out))⟩; replace BK263 : Aside0 (w90.heap[gb263]? = some (.cells #[.int .i64 t274, .int .i64 (wrap64 (a1_1 + 1)), .slice Ao88 y276.length co88] 35 (0, 0))) := ⟨(by rw [hw]; exact (by refine bU ?_; refine blk_put (cs := #[.int .i64 t274, .int .i64 (wrap64 (a1_1 + 1)), .slice Ao74 x264002_2.length co74]) ?_ 2 _ rfl; refine bU ?_; exact BK263.out))⟩; replace BK275 : Aside0 (w90.heap[gb275]? = some (.cells #[.int .i64 t269, .int .i64 t270, .int .i64 t271, .int .i64 t272, .int .i64 t273] 48 (0, 0))) := ⟨(by rw [hw]; exact (bF NB275_263.out BK275.out))⟩; replace HB : Aside0 (Below w.heap.size w w90) := ⟨(by rw [hw]; exact (lU5 GE260.out GE261.out GE262.out GE263.out GE275.out))⟩; clear hw))
           go_roundg k2
           case measure => have := HK1.out; have := HK2.out; omega
           case rel => exact ⟨(wrap64 (x9_2 + 1)), (t274), (y276), (.slice Ao88 y276.length co88), tE, H', ⟨by have := HK1.out; have := HK2.out; omega⟩, ⟨by (with_reducible repeat (first | apply Kd.R_alloc | apply Kd.R_drewN | apply Kd.R_drew)); exact Kd.R_mono HO278.out (fun _ hk => trivial)⟩, ⟨by refine bU ?_; exact BK260.out⟩, ⟨by refine bU ?_; exact BK261.out⟩, ⟨by refine bU ?_; exact BK262.out⟩, ⟨by refine bU ?_; exact BK263.out⟩, ⟨by repeat (first | (with_reducible first | exact HB.out | apply below_alloc | apply pw_below_drewN | apply below_drew1 | refine below_set ?_ GE260.out | refine below_set ?_ GE261.out | refine below_set ?_ GE262.out | refine below_set ?_ GE263.out | refine below_set ?_ GE275.out) | exact HB.out)⟩⟩
          ·rw [if_neg c66] at H
           exact absurd H (by simp)
         ·rw [if_neg c64] at H
          have c64b0 : decide ((x264002_2.length : Int) < 60) = false := decide_eq_false c64
          have c64b1 : decide (x264002_2.length < 60) = false := decide_eq_false (by omega)
          clear c64
          replace H := Option.bind_eq_some_iff.mp H
          obtain ⟨t279, A910, H⟩ := H
          replace H : (some (x264000_2, (wrap64 (a1_1 + 1)), x264002_2, t279)) = some (r1, r2, r3, r4) := H
          have A91 := Aside0.mk A910
          clear A910
          simp only [Option.some.injEq, Prod.mk.injEq] at H
          obtain ⟨rfl, rfl, rfl, rfl⟩ := H
          have hnb92 := NB260_261.out
          have hnc92 := NB261_260.out
          have hnb93 := NB260_262.out
          have hnc93 := NB262_260.out
          have hnb94 := NB260_263.out
          have hnc94 := NB263_260.out
          have hcz95_0 : wr.cell? ⟨gb260, 0, none⟩ = some (.int .i64 a0_0) := (blk_cell BK260.out 0).trans rfl
          have hcz95_1 : wr.cell? ⟨gb260, 1, none⟩ = some (.int .i64 a0_1) := (blk_cell BK260.out 1).trans rfl
          have hcz95_2 : wr.cell? ⟨gb260, 2, none⟩ = some (.int .i64 a0_2) := (blk_cell BK260.out 2).trans rfl
          have hcz95_3 : wr.cell? ⟨gb260, 3, none⟩ = some (.int .i64 a0_3) := (blk_cell BK260.out 3).trans rfl
          have hcz95_4 : wr.cell? ⟨gb260, 4, none⟩ = some (.int .i64 a0_4) := (blk_cell BK260.out 4).trans rfl
          have hcz95_5 : wr.cell? ⟨gb260, 5, none⟩ = some (.int .i64 a0_5) := (blk_cell BK260.out 5).trans rfl
          have hcz95_6 : wr.cell? ⟨gb260, 6, none⟩ = some (.int .i64 a0_6) := (blk_cell BK260.out 6).trans rfl
          have hfz95_0 := blk_frozen BK260.out 0
          have hfz95_1 := blk_frozen BK260.out 1
          have hfz95_2 := blk_frozen BK260.out 2
          have hfz95_3 := blk_frozen BK260.out 3
          have hfz95_4 := blk_frozen BK260.out 4
          have hfz95_5 := blk_frozen BK260.out 5
          have hfz95_6 := blk_frozen BK260.out 6
          have hnb96 := NB263_261.out
          have hnc96 := NB261_263.out
          have hnb97 := NB263_262.out
          have hnc97 := NB262_263.out
          have hcz98_0 : wr.cell? ⟨gb263, 0, none⟩ = some (.int .i64 x264000_2) := (blk_cell BK263.out 0).trans rfl
          have hcz98_1 : wr.cell? ⟨gb263, 1, none⟩ = some (.int .i64 (wrap64 (a1_1 + 1))) := (blk_cell BK263.out 1).trans rfl
          have hcz98_2 : wr.cell? ⟨gb263, 2, none⟩ = some (u264002) := (blk_cell BK263.out 2).trans rfl
          have hfz98_0 := blk_frozen BK263.out 0
          have hfz98_1 := blk_frozen BK263.out 1
          have hfz98_2 := blk_frozen BK263.out 2
          obtain ⟨Ao99, co99, eo99⟩ := Kd.R_slice HO_264002.out
          subst eo99
          try go_wp2
          replace HO_264002 := Aside0.mk (Kd.R_drew HO_264002.out)
          replace BK260 := Aside0.mk (blk_drew BK260.out)
          replace BK261 := Aside0.mk (blk_drew BK261.out)
          replace BK262 := Aside0.mk (blk_drew BK262.out)
          replace BK263 := Aside0.mk (blk_drew BK263.out)
          replace HB := Aside0.mk (below_drew1 HB.out)
          refine start_ (n := 5) (S := fun w' => w'.cell? ⟨gb263, 0, none⟩ = some (.int .i64 x264000_2) ∧ w'.cell? ⟨gb263, 1, none⟩ = some (.int .i64 (wrap64 (a1_1 + 1))) ∧ w'.cell? ⟨gb263, 2, none⟩ = some (.slice Ao99 x264002_2.length co99)) (ds := []) #[false, false, false, false, false] (by kernel_rfl) rfl rfl ⟨(blk_cell BK263.out 0).trans rfl, (blk_cell BK263.out 1).trans rfl, (blk_cell BK263.out 2).trans rfl⟩ (fun hHeld => ?_)
          generalize wr.drew = w100 at HO_264002 BK260 BK261 BK262 BK263 HB hHeld ⊢
          refine take_ (i := 0) (N := some 90) (v := ?_) (a' := ?_) (bz 5 1) rfl rfl (by kernel_rfl) (fun _ _ _ h => h) (Or.inl ⟨by rfl, ?_⟩) hHeld ?_ ?_
          rotate_left
          ·rintro w' ⟨s0, s1, s2⟩
           go_simp
           with_reducible rfl
          rotate_left
          ·simp only [Act.put, List.setIfInBounds_toArray, List.set_cons_zero, List.set_cons_succ, i64_w, i32_w]
           rfl
          refine take_ (i := 1) (N := some 91) (v := ?_) (a' := ?_) (bz 5 3) rfl rfl (by kernel_rfl) (fun _ _ _ h => h) (Or.inl ⟨by rfl, ?_⟩) hHeld ?_ ?_
          rotate_left
          ·rintro w' ⟨s0, s1, s2⟩
           go_simp
           with_reducible rfl
          rotate_left
          ·simp only [Act.put, List.setIfInBounds_toArray, List.set_cons_zero, List.set_cons_succ, i64_w, i32_w]
           rfl
          refine one_ (i := 2) (N := some 92) (bz 5 7) rfl rfl (by kernel_rfl) (by decide) (fun K hK => ?_)
          refine goes_ Try.func31 (by kernel_rfl) rfl #[.agg #[.int .i64 x264000_2, .int .i64 (wrap64 (a1_1 + 1)), .slice Ao99 x264002_2.length co99]] (by rfl) rfl rfl aE ?_
          with_reducible refine (impl_GoodCloud.calls k2 x264000_2 (wrap64 (a1_1 + 1)) _ _ x264002_2 t279 _ ?side1 ?side2 A91.out).mono ?_
          (case side1 => exact cU (Kd.R_reads' HO_264002.out).2.2)
          (case side2 => exact (Kd.R_reads' HO_264002.out).2.1)
          rintro e w101 ⟨rfl, hb⟩
          refine ⟨_, rfl, ?_⟩
          replace HO_264002 := Aside0.mk (Kd.R_below (rU HO_264002.out) hb)
          replace BK260 := Aside0.mk (blk_below (bU BK260.out) hb)
          replace BK261 := Aside0.mk (blk_below (bU BK261.out) hb)
          replace BK262 := Aside0.mk (blk_below (bU BK262.out) hb)
          replace BK263 := Aside0.mk (blk_below (bU BK263.out) hb)
          replace HB := Aside0.mk (below_step (lU4 GE260.out GE261.out GE262.out GE263.out) hb)
          (try clear hb)
          (try clear hb2)
          (try clear hk)
          (try clear hi)
          refine hK.out _ _ ⟨(blk_cell BK263.out 0).trans rfl, (blk_cell BK263.out 1).trans rfl, (blk_cell BK263.out 2).trans rfl⟩ (fun hHeld => ?_)
          clear hK K
          refine norm_ (a' := ?_) ?_ ?_
          rotate_left
          ·show Act.put _ (some 92) _ = _
           simp only [Act.put, List.setIfInBounds_toArray, List.set_cons_zero, List.set_cons_succ, i64_w, i32_w]
           rfl
          refine one_ (i := 3) (N := none) (bz 5 15) rfl rfl (by kernel_rfl) (by decide) (fun K hK => ?_)
          have hs102 : w101.cell? ⟨gb262, 0, none⟩ = some (.int .i64 0) := (blk_cell BK262.out 0).trans rfl
          have hfs102 := blk_frozen BK262.out 0
          have hns102_0 := NB260_262.out
          have hns102_1 := NB261_262.out
          have hns102_3 := NB263_262.out
          have hms102_0 := NB262_260.out
          have hms102_1 := NB262_261.out
          have hms102_3 := NB262_263.out
          have hs103 : w101.cell? ⟨gb262, 1, none⟩ = some (.int .i64 0) := (blk_cell BK262.out 1).trans rfl
          have hfs103 := blk_frozen BK262.out 1
          have hns103_0 := NB260_262.out
          have hns103_1 := NB261_262.out
          have hns103_3 := NB263_262.out
          have hms103_0 := NB262_260.out
          have hms103_1 := NB262_261.out
          have hms103_3 := NB262_263.out
          have hs104 : w101.cell? ⟨gb262, 2, none⟩ = some (.slice none 0 0) := (blk_cell BK262.out 2).trans rfl
          have hfs104 := blk_frozen BK262.out 2
          have hns104_0 := NB260_262.out
          have hns104_1 := NB261_262.out
          have hns104_3 := NB263_262.out
          have hms104_0 := NB262_260.out
          have hms104_1 := NB262_261.out
          have hms104_3 := NB262_263.out
          refine skip_ (w1 := ?_) (by rfl) rfl ?_ ?_
          rotate_left
          ·go_simp
           rfl
          refine hK.out _ _ ⟨((cell_far (p := ⟨gb262, _, none⟩) NB263_262.out _).trans (((cell_far (p := ⟨gb262, _, none⟩) NB263_262.out _).trans (((cell_far (p := ⟨gb262, _, none⟩) NB263_262.out _).trans (hHeld.1)))))), ((cell_far (p := ⟨gb262, _, none⟩) NB263_262.out _).trans (((cell_far (p := ⟨gb262, _, none⟩) NB263_262.out _).trans (((cell_far (p := ⟨gb262, _, none⟩) NB263_262.out _).trans (hHeld.2.1)))))), ((cell_far (p := ⟨gb262, _, none⟩) NB263_262.out _).trans (((cell_far (p := ⟨gb262, _, none⟩) NB263_262.out _).trans (((cell_far (p := ⟨gb262, _, none⟩) NB263_262.out _).trans (hHeld.2.2))))))⟩ (fun hHeld => ?_)
          clear hK K
          refine pure_ (i := 4) (N := some 5) (v := ?_) (a' := ?_) (bz 5 31) rfl rfl (by kernel_rfl) (fun _ _ _ h => h) (Or.inl ⟨by rfl, ?_⟩) ?_ ?_
          rotate_left
          ·intro w'
           go_simp
           with_reducible rfl
          rotate_left
          ·simp only [Act.put, List.setIfInBounds_toArray, List.set_cons_zero, List.set_cons_succ, i64_w, i32_w]
           rfl
          refine done_ (by kernel_rfl) ?_
          try go_wp2
          refine bodyPost_ret (results_ct rfl _ _ gb262 35 #[.int .i64 x264000_2, .int .i64 (wrap64 (a1_1 + 1)), .slice Ao99 x264002_2.length co99] (0, 0) _ rfl (by refine bU ?_; refine blk_put (cs := #[.int .i64 x264000_2, .int .i64 (wrap64 (a1_1 + 1)), .slice none 0 0]) ?_ 2 _ rfl; refine bU ?_; refine blk_put (cs := #[.int .i64 x264000_2, .int .i64 0, .slice none 0 0]) ?_ 1 _ rfl; refine bU ?_; refine blk_put (cs := #[.int .i64 0, .int .i64 0, .slice none 0 0]) ?_ 0 _ rfl; refine bU ?_; exact BK262.out) Try.underlying35 rfl (by kernel_rfl)) rfl ?_
          exact ⟨_, eE, by (with_reducible repeat (first | apply Kd.R_alloc | apply Kd.R_drewN | apply Kd.R_drew)); exact Kd.R_mono (Kd.R_far (p := ⟨gb262, 2, none⟩) (Kd.R_far (p := ⟨gb262, 1, none⟩) (Kd.R_far (p := ⟨gb262, 0, none⟩) (Kd.R_types HO_264002.out BK262.out (by decide)) (fun _ hk => hk.2) (.int .i64 x264000_2)) (fun _ hk => hk.2) (.int .i64 (wrap64 (a1_1 + 1)))) (fun _ hk => hk.2) (.slice Ao99 x264002_2.length co99)) (fun _ hk => trivial), lU4 GE260.out GE261.out GE262.out GE263.out⟩
        ·rw [if_neg c63] at H
         have c63b0 : decide (x9_2 < a0_3) = false := decide_eq_false c63
         clear c63
         replace H := Option.bind_eq_some_iff.mp H
         obtain ⟨t280, A1050, H⟩ := H
         replace H : (some (x264000_2, (wrap64 (a1_1 + 1)), x264002_2, t280)) = some (r1, r2, r3, r4) := H
         have A105 := Aside0.mk A1050
         clear A1050
         simp only [Option.some.injEq, Prod.mk.injEq] at H
         obtain ⟨rfl, rfl, rfl, rfl⟩ := H
         have hnb106 := NB260_261.out
         have hnc106 := NB261_260.out
         have hnb107 := NB260_262.out
         have hnc107 := NB262_260.out
         have hnb108 := NB260_263.out
         have hnc108 := NB263_260.out
         have hcz109_0 : wr.cell? ⟨gb260, 0, none⟩ = some (.int .i64 a0_0) := (blk_cell BK260.out 0).trans rfl
         have hcz109_1 : wr.cell? ⟨gb260, 1, none⟩ = some (.int .i64 a0_1) := (blk_cell BK260.out 1).trans rfl
         have hcz109_2 : wr.cell? ⟨gb260, 2, none⟩ = some (.int .i64 a0_2) := (blk_cell BK260.out 2).trans rfl
         have hcz109_3 : wr.cell? ⟨gb260, 3, none⟩ = some (.int .i64 a0_3) := (blk_cell BK260.out 3).trans rfl
         have hcz109_4 : wr.cell? ⟨gb260, 4, none⟩ = some (.int .i64 a0_4) := (blk_cell BK260.out 4).trans rfl
         have hcz109_5 : wr.cell? ⟨gb260, 5, none⟩ = some (.int .i64 a0_5) := (blk_cell BK260.out 5).trans rfl
         have hcz109_6 : wr.cell? ⟨gb260, 6, none⟩ = some (.int .i64 a0_6) := (blk_cell BK260.out 6).trans rfl
         have hfz109_0 := blk_frozen BK260.out 0
         have hfz109_1 := blk_frozen BK260.out 1
         have hfz109_2 := blk_frozen BK260.out 2
         have hfz109_3 := blk_frozen BK260.out 3
         have hfz109_4 := blk_frozen BK260.out 4
         have hfz109_5 := blk_frozen BK260.out 5
         have hfz109_6 := blk_frozen BK260.out 6
         try go_wp2
         replace HO_264002 := Aside0.mk (Kd.R_drew HO_264002.out)
         replace BK260 := Aside0.mk (blk_drew BK260.out)
         replace BK261 := Aside0.mk (blk_drew BK261.out)
         replace BK262 := Aside0.mk (blk_drew BK262.out)
         replace BK263 := Aside0.mk (blk_drew BK263.out)
         replace HB := Aside0.mk (below_drew1 HB.out)
         obtain ⟨Ao111, co111, eo111⟩ := Kd.R_slice HO_264002.out
         (first | subst eo111 | (injection eo111 with f1_ f2_ f3_; have f4_ := f1_.symm; have f5_ := f3_.symm; clear f1_ f2_ f3_; subst f4_; subst f5_))
         refine start_ (n := 5) (S := fun w' => w'.cell? ⟨gb263, 0, none⟩ = some (.int .i64 x264000_2) ∧ w'.cell? ⟨gb263, 1, none⟩ = some (.int .i64 (wrap64 (a1_1 + 1))) ∧ w'.cell? ⟨gb263, 2, none⟩ = some (.slice Ao111 x264002_2.length co111)) (ds := []) #[false, false, false, false, false] (by kernel_rfl) rfl rfl ⟨(blk_cell BK263.out 0).trans rfl, (blk_cell BK263.out 1).trans rfl, (blk_cell BK263.out 2).trans rfl⟩ (fun hHeld => ?_)
         generalize wr.drew = w110 at HO_264002 BK260 BK261 BK262 BK263 HB hHeld ⊢
         refine take_ (i := 0) (N := some 90) (v := ?_) (a' := ?_) (bz 5 1) rfl rfl (by kernel_rfl) (fun _ _ _ h => h) (Or.inl ⟨by rfl, ?_⟩) hHeld ?_ ?_
         rotate_left
         ·rintro w' ⟨s0, s1, s2⟩
          go_simp
          with_reducible rfl
         rotate_left
         ·simp only [Act.put, List.setIfInBounds_toArray, List.set_cons_zero, List.set_cons_succ, i64_w, i32_w]
          rfl
         refine take_ (i := 1) (N := some 91) (v := ?_) (a' := ?_) (bz 5 3) rfl rfl (by kernel_rfl) (fun _ _ _ h => h) (Or.inl ⟨by rfl, ?_⟩) hHeld ?_ ?_
         rotate_left
         ·rintro w' ⟨s0, s1, s2⟩
          go_simp
          with_reducible rfl
         rotate_left
         ·simp only [Act.put, List.setIfInBounds_toArray, List.set_cons_zero, List.set_cons_succ, i64_w, i32_w]
          rfl
         refine one_ (i := 2) (N := some 92) (bz 5 7) rfl rfl (by kernel_rfl) (by decide) (fun K hK => ?_)
         refine goes_ Try.func31 (by kernel_rfl) rfl #[.agg #[.int .i64 x264000_2, .int .i64 (wrap64 (a1_1 + 1)), .slice Ao111 x264002_2.length co111]] (by rfl) rfl rfl aE ?_
         with_reducible refine (impl_GoodCloud.calls k2 x264000_2 (wrap64 (a1_1 + 1)) _ _ x264002_2 t280 _ ?side1 ?side2 A105.out).mono ?_
         (case side1 => exact cU (Kd.R_reads' HO_264002.out).2.2)
         (case side2 => exact (Kd.R_reads' HO_264002.out).2.1)
         rintro e w112 ⟨rfl, hb⟩
         refine ⟨_, rfl, ?_⟩
         replace HO_264002 := Aside0.mk (Kd.R_below (rU HO_264002.out) hb)
         replace BK260 := Aside0.mk (blk_below (bU BK260.out) hb)
         replace BK261 := Aside0.mk (blk_below (bU BK261.out) hb)
         replace BK262 := Aside0.mk (blk_below (bU BK262.out) hb)
         replace BK263 := Aside0.mk (blk_below (bU BK263.out) hb)
         replace HB := Aside0.mk (below_step (lU4 GE260.out GE261.out GE262.out GE263.out) hb)
         (try clear hb)
         (try clear hb2)
         (try clear hk)
         (try clear hi)
         refine hK.out _ _ ⟨(blk_cell BK263.out 0).trans rfl, (blk_cell BK263.out 1).trans rfl, (blk_cell BK263.out 2).trans rfl⟩ (fun hHeld => ?_)
         clear hK K
         refine norm_ (a' := ?_) ?_ ?_
         rotate_left
         ·show Act.put _ (some 92) _ = _
          simp only [Act.put, List.setIfInBounds_toArray, List.set_cons_zero, List.set_cons_succ, i64_w, i32_w]
          rfl
         refine one_ (i := 3) (N := none) (bz 5 15) rfl rfl (by kernel_rfl) (by decide) (fun K hK => ?_)
         have hs113 : w112.cell? ⟨gb262, 0, none⟩ = some (.int .i64 0) := (blk_cell BK262.out 0).trans rfl
         have hfs113 := blk_frozen BK262.out 0
         have hns113_0 := NB260_262.out
         have hns113_1 := NB261_262.out
         have hns113_3 := NB263_262.out
         have hms113_0 := NB262_260.out
         have hms113_1 := NB262_261.out
         have hms113_3 := NB262_263.out
         have hs114 : w112.cell? ⟨gb262, 1, none⟩ = some (.int .i64 0) := (blk_cell BK262.out 1).trans rfl
         have hfs114 := blk_frozen BK262.out 1
         have hns114_0 := NB260_262.out
         have hns114_1 := NB261_262.out
         have hns114_3 := NB263_262.out
         have hms114_0 := NB262_260.out
         have hms114_1 := NB262_261.out
         have hms114_3 := NB262_263.out
         have hs115 : w112.cell? ⟨gb262, 2, none⟩ = some (.slice none 0 0) := (blk_cell BK262.out 2).trans rfl
         have hfs115 := blk_frozen BK262.out 2
         have hns115_0 := NB260_262.out
         have hns115_1 := NB261_262.out
         have hns115_3 := NB263_262.out
         have hms115_0 := NB262_260.out
         have hms115_1 := NB262_261.out
         have hms115_3 := NB262_263.out
         refine skip_ (w1 := ?_) (by rfl) rfl ?_ ?_
         rotate_left
         ·go_simp
          rfl
         refine hK.out _ _ ⟨((cell_far (p := ⟨gb262, _, none⟩) NB263_262.out _).trans (((cell_far (p := ⟨gb262, _, none⟩) NB263_262.out _).trans (((cell_far (p := ⟨gb262, _, none⟩) NB263_262.out _).trans (hHeld.1)))))), ((cell_far (p := ⟨gb262, _, none⟩) NB263_262.out _).trans (((cell_far (p := ⟨gb262, _, none⟩) NB263_262.out _).trans (((cell_far (p := ⟨gb262, _, none⟩) NB263_262.out _).trans (hHeld.2.1)))))), ((cell_far (p := ⟨gb262, _, none⟩) NB263_262.out _).trans (((cell_far (p := ⟨gb262, _, none⟩) NB263_262.out _).trans (((cell_far (p := ⟨gb262, _, none⟩) NB263_262.out _).trans (hHeld.2.2))))))⟩ (fun hHeld => ?_)
         clear hK K
         refine pure_ (i := 4) (N := some 5) (v := ?_) (a' := ?_) (bz 5 31) rfl rfl (by kernel_rfl) (fun _ _ _ h => h) (Or.inl ⟨by rfl, ?_⟩) ?_ ?_
         rotate_left
         ·intro w'
          go_simp
          with_reducible rfl
         rotate_left
         ·simp only [Act.put, List.setIfInBounds_toArray, List.set_cons_zero, List.set_cons_succ, i64_w, i32_w]
          rfl
         refine done_ (by kernel_rfl) ?_
         try go_wp2
         refine bodyPost_ret (results_ct rfl _ _ gb262 35 #[.int .i64 x264000_2, .int .i64 (wrap64 (a1_1 + 1)), .slice Ao111 x264002_2.length co111] (0, 0) _ rfl (by refine bU ?_; refine blk_put (cs := #[.int .i64 x264000_2, .int .i64 (wrap64 (a1_1 + 1)), .slice none 0 0]) ?_ 2 _ rfl; refine bU ?_; refine blk_put (cs := #[.int .i64 x264000_2, .int .i64 0, .slice none 0 0]) ?_ 1 _ rfl; refine bU ?_; refine blk_put (cs := #[.int .i64 0, .int .i64 0, .slice none 0 0]) ?_ 0 _ rfl; refine bU ?_; exact BK262.out) Try.underlying35 rfl (by kernel_rfl)) rfl ?_
         exact ⟨_, eE, by (with_reducible repeat (first | apply Kd.R_alloc | apply Kd.R_drewN | apply Kd.R_drew)); exact Kd.R_mono (Kd.R_far (p := ⟨gb262, 2, none⟩) (Kd.R_far (p := ⟨gb262, 1, none⟩) (Kd.R_far (p := ⟨gb262, 0, none⟩) (Kd.R_types HO_264002.out BK262.out (by decide)) (fun _ hk => hk.2) (.int .i64 x264000_2)) (fun _ hk => hk.2) (.int .i64 (wrap64 (a1_1 + 1)))) (fun _ hk => hk.2) (.slice Ao111 x264002_2.length co111)) (fun _ hk => trivial), lU4 GE260.out GE261.out GE262.out GE263.out⟩
     ·rw [if_neg c55] at H
      have c55b0 : ((Int.tmod a1_1 a0_2) == 0) = false := beq_eq_false_iff_ne.mpr c55
      have c55b1 : ((Int.tmod a1_1 a0_2) != 0) = true := bne_iff_ne.mpr c55
      replace H := Option.bind_eq_some_iff.mp H
      obtain ⟨t281, A1160, H⟩ := H
      replace H : (some (a1_0, (wrap64 (a1_1 + 1)), x264002_1, t281)) = some (r1, r2, r3, r4) := H
      have A116 := Aside0.mk A1160
      clear A1160
      simp only [Option.some.injEq, Prod.mk.injEq] at H
      obtain ⟨rfl, rfl, rfl, rfl⟩ := H
      have hnb117 := NB261_260.out
      have hnc117 := NB260_261.out
      have hnb118 := NB261_262.out
      have hnc118 := NB262_261.out
      have hnb119 := NB261_263.out
      have hnc119 := NB263_261.out
      have hcz120_0 : wr.cell? ⟨gb261, 0, none⟩ = some (.int .i64 a1_0) := (blk_cell BK261.out 0).trans rfl
      have hcz120_1 : wr.cell? ⟨gb261, 1, none⟩ = some (.int .i64 a1_1) := (blk_cell BK261.out 1).trans rfl
      have hcz120_2 : wr.cell? ⟨gb261, 2, none⟩ = some (.slice A1_2 l1_2.length c1_2) := (blk_cell BK261.out 2).trans rfl
      have hfz120_0 := blk_frozen BK261.out 0
      have hfz120_1 := blk_frozen BK261.out 1
      have hfz120_2 := blk_frozen BK261.out 2
      have hnb121 := NB260_262.out
      have hnc121 := NB262_260.out
      have hnb122 := NB260_263.out
      have hnc122 := NB263_260.out
      have hcz123_0 : wr.cell? ⟨gb260, 0, none⟩ = some (.int .i64 a0_0) := (blk_cell BK260.out 0).trans rfl
      have hcz123_1 : wr.cell? ⟨gb260, 1, none⟩ = some (.int .i64 a0_1) := (blk_cell BK260.out 1).trans rfl
      have hcz123_2 : wr.cell? ⟨gb260, 2, none⟩ = some (.int .i64 a0_2) := (blk_cell BK260.out 2).trans rfl
      have hcz123_3 : wr.cell? ⟨gb260, 3, none⟩ = some (.int .i64 a0_3) := (blk_cell BK260.out 3).trans rfl
      have hcz123_4 : wr.cell? ⟨gb260, 4, none⟩ = some (.int .i64 a0_4) := (blk_cell BK260.out 4).trans rfl
      have hcz123_5 : wr.cell? ⟨gb260, 5, none⟩ = some (.int .i64 a0_5) := (blk_cell BK260.out 5).trans rfl
      have hcz123_6 : wr.cell? ⟨gb260, 6, none⟩ = some (.int .i64 a0_6) := (blk_cell BK260.out 6).trans rfl
      have hfz123_0 := blk_frozen BK260.out 0
      have hfz123_1 := blk_frozen BK260.out 1
      have hfz123_2 := blk_frozen BK260.out 2
      have hfz123_3 := blk_frozen BK260.out 3
      have hfz123_4 := blk_frozen BK260.out 4
      have hfz123_5 := blk_frozen BK260.out 5
      have hfz123_6 := blk_frozen BK260.out 6
      try go_wp2
      replace HO_264002 := Aside0.mk (Kd.R_drew HO_264002.out)
      replace BK260 := Aside0.mk (blk_drew BK260.out)
      replace BK261 := Aside0.mk (blk_drew BK261.out)
      replace BK262 := Aside0.mk (blk_drew BK262.out)
      replace BK263 := Aside0.mk (blk_drew BK263.out)
      replace HB := Aside0.mk (below_drew1 HB.out)
      obtain ⟨Ao125, co125, eo125⟩ := Kd.R_slice HO_264002.out
      (first | subst eo125 | (injection eo125 with f1_ f2_ f3_; have f4_ := f1_.symm; have f5_ := f3_.symm; clear f1_ f2_ f3_; subst f4_; subst f5_))
      refine start_ (n := 5) (S := fun w' => w'.cell? ⟨gb263, 0, none⟩ = some (.int .i64 a1_0) ∧ w'.cell? ⟨gb263, 1, none⟩ = some (.int .i64 (wrap64 (a1_1 + 1))) ∧ w'.cell? ⟨gb263, 2, none⟩ = some (.slice Ao125 x264002_1.length co125)) (ds := []) #[false, false, false, false, false] (by kernel_rfl) rfl rfl ⟨(blk_cell BK263.out 0).trans rfl, (blk_cell BK263.out 1).trans rfl, (blk_cell BK263.out 2).trans rfl⟩ (fun hHeld => ?_)
      generalize wr.drew = w124 at HO_264002 BK260 BK261 BK262 BK263 HB hHeld ⊢
      refine take_ (i := 0) (N := some 90) (v := ?_) (a' := ?_) (bz 5 1) rfl rfl (by kernel_rfl) (fun _ _ _ h => h) (Or.inl ⟨by rfl, ?_⟩) hHeld ?_ ?_
      rotate_left
      ·rintro w' ⟨s0, s1, s2⟩
       go_simp
       with_reducible rfl
      rotate_left
      ·simp only [Act.put, List.setIfInBounds_toArray, List.set_cons_zero, List.set_cons_succ, i64_w, i32_w]
       rfl
      refine take_ (i := 1) (N := some 91) (v := ?_) (a' := ?_) (bz 5 3) rfl rfl (by kernel_rfl) (fun _ _ _ h => h) (Or.inl ⟨by rfl, ?_⟩) hHeld ?_ ?_
      rotate_left
      ·rintro w' ⟨s0, s1, s2⟩
       go_simp
       with_reducible rfl
      rotate_left
      ·simp only [Act.put, List.setIfInBounds_toArray, List.set_cons_zero, List.set_cons_succ, i64_w, i32_w]
       rfl
      refine one_ (i := 2) (N := some 92) (bz 5 7) rfl rfl (by kernel_rfl) (by decide) (fun K hK => ?_)
      refine goes_ Try.func31 (by kernel_rfl) rfl #[.agg #[.int .i64 a1_0, .int .i64 (wrap64 (a1_1 + 1)), .slice Ao125 x264002_1.length co125]] (by rfl) rfl rfl aE ?_
      with_reducible refine (impl_GoodCloud.calls k1 a1_0 (wrap64 (a1_1 + 1)) _ _ x264002_1 t281 _ ?side1 ?side2 A116.out).mono ?_
      (case side1 => exact cU (Kd.R_reads' HO_264002.out).2.2)
      (case side2 => exact (Kd.R_reads' HO_264002.out).2.1)
      rintro e w126 ⟨rfl, hb⟩
      refine ⟨_, rfl, ?_⟩
      replace HO_264002 := Aside0.mk (Kd.R_below (rU HO_264002.out) hb)
      replace BK260 := Aside0.mk (blk_below (bU BK260.out) hb)
      replace BK261 := Aside0.mk (blk_below (bU BK261.out) hb)
      replace BK262 := Aside0.mk (blk_below (bU BK262.out) hb)
      replace BK263 := Aside0.mk (blk_below (bU BK263.out) hb)
      replace HB := Aside0.mk (below_step (lU4 GE260.out GE261.out GE262.out GE263.out) hb)
      (try clear hb)
      (try clear hb2)
      (try clear hk)
      (try clear hi)
      refine hK.out _ _ ⟨(blk_cell BK263.out 0).trans rfl, (blk_cell BK263.out 1).trans rfl, (blk_cell BK263.out 2).trans rfl⟩ (fun hHeld => ?_)
      clear hK K
      refine norm_ (a' := ?_) ?_ ?_
      rotate_left
      ·show Act.put _ (some 92) _ = _
       simp only [Act.put, List.setIfInBounds_toArray, List.set_cons_zero, List.set_cons_succ, i64_w, i32_w]
       rfl
      refine one_ (i := 3) (N := none) (bz 5 15) rfl rfl (by kernel_rfl) (by decide) (fun K hK => ?_)
      have hs127 : w126.cell? ⟨gb262, 0, none⟩ = some (.int .i64 0) := (blk_cell BK262.out 0).trans rfl
      have hfs127 := blk_frozen BK262.out 0
      have hns127_0 := NB260_262.out
      have hns127_1 := NB261_262.out
      have hns127_3 := NB263_262.out
      have hms127_0 := NB262_260.out
      have hms127_1 := NB262_261.out
      have hms127_3 := NB262_263.out
      have hs128 : w126.cell? ⟨gb262, 1, none⟩ = some (.int .i64 0) := (blk_cell BK262.out 1).trans rfl
      have hfs128 := blk_frozen BK262.out 1
      have hns128_0 := NB260_262.out
      have hns128_1 := NB261_262.out
      have hns128_3 := NB263_262.out
      have hms128_0 := NB262_260.out
      have hms128_1 := NB262_261.out
      have hms128_3 := NB262_263.out
      have hs129 : w126.cell? ⟨gb262, 2, none⟩ = some (.slice none 0 0) := (blk_cell BK262.out 2).trans rfl
      have hfs129 := blk_frozen BK262.out 2
      have hns129_0 := NB260_262.out
      have hns129_1 := NB261_262.out
      have hns129_3 := NB263_262.out
      have hms129_0 := NB262_260.out
      have hms129_1 := NB262_261.out
      have hms129_3 := NB262_263.out
      refine skip_ (w1 := ?_) (by rfl) rfl ?_ ?_
      rotate_left
      ·go_simp
       rfl
      refine hK.out _ _ ⟨((cell_far (p := ⟨gb262, _, none⟩) NB263_262.out _).trans (((cell_far (p := ⟨gb262, _, none⟩) NB263_262.out _).trans (((cell_far (p := ⟨gb262, _, none⟩) NB263_262.out _).trans (hHeld.1)))))), ((cell_far (p := ⟨gb262, _, none⟩) NB263_262.out _).trans (((cell_far (p := ⟨gb262, _, none⟩) NB263_262.out _).trans (((cell_far (p := ⟨gb262, _, none⟩) NB263_262.out _).trans (hHeld.2.1)))))), ((cell_far (p := ⟨gb262, _, none⟩) NB263_262.out _).trans (((cell_far (p := ⟨gb262, _, none⟩) NB263_262.out _).trans (((cell_far (p := ⟨gb262, _, none⟩) NB263_262.out _).trans (hHeld.2.2))))))⟩ (fun hHeld => ?_)
      clear hK K
      refine pure_ (i := 4) (N := some 5) (v := ?_) (a' := ?_) (bz 5 31) rfl rfl (by kernel_rfl) (fun _ _ _ h => h) (Or.inl ⟨by rfl, ?_⟩) ?_ ?_
      rotate_left
      ·intro w'
       go_simp
       with_reducible rfl
      rotate_left
      ·simp only [Act.put, List.setIfInBounds_toArray, List.set_cons_zero, List.set_cons_succ, i64_w, i32_w]
       rfl
      refine done_ (by kernel_rfl) ?_
      try go_wp2
      refine bodyPost_ret (results_ct rfl _ _ gb262 35 #[.int .i64 a1_0, .int .i64 (wrap64 (a1_1 + 1)), .slice Ao125 x264002_1.length co125] (0, 0) _ rfl (by refine bU ?_; refine blk_put (cs := #[.int .i64 a1_0, .int .i64 (wrap64 (a1_1 + 1)), .slice none 0 0]) ?_ 2 _ rfl; refine bU ?_; refine blk_put (cs := #[.int .i64 a1_0, .int .i64 0, .slice none 0 0]) ?_ 1 _ rfl; refine bU ?_; refine blk_put (cs := #[.int .i64 0, .int .i64 0, .slice none 0 0]) ?_ 0 _ rfl; refine bU ?_; exact BK262.out) Try.underlying35 rfl (by kernel_rfl)) rfl ?_
      exact ⟨_, eE, by (with_reducible repeat (first | apply Kd.R_alloc | apply Kd.R_drewN | apply Kd.R_drew)); exact Kd.R_mono (Kd.R_far (p := ⟨gb262, 2, none⟩) (Kd.R_far (p := ⟨gb262, 1, none⟩) (Kd.R_far (p := ⟨gb262, 0, none⟩) (Kd.R_types HO_264002.out BK262.out (by decide)) (fun _ hk => hk.2) (.int .i64 a1_0)) (fun _ hk => hk.2) (.int .i64 (wrap64 (a1_1 + 1)))) (fun _ hk => hk.2) (.slice Ao125 x264002_1.length co125)) (fun _ hk => trivial), lU4 GE260.out GE261.out GE262.out GE263.out⟩
end Go.Proofs.Ythgfobcckoedaaa.PFnExactStepCloud
namespace Go.Proofs.Ythgfobcckoedaaa.PFnExactStepCloud
open Go.RowKit Go.Proofs.YthgfobcckoedaaaW.PrintWords Go.Proofs.YthgfobcckoedaaaW.PrintLast Go.Proofs.YthgfobcckoedaaaW.PrintMore
attribute [local go_sem] max2_int min2_int max_two min_two max_three min_three max_four min_four   -- for this text's walks alone
set_option linter.unusedVariables false
set_option linter.unusedSimpArgs false
mutual
def impl_RunCloud.j0 : Nat → Int → Bool → Int → Int → Int → Int → Int → Int → Int → Int → Int → List (S48) → Option (Int × Int × (List (S48)) × Bool)
 | 0, _, _, _, _, _, _, _, _, _, _, _, _ => none
 | k + 1, x2, x25, x283000, x283001, x283002, x283003, x283004, x283005, x283006, x284000, x284001, x284002 => if x25 = true then (some (0, 0, ([] : List (S48)), false)) else ((impl_Spark_33.f x284002).bind fun t288 => (impl_RunCloud.l0 k x2 0 x283000 x283001 x283002 x283003 x283004 x283005 x283006 x284000 x284001 t288))
def impl_RunCloud.l0 : Nat → Int → Int → Int → Int → Int → Int → Int → Int → Int → Int → Int → List (S48) → Option (Int × Int × (List (S48)) × Bool)
 | 0, _, _, _, _, _, _, _, _, _, _, _, _ => none
 | k + 1, x35, x36, x283000, x283001, x283002, x283003, x283004, x283005, x283006, x292000, x292001, x292002 => if x36 < x35 then ((impl_Emitter_step.f k x283000 x283001 x283002 x283003 x283004 x283005 x283006 x292000 x292001 x292002).bind fun bt292 => (if bt292.2.2.2 = true then (impl_RunCloud.l0 k x35 (wrap64 (x36 + 1)) x283000 x283001 x283002 x283003 x283004 x283005 x283006 bt292.1 bt292.2.1 bt292.2.2.1) else (some (0, 0, ([] : List (S48)), false)))) else (some (x292000, x292001, x292002, true))
end
def impl_RunCloud.f (k : Nat) (a0_0 : Int) (a0_1 : Int) (a0_2 : Int) (a0_3 : Int) (a0_4 : Int) (a0_5 : Int) (a0_6 : Int) (a1_0 : Int) (a1_1 : Int) (l1_2 : List (S48)) (a2 : Int) : Option (Int × Int × (List (S48)) × Bool) := (impl_GoodEmitter.f a0_0 a0_1 a0_2 a0_3 a0_4 a0_5 a0_6).bind fun t285 => (if t285 = true then ((impl_GoodCloud.f k a1_0 a1_1 l1_2).bind fun t286 => (if t286 = true then ((impl_inRange.f a2 0 (wrap64 (200 - a1_1))).bind fun t287 => (impl_RunCloud.j0 k a2 (!t287) a0_0 a0_1 a0_2 a0_3 a0_4 a0_5 a0_6 a1_0 a1_1 l1_2)) else (impl_RunCloud.j0 k a2 true a0_0 a0_1 a0_2 a0_3 a0_4 a0_5 a0_6 a1_0 a1_1 l1_2))) else (impl_RunCloud.j0 k a2 true a0_0 a0_1 a0_2 a0_3 a0_4 a0_5 a0_6 a1_0 a1_1 l1_2))
theorem impl_RunCloud.mono_l : ∀ k, (∀ y0 y1 y2 y3 y4 y5 y6 y7 y8 y9 y10 y11, LeO (impl_RunCloud.j0 k y0 y1 y2 y3 y4 y5 y6 y7 y8 y9 y10 y11) (impl_RunCloud.j0 (k + 1) y0 y1 y2 y3 y4 y5 y6 y7 y8 y9 y10 y11)) ∧ (∀ y0 y1 y2 y3 y4 y5 y6 y7 y8 y9 y10 y11, LeO (impl_RunCloud.l0 k y0 y1 y2 y3 y4 y5 y6 y7 y8 y9 y10 y11) (impl_RunCloud.l0 (k + 1) y0 y1 y2 y3 y4 y5 y6 y7 y8 y9 y10 y11))
 | 0 => ⟨fun _ _ _ _ _ _ _ _ _ _ _ _ r h => by simp [impl_RunCloud.j0] at h, fun _ _ _ _ _ _ _ _ _ _ _ _ r h => by simp [impl_RunCloud.l0] at h⟩
 | k + 1 => by
  obtain ⟨ih0, ih1⟩ := impl_RunCloud.mono_l k
  refine ⟨?_, ?_⟩
  ·intro y0 y1 y2 y3 y4 y5 y6 y7 y8 y9 y10 y11
   unfold impl_RunCloud.j0
   repeat' first
   | (with_reducible exact ih0 _ _ _ _ _ _ _ _ _ _ _ _)
   | (with_reducible exact ih1 _ _ _ _ _ _ _ _ _ _ _ _)
   | (with_reducible exact impl_Emitter_step.mono _ _ _ _ _ _ _ _ _ _ _)
   | (with_reducible exact impl_GoodCloud.mono _ _ _ _)
   | (with_reducible exact LeO.refl _)
   | (with_reducible exact LeO.none _)
   | (with_reducible refine LeO.ite ?_ ?_)
   | (with_reducible refine LeO.bind ?_ (fun _ => ?_))
   | exact ih0 _ _ _ _ _ _ _ _ _ _ _ _
   | exact ih1 _ _ _ _ _ _ _ _ _ _ _ _
   | exact impl_Emitter_step.mono _ _ _ _ _ _ _ _ _ _ _
   | exact impl_GoodCloud.mono _ _ _ _
   | exact LeO.none _
   | refine LeO.ite ?_ ?_
   | refine LeO.bind ?_ (fun _ => ?_)
  ·intro y0 y1 y2 y3 y4 y5 y6 y7 y8 y9 y10 y11
   unfold impl_RunCloud.l0
   repeat' first
   | (with_reducible exact ih0 _ _ _ _ _ _ _ _ _ _ _ _)
   | (with_reducible exact ih1 _ _ _ _ _ _ _ _ _ _ _ _)
   | (with_reducible exact impl_Emitter_step.mono _ _ _ _ _ _ _ _ _ _ _)
   | (with_reducible exact impl_GoodCloud.mono _ _ _ _)
   | (with_reducible exact LeO.refl _)
   | (with_reducible exact LeO.none _)
   | (with_reducible refine LeO.ite ?_ ?_)
   | (with_reducible refine LeO.bind ?_ (fun _ => ?_))
   | exact ih0 _ _ _ _ _ _ _ _ _ _ _ _
   | exact ih1 _ _ _ _ _ _ _ _ _ _ _ _
   | exact impl_Emitter_step.mono _ _ _ _ _ _ _ _ _ _ _
   | exact impl_GoodCloud.mono _ _ _ _
   | exact LeO.none _
   | refine LeO.ite ?_ ?_
   | refine LeO.bind ?_ (fun _ => ?_)
theorem impl_RunCloud.mono : ∀ a0 a1 a2 a3 a4 a5 a6 a7 a8 a9 a10 k, LeO (impl_RunCloud.f k a0 a1 a2 a3 a4 a5 a6 a7 a8 a9 a10) (impl_RunCloud.f (k + 1) a0 a1 a2 a3 a4 a5 a6 a7 a8 a9 a10) := by
 intro a0 a1 a2 a3 a4 a5 a6 a7 a8 a9 a10 k
 obtain ⟨ih0, ih1⟩ := impl_RunCloud.mono_l k
 unfold impl_RunCloud.f
 repeat' first
   | (with_reducible exact ih0 _ _ _ _ _ _ _ _ _ _ _ _)
   | (with_reducible exact ih1 _ _ _ _ _ _ _ _ _ _ _ _)
   | (with_reducible exact impl_Emitter_step.mono _ _ _ _ _ _ _ _ _ _ _)
   | (with_reducible exact impl_GoodCloud.mono _ _ _ _)
   | (with_reducible exact LeO.refl _)
   | (with_reducible exact LeO.none _)
   | (with_reducible refine LeO.ite ?_ ?_)
   | (with_reducible refine LeO.bind ?_ (fun _ => ?_))
   | exact ih0 _ _ _ _ _ _ _ _ _ _ _ _
   | exact ih1 _ _ _ _ _ _ _ _ _ _ _ _
   | exact impl_Emitter_step.mono _ _ _ _ _ _ _ _ _ _ _
   | exact impl_GoodCloud.mono _ _ _ _
   | exact LeO.none _
   | refine LeO.ite ?_ ?_
   | refine LeO.bind ?_ (fun _ => ?_)
def impl_RunCloud.T3 : Bool × List (List Nat × List Nat) := (true, [([], []), ([0], [0]), ([], []), ([2], [2]), ([], []), ([4], [4]), ([5], [5]), ([1, 3, 6], [1, 3, 6]), ([], []), ([8, 7, 6, 0, 1, 2, 3, 4, 5, 6, 7, 8], [7, 8]), ([9, 0, 1, 2, 3, 4, 5, 6, 7, 8, 9], [])])
def impl_RunCloud.B3 : List Nat := [0, 1, 0, 4, 0, 16, 48, 127, 0, 511, 1023]
theorem impl_RunCloud.tab3 : rtab .any (opsOf Try.f17 3) = impl_RunCloud.T3 := by kernel_rfl
theorem impl_RunCloud.bits3 : waitsOk impl_RunCloud.T3.2 impl_RunCloud.B3 = true := by kernel_rfl
set_option maxHeartbeats 8000000 in
set_option maxRecDepth 100000 in
theorem impl_RunCloud.calls (k : Nat) (a0_0 : Int) (a0_1 : Int) (a0_2 : Int) (a0_3 : Int) (a0_4 : Int) (a0_5 : Int) (a0_6 : Int) (a1_0 : Int) (a1_1 : Int) (A1_2 : Option Addr) (c1_2 : Nat) (l1_2 : List (S48)) (a2 : Int) (r1 : Int) (r2 : Int) (r3 : List (S48)) (r4 : Bool) (w : World) (hr1_2 : Kd.C k48 w A1_2 l1_2.length l1_2) (hc1_2 : l1_2.length ≤ c1_2) (h : impl_RunCloud.f k a0_0 a0_1 a0_2 a0_3 a0_4 a0_5 a0_6 a1_0 a1_1 l1_2 a2 = some (r1, r2, r3, r4)) :
  Calls Try.prog 17 #[.agg #[.int .i64 a0_0, .int .i64 a0_1, .int .i64 a0_2, .int .i64 a0_3, .int .i64 a0_4, .int .i64 a0_5, .int .i64 a0_6], .agg #[.int .i64 a1_0, .int .i64 a1_1, .slice A1_2 l1_2.length c1_2], .int .i64 a2] w fun e w' => ∃ v2_ : Value, e = .returned (.tuple #[.agg #[.int .i64 r1, .int .i64 r2, v2_], .bool r4]) ∧ Kd.R k48 48 w' w.heap.size (fun _ => True) v2_ r3 ∧ Below w.heap.size w w' := by
 have hu26 := Try.underlying26
 have hu35 := Try.underlying35
 have HR1_2 := Aside0.mk hr1_2
 have HC1_2 := Aside0.mk hc1_2
 clear hr1_2 hc1_2
 have HB := Aside0.mk (Below.refl w.heap.size w)
 have H : ((impl_GoodEmitter.f a0_0 a0_1 a0_2 a0_3 a0_4 a0_5 a0_6).bind fun t285 => (if t285 = true then ((impl_GoodCloud.f k a1_0 a1_1 l1_2).bind fun t286 => (if t286 = true then ((impl_inRange.f a2 0 (wrap64 (200 - a1_1))).bind fun t287 => (impl_RunCloud.j0 k a2 (!t287) a0_0 a0_1 a0_2 a0_3 a0_4 a0_5 a0_6 a1_0 a1_1 l1_2)) else (impl_RunCloud.j0 k a2 true a0_0 a0_1 a0_2 a0_3 a0_4 a0_5 a0_6 a1_0 a1_1 l1_2))) else (impl_RunCloud.j0 k a2 true a0_0 a0_1 a0_2 a0_3 a0_4 a0_5 a0_6 a1_0 a1_1 l1_2))) = some (r1, r2, r3, r4) := h
 clear h
 have HC4 := Aside0.mk H
 clear H
 go_enter Try.func17, Try.ntmps17
 go_upto_region 1 with (first | ((with_reducible refine gate_dst (N := 3) rfl ?_); refine box_event rfl (N := 3) rfl (cs := #[.int .i64 a0_0, .int .i64 a0_1, .int .i64 a0_2, .int .i64 a0_3, .int .i64 a0_4, .int .i64 a0_5, .int .i64 a0_6]) (t := 26) sE ?_; intro gb282 hg w5 hbox hb; have BK282 := Aside0.mk hbox; have GW282 := gS w hg (lU); have GE282 := GW282; replace HB := Aside0.mk (below_step (lU) hb); clear hb hbox hg) | ((with_reducible refine gate_dst (N := 4) rfl ?_); refine box_event rfl (N := 4) rfl (cs := #[.int .i64 a1_0, .int .i64 a1_1, .slice A1_2 l1_2.length c1_2]) (t := 35) sE ?_; intro gb283 hg w6 hbox hb; have BK283 := Aside0.mk hbox; have GW283 := gS w hg (lU1 GE282.out); have GE283 := GW283; replace HB := Aside0.mk (below_step (lU1 GE282.out) hb); have NB282_283 := nL hg (bU BK282.out); have NB283_282 := nG hg (bU BK282.out); replace BK282 := Aside0.mk (blk_below (bU BK282.out) hb); clear hb hbox hg) | ((with_reducible refine gate_dst (N := 6) rfl ?_); refine box_event rfl (N := 6) rfl (cs := #[.int .i64 0, .int .i64 0, .slice none 0 0]) (t := 35) sE ?_; intro gb284 hg w7 hbox hb; have BK284 := Aside0.mk hbox; have GW284 := gS w hg (lU2 GE282.out GE283.out); have GE284 := GW284; replace HB := Aside0.mk (below_step (lU2 GE282.out GE283.out) hb); have NB282_284 := nL hg (bU BK282.out); have NB284_282 := nG hg (bU BK282.out); replace BK282 := Aside0.mk (blk_below (bU BK282.out) hb); have NB283_284 := nL hg (bU BK283.out); have NB284_283 := nG hg (bU BK283.out); replace BK283 := Aside0.mk (blk_below (bU BK283.out) hb); clear hb hbox hg))
 (try simp only [Act.put, List.setIfInBounds_toArray, List.set_cons_zero, List.set_cons_succ])
 go_cut [25] (fun v25 wc => ∃ (kq : Nat) (x25_3 : Bool), v25 = .bool x25_3 ∧ Aside0 (impl_RunCloud.j0 kq a2 x25_3 a0_0 a0_1 a0_2 a0_3 a0_4 a0_5 a0_6 a1_0 a1_1 l1_2 = some (r1, r2, r3, r4)) ∧ Aside0 (kq ≤ k) ∧ Aside0 (wc.heap[gb282]? = some (.cells #[.int .i64 a0_0, .int .i64 a0_1, .int .i64 a0_2, .int .i64 a0_3, .int .i64 a0_4, .int .i64 a0_5, .int .i64 a0_6] 26 (0, 0))) ∧ Aside0 (wc.heap[gb283]? = some (.cells #[.int .i64 a1_0, .int .i64 a1_1, (.slice A1_2 l1_2.length c1_2)] 35 (0, 0))) ∧ Aside0 (wc.heap[gb284]? = some (.cells #[.int .i64 0, .int .i64 0, (.slice none 0 0)] 35 (0, 0))) ∧ Aside0 (Below w.heap.size w wc))
 case first =>
  have H := HC4.out
  clear HC4
  replace H := Option.bind_eq_some_iff.mp H
  obtain ⟨t285, A80, H⟩ := H
  replace H : (if t285 = true then ((impl_GoodCloud.f k a1_0 a1_1 l1_2).bind fun t286 => (if t286 = true then ((impl_inRange.f a2 0 (wrap64 (200 - a1_1))).bind fun t287 => (impl_RunCloud.j0 k a2 (!t287) a0_0 a0_1 a0_2 a0_3 a0_4 a0_5 a0_6 a1_0 a1_1 l1_2)) else (impl_RunCloud.j0 k a2 true a0_0 a0_1 a0_2 a0_3 a0_4 a0_5 a0_6 a1_0 a1_1 l1_2))) else (impl_RunCloud.j0 k a2 true a0_0 a0_1 a0_2 a0_3 a0_4 a0_5 a0_6 a1_0 a1_1 l1_2)) = some (r1, r2, r3, r4) := H
  have A8 := Aside0.mk A80
  clear A80
  by_cases c9 : t285 = true
  ·subst c9
   have H1 : ((impl_GoodCloud.f k a1_0 a1_1 l1_2).bind fun t286 => (if t286 = true then ((impl_inRange.f a2 0 (wrap64 (200 - a1_1))).bind fun t287 => (impl_RunCloud.j0 k a2 (!t287) a0_0 a0_1 a0_2 a0_3 a0_4 a0_5 a0_6 a1_0 a1_1 l1_2)) else (impl_RunCloud.j0 k a2 true a0_0 a0_1 a0_2 a0_3 a0_4 a0_5 a0_6 a1_0 a1_1 l1_2))) = some (r1, r2, r3, r4) := by rw [if_pos rfl] at H; exact H
   clear H
   have H := H1
   clear H1
   replace H := Option.bind_eq_some_iff.mp H
   obtain ⟨t286, A100, H⟩ := H
   replace H : (if t286 = true then ((impl_inRange.f a2 0 (wrap64 (200 - a1_1))).bind fun t287 => (impl_RunCloud.j0 k a2 (!t287) a0_0 a0_1 a0_2 a0_3 a0_4 a0_5 a0_6 a1_0 a1_1 l1_2)) else (impl_RunCloud.j0 k a2 true a0_0 a0_1 a0_2 a0_3 a0_4 a0_5 a0_6 a1_0 a1_1 l1_2)) = some (r1, r2, r3, r4) := H
   have A10 := Aside0.mk A100
   clear A100
   by_cases c11 : t286 = true
   ·subst c11
    have H1 : ((impl_inRange.f a2 0 (wrap64 (200 - a1_1))).bind fun t287 => (impl_RunCloud.j0 k a2 (!t287) a0_0 a0_1 a0_2 a0_3 a0_4 a0_5 a0_6 a1_0 a1_1 l1_2)) = some (r1, r2, r3, r4) := by rw [if_pos rfl] at H; exact H
    clear H
    have H := H1
    clear H1
    replace H := Option.bind_eq_some_iff.mp H
    obtain ⟨t287, A120, H⟩ := H
    replace H : (impl_RunCloud.j0 k a2 (!t287) a0_0 a0_1 a0_2 a0_3 a0_4 a0_5 a0_6 a1_0 a1_1 l1_2) = some (r1, r2, r3, r4) := H
    have A12 := Aside0.mk A120
    clear A120
    have H' := Aside0.mk H
    clear H
    have hnb13 := NB282_283.out
    have hnc13 := NB283_282.out
    have hnb14 := NB282_284.out
    have hnc14 := NB284_282.out
    have hcz15_0 : w7.cell? ⟨gb282, 0, none⟩ = some (.int .i64 a0_0) := (blk_cell BK282.out 0).trans rfl
    have hcz15_1 : w7.cell? ⟨gb282, 1, none⟩ = some (.int .i64 a0_1) := (blk_cell BK282.out 1).trans rfl
    have hcz15_2 : w7.cell? ⟨gb282, 2, none⟩ = some (.int .i64 a0_2) := (blk_cell BK282.out 2).trans rfl
    have hcz15_3 : w7.cell? ⟨gb282, 3, none⟩ = some (.int .i64 a0_3) := (blk_cell BK282.out 3).trans rfl
    have hcz15_4 : w7.cell? ⟨gb282, 4, none⟩ = some (.int .i64 a0_4) := (blk_cell BK282.out 4).trans rfl
    have hcz15_5 : w7.cell? ⟨gb282, 5, none⟩ = some (.int .i64 a0_5) := (blk_cell BK282.out 5).trans rfl
    have hcz15_6 : w7.cell? ⟨gb282, 6, none⟩ = some (.int .i64 a0_6) := (blk_cell BK282.out 6).trans rfl
    have hfz15_0 := blk_frozen BK282.out 0
    have hfz15_1 := blk_frozen BK282.out 1
    have hfz15_2 := blk_frozen BK282.out 2
    have hfz15_3 := blk_frozen BK282.out 3
    have hfz15_4 := blk_frozen BK282.out 4
    have hfz15_5 := blk_frozen BK282.out 5
    have hfz15_6 := blk_frozen BK282.out 6
    go_wp2_with (first | ((with_reducible refine gate_callee (f := 30) rfl ?_); refine goesL_ (some 11) rfl rfl Try.func30 (by kernel_rfl) rfl #[.agg #[.int .i64 a0_0, .int .i64 a0_1, .int .i64 a0_2, .int .i64 a0_3, .int .i64 a0_4, .int .i64 a0_5, .int .i64 a0_6]] rfl aE ?_; (with_reducible refine (impl_GoodEmitter.calls a0_0 a0_1 a0_2 a0_3 a0_4 a0_5 a0_6 true _ A8.out).mono ?_); rintro e w16 ⟨rfl, hb⟩; refine ⟨_, rfl, ?_⟩; replace BK282 := Aside0.mk (blk_below (bU BK282.out) hb); replace BK283 := Aside0.mk (blk_below (bU BK283.out) hb); replace BK284 := Aside0.mk (blk_below (bU BK284.out) hb); replace HB := Aside0.mk (below_step (lU3 GE282.out GE283.out GE284.out) hb); (try clear hb); (try clear hb2); (try clear hk); (try clear hi); have hnb17 := NB283_284.out; have hnc17 := NB284_283.out; have hcz18_0 : w16.cell? ⟨gb283, 0, none⟩ = some (.int .i64 a1_0) := (blk_cell BK283.out 0).trans rfl; have hcz18_1 : w16.cell? ⟨gb283, 1, none⟩ = some (.int .i64 a1_1) := (blk_cell BK283.out 1).trans rfl; have hcz18_2 : w16.cell? ⟨gb283, 2, none⟩ = some (.slice A1_2 l1_2.length c1_2) := (blk_cell BK283.out 2).trans rfl; have hfz18_0 := blk_frozen BK283.out 0; have hfz18_1 := blk_frozen BK283.out 1; have hfz18_2 := blk_frozen BK283.out 2) | (go_at_call 31; (with_reducible refine (impl_GoodCloud.calls k a1_0 a1_1 _ _ l1_2 true _ ?side1 ?side2 A10.out).mono ?_); (case side1 => exact cU (Kd.C_below HR1_2.out HB.out)); (case side2 => exact HC1_2.out); rintro e w19 ⟨rfl, hb⟩; replace BK282 := Aside0.mk (blk_below (bU BK282.out) hb); replace BK283 := Aside0.mk (blk_below (bU BK283.out) hb); replace BK284 := Aside0.mk (blk_below (bU BK284.out) hb); replace HB := Aside0.mk (below_step (lU3 GE282.out GE283.out GE284.out) hb); (try clear hb); (try clear hb2); (try clear hk); (try clear hi); have hcz20_0 : w19.cell? ⟨gb283, 0, none⟩ = some (.int .i64 a1_0) := (blk_cell BK283.out 0).trans rfl; have hcz20_1 : w19.cell? ⟨gb283, 1, none⟩ = some (.int .i64 a1_1) := (blk_cell BK283.out 1).trans rfl; have hcz20_2 : w19.cell? ⟨gb283, 2, none⟩ = some (.slice A1_2 l1_2.length c1_2) := (blk_cell BK283.out 2).trans rfl; have hfz20_0 := blk_frozen BK283.out 0; have hfz20_1 := blk_frozen BK283.out 1; have hfz20_2 := blk_frozen BK283.out 2) | (go_at_call 32; (with_reducible refine (impl_inRange.calls a2 0 (wrap64 (200 - a1_1)) t287 _ A12.out).mono ?_); rintro e w' ⟨rfl, ⟨nd, rfl⟩⟩))
    go_meet
    case rel => exact ⟨_, (!t287), tE, H', ⟨by first | omega | exact Nat.le_refl _⟩, ⟨by refine bU ?_; exact BK282.out⟩, ⟨by refine bU ?_; exact BK283.out⟩, ⟨by refine bU ?_; exact BK284.out⟩, ⟨by repeat (first | (with_reducible first | exact HB.out | apply below_alloc | apply pw_below_drewN | apply below_drew1 | refine below_set ?_ GE282.out | refine below_set ?_ GE283.out | refine below_set ?_ GE284.out) | exact HB.out)⟩⟩
   ·replace c11 := Bool.eq_false_iff.mpr c11
    subst c11
    have H1 : (impl_RunCloud.j0 k a2 true a0_0 a0_1 a0_2 a0_3 a0_4 a0_5 a0_6 a1_0 a1_1 l1_2) = some (r1, r2, r3, r4) := by rw [if_neg (show ¬ (false = true) by decide)] at H; exact H
    clear H
    have H := H1
    clear H1
    have H' := Aside0.mk H
    clear H
    have hnb21 := NB282_283.out
    have hnc21 := NB283_282.out
    have hnb22 := NB282_284.out
    have hnc22 := NB284_282.out
    have hcz23_0 : w7.cell? ⟨gb282, 0, none⟩ = some (.int .i64 a0_0) := (blk_cell BK282.out 0).trans rfl
    have hcz23_1 : w7.cell? ⟨gb282, 1, none⟩ = some (.int .i64 a0_1) := (blk_cell BK282.out 1).trans rfl
    have hcz23_2 : w7.cell? ⟨gb282, 2, none⟩ = some (.int .i64 a0_2) := (blk_cell BK282.out 2).trans rfl
    have hcz23_3 : w7.cell? ⟨gb282, 3, none⟩ = some (.int .i64 a0_3) := (blk_cell BK282.out 3).trans rfl
    have hcz23_4 : w7.cell? ⟨gb282, 4, none⟩ = some (.int .i64 a0_4) := (blk_cell BK282.out 4).trans rfl
    have hcz23_5 : w7.cell? ⟨gb282, 5, none⟩ = some (.int .i64 a0_5) := (blk_cell BK282.out 5).trans rfl
    have hcz23_6 : w7.cell? ⟨gb282, 6, none⟩ = some (.int .i64 a0_6) := (blk_cell BK282.out 6).trans rfl
    have hfz23_0 := blk_frozen BK282.out 0
    have hfz23_1 := blk_frozen BK282.out 1
    have hfz23_2 := blk_frozen BK282.out 2
    have hfz23_3 := blk_frozen BK282.out 3
    have hfz23_4 := blk_frozen BK282.out 4
    have hfz23_5 := blk_frozen BK282.out 5
    have hfz23_6 := blk_frozen BK282.out 6
    go_wp2_with (first | ((with_reducible refine gate_callee (f := 30) rfl ?_); refine goesL_ (some 11) rfl rfl Try.func30 (by kernel_rfl) rfl #[.agg #[.int .i64 a0_0, .int .i64 a0_1, .int .i64 a0_2, .int .i64 a0_3, .int .i64 a0_4, .int .i64 a0_5, .int .i64 a0_6]] rfl aE ?_; (with_reducible refine (impl_GoodEmitter.calls a0_0 a0_1 a0_2 a0_3 a0_4 a0_5 a0_6 true _ A8.out).mono ?_); rintro e w24 ⟨rfl, hb⟩; refine ⟨_, rfl, ?_⟩; replace BK282 := Aside0.mk (blk_below (bU BK282.out) hb); replace BK283 := Aside0.mk (blk_below (bU BK283.out) hb); replace BK284 := Aside0.mk (blk_below (bU BK284.out) hb); replace HB := Aside0.mk (below_step (lU3 GE282.out GE283.out GE284.out) hb); (try clear hb); (try clear hb2); (try clear hk); (try clear hi); have hnb25 := NB283_284.out; have hnc25 := NB284_283.out; have hcz26_0 : w24.cell? ⟨gb283, 0, none⟩ = some (.int .i64 a1_0) := (blk_cell BK283.out 0).trans rfl; have hcz26_1 : w24.cell? ⟨gb283, 1, none⟩ = some (.int .i64 a1_1) := (blk_cell BK283.out 1).trans rfl; have hcz26_2 : w24.cell? ⟨gb283, 2, none⟩ = some (.slice A1_2 l1_2.length c1_2) := (blk_cell BK283.out 2).trans rfl; have hfz26_0 := blk_frozen BK283.out 0; have hfz26_1 := blk_frozen BK283.out 1; have hfz26_2 := blk_frozen BK283.out 2) | (go_at_call 31; (with_reducible refine (impl_GoodCloud.calls k a1_0 a1_1 _ _ l1_2 false _ ?side1 ?side2 A10.out).mono ?_); (case side1 => exact cU (Kd.C_below HR1_2.out HB.out)); (case side2 => exact HC1_2.out); rintro e w27 ⟨rfl, hb⟩; replace BK282 := Aside0.mk (blk_below (bU BK282.out) hb); replace BK283 := Aside0.mk (blk_below (bU BK283.out) hb); replace BK284 := Aside0.mk (blk_below (bU BK284.out) hb); replace HB := Aside0.mk (below_step (lU3 GE282.out GE283.out GE284.out) hb); (try clear hb); (try clear hb2); (try clear hk); (try clear hi)))
    go_meet
    case rel => exact ⟨_, (true), tE, H', ⟨by first | omega | exact Nat.le_refl _⟩, ⟨by refine bU ?_; exact BK282.out⟩, ⟨by refine bU ?_; exact BK283.out⟩, ⟨by refine bU ?_; exact BK284.out⟩, ⟨by repeat (first | (with_reducible first | exact HB.out | apply below_alloc | apply pw_below_drewN | apply below_drew1 | refine below_set ?_ GE282.out | refine below_set ?_ GE283.out | refine below_set ?_ GE284.out) | exact HB.out)⟩⟩
  ·replace c9 := Bool.eq_false_iff.mpr c9
   subst c9
   have H1 : (impl_RunCloud.j0 k a2 true a0_0 a0_1 a0_2 a0_3 a0_4 a0_5 a0_6 a1_0 a1_1 l1_2) = some (r1, r2, r3, r4) := by rw [if_neg (show ¬ (false = true) by decide)] at H; exact H
   clear H
   have H := H1
   clear H1
   have H' := Aside0.mk H
   clear H
   have hnb28 := NB282_283.out
   have hnc28 := NB283_282.out
   have hnb29 := NB282_284.out
   have hnc29 := NB284_282.out
   have hcz30_0 : w7.cell? ⟨gb282, 0, none⟩ = some (.int .i64 a0_0) := (blk_cell BK282.out 0).trans rfl
   have hcz30_1 : w7.cell? ⟨gb282, 1, none⟩ = some (.int .i64 a0_1) := (blk_cell BK282.out 1).trans rfl
   have hcz30_2 : w7.cell? ⟨gb282, 2, none⟩ = some (.int .i64 a0_2) := (blk_cell BK282.out 2).trans rfl
   have hcz30_3 : w7.cell? ⟨gb282, 3, none⟩ = some (.int .i64 a0_3) := (blk_cell BK282.out 3).trans rfl
   have hcz30_4 : w7.cell? ⟨gb282, 4, none⟩ = some (.int .i64 a0_4) := (blk_cell BK282.out 4).trans rfl
   have hcz30_5 : w7.cell? ⟨gb282, 5, none⟩ = some (.int .i64 a0_5) := (blk_cell BK282.out 5).trans rfl
   have hcz30_6 : w7.cell? ⟨gb282, 6, none⟩ = some (.int .i64 a0_6) := (blk_cell BK282.out 6).trans rfl
   have hfz30_0 := blk_frozen BK282.out 0
   have hfz30_1 := blk_frozen BK282.out 1
   have hfz30_2 := blk_frozen BK282.out 2
   have hfz30_3 := blk_frozen BK282.out 3
   have hfz30_4 := blk_frozen BK282.out 4
   have hfz30_5 := blk_frozen BK282.out 5
   have hfz30_6 := blk_frozen BK282.out 6
   go_wp2_with (first | ((with_reducible refine gate_callee (f := 30) rfl ?_); refine goesL_ (some 11) rfl rfl Try.func30 (by kernel_rfl) rfl #[.agg #[.int .i64 a0_0, .int .i64 a0_1, .int .i64 a0_2, .int .i64 a0_3, .int .i64 a0_4, .int .i64 a0_5, .int .i64 a0_6]] rfl aE ?_; (with_reducible refine (impl_GoodEmitter.calls a0_0 a0_1 a0_2 a0_3 a0_4 a0_5 a0_6 false _ A8.out).mono ?_); rintro e w31 ⟨rfl, hb⟩; refine ⟨_, rfl, ?_⟩; replace BK282 := Aside0.mk (blk_below (bU BK282.out) hb); replace BK283 := Aside0.mk (blk_below (bU BK283.out) hb); replace BK284 := Aside0.mk (blk_below (bU BK284.out) hb); replace HB := Aside0.mk (below_step (lU3 GE282.out GE283.out GE284.out) hb); (try clear hb); (try clear hb2); (try clear hk); (try clear hi)))
   go_meet
   case rel => exact ⟨_, (true), tE, H', ⟨by first | omega | exact Nat.le_refl _⟩, ⟨by refine bU ?_; exact BK282.out⟩, ⟨by refine bU ?_; exact BK283.out⟩, ⟨by refine bU ?_; exact BK284.out⟩, ⟨by repeat (first | (with_reducible first | exact HB.out | apply below_alloc | apply pw_below_drewN | apply below_drew1 | refine below_set ?_ GE282.out | refine below_set ?_ GE283.out | refine below_set ?_ GE284.out) | exact HB.out)⟩⟩
 case rest =>
  clear HC4
  try clear c1
  try clear c2
  try clear p2
  try clear c3
  try clear p6
  try clear c9
  try clear c11
  try clear c13
  try clear c14
  try clear c17
  try clear c21
  try clear c22
  try clear c25
  try clear c28
  try clear c29
  try clear c30
  try clear hcz15_0
  try clear hcz15_1
  try clear hcz15_2
  try clear hcz15_3
  try clear hcz15_4
  try clear hcz15_5
  try clear hcz15_6
  try clear hcz18_0
  try clear hcz18_1
  try clear hcz18_2
  try clear hcz20_0
  try clear hcz20_1
  try clear hcz20_2
  try clear hcz23_0
  try clear hcz23_1
  try clear hcz23_2
  try clear hcz23_3
  try clear hcz23_4
  try clear hcz23_5
  try clear hcz23_6
  try clear hcz26_0
  try clear hcz26_1
  try clear hcz26_2
  try clear hcz30_0
  try clear hcz30_1
  try clear hcz30_2
  try clear hcz30_3
  try clear hcz30_4
  try clear hcz30_5
  try clear hcz30_6
  try clear hfz15_0
  try clear hfz15_1
  try clear hfz15_2
  try clear hfz15_3
  try clear hfz15_4
  try clear hfz15_5
  try clear hfz15_6
  try clear hfz18_0
  try clear hfz18_1
  try clear hfz18_2
  try clear hfz20_0
  try clear hfz20_1
  try clear hfz20_2
  try clear hfz23_0
  try clear hfz23_1
  try clear hfz23_2
  try clear hfz23_3
  try clear hfz23_4
  try clear hfz23_5
  try clear hfz23_6
  try clear hfz26_0
  try clear hfz26_1
  try clear hfz26_2
  try clear hfz30_0
  try clear hfz30_1
  try clear hfz30_2
  try clear hfz30_3
  try clear hfz30_4
  try clear hfz30_5
  try clear hfz30_6
  obtain ⟨kq, x25_3, rfl, HA, HJ3, BK282, BK283, BK284, HB⟩ := hcut
  cases kq with
  | zero => exact absurd HA.out (by simp [impl_RunCloud.j0])
  | succ kj3 =>
   have H := HA.out
   clear HA
   simp only [impl_RunCloud.j0] at H
   by_cases c32 : x25_3 = true
   ·subst c32
    have H1 : (some (0, 0, ([] : List (S48)), false)) = some (r1, r2, r3, r4) := by rw [if_pos rfl] at H; exact H
    clear H
    have H := H1
    clear H1
    simp only [Option.some.injEq, Prod.mk.injEq] at H
    obtain ⟨rfl, rfl, rfl, rfl⟩ := H
    have hnb33 := NB284_282.out
    have hnc33 := NB282_284.out
    have hnb34 := NB284_283.out
    have hnc34 := NB283_284.out
    have hcz35_0 : wc.cell? ⟨gb284, 0, none⟩ = some (.int .i64 0) := (blk_cell BK284.out 0).trans rfl
    have hcz35_1 : wc.cell? ⟨gb284, 1, none⟩ = some (.int .i64 0) := (blk_cell BK284.out 1).trans rfl
    have hcz35_2 : wc.cell? ⟨gb284, 2, none⟩ = some (.slice none 0 0) := (blk_cell BK284.out 2).trans rfl
    have hfz35_0 := blk_frozen BK284.out 0
    have hfz35_1 := blk_frozen BK284.out 1
    have hfz35_2 := blk_frozen BK284.out 2
    go_wp2_with (first | ((with_reducible refine gate_store (t := 35) (p := 6) rfl ?_); refine store_event (t := 35) (p := 6) (v := ?vo_w36) (w1 := (((wc.setCell ⟨gb284, 0, none⟩ (.int .i64 0)).setCell ⟨gb284, 1, none⟩ (.int .i64 0)).setCell ⟨gb284, 2, none⟩ (.slice none 0 0))) ?hg ?ho ?hn ?hr ?_; (case ho => rfl); (case hg => rfl); (case hn => rfl); (case hr => first | (go_simp; done) | (go_simp; rfl) | (have hq0_ := (blk_cell BK284.out 0).trans (show _ = some _ from rfl); have hf0_ := blk_frozen BK284.out 0; have hq1_ := (blk_cell BK284.out 1).trans (show _ = some _ from rfl); have hf1_ := blk_frozen BK284.out 1; have hq2_ := (blk_cell BK284.out 2).trans (show _ = some _ from rfl); have hf2_ := blk_frozen BK284.out 2; first | (go_simp; done) | (go_simp; rfl))); intro w36 hw; replace BK282 : Aside0 (w36.heap[gb282]? = some (.cells #[.int .i64 a0_0, .int .i64 a0_1, .int .i64 a0_2, .int .i64 a0_3, .int .i64 a0_4, .int .i64 a0_5, .int .i64 a0_6] 26 (0, 0))) := ⟨(by rw [hw]; exact (bF NB282_284.out BK282.out))⟩; replace BK283 : Aside0 (w36.heap[gb283]? = some (.cells #[.int .i64 a1_0, .int .i64 a1_1, .slice A1_2 l1_2.length c1_2] 35 (0, 0))) := ⟨(by rw [hw]; exact (bF NB283_284.out BK283.out))⟩; replace BK284 : Aside0 (w36.heap[gb284]? = some (.cells #[.int .i64 0, .int .i64 0, .slice none 0 0] 35 (0, 0))) := ⟨(by rw [hw]; exact (by refine bU ?_; refine blk_put (cs := #[.int .i64 0, .int .i64 0, .slice none 0 0]) ?_ 2 _ rfl; refine bU ?_; refine blk_put (cs := #[.int .i64 0, .int .i64 0, .slice none 0 0]) ?_ 1 _ rfl; refine bU ?_; refine blk_put (cs := #[.int .i64 0, .int .i64 0, .slice none 0 0]) ?_ 0 _ rfl; refine bU ?_; exact BK284.out))⟩; replace HB : Aside0 (Below w.heap.size w w36) := ⟨(by rw [hw]; exact (lU3 GE282.out GE283.out GE284.out))⟩; clear hw))
    refine bodyPost_ret (results_ct rfl _ _ gb284 35 #[.int .i64 0, .int .i64 0, .slice none 0 0] (0, 0) _ rfl (bU BK284.out) Try.underlying35 rfl (by kernel_rfl)) rfl ?_
    exact ⟨_, eE, by first | exact Kd.R_nil _ _ _ _ _ | exact Kd.N_nil _ _ _ _ _ | exact Kd.V_nil _ _ _ _ _ | exact Kd.Q_nil _ _ _ _ _ | exact Kd.S_nil _ _ _ _ _, lU3 GE282.out GE283.out GE284.out⟩
   ·replace c32 := Bool.eq_false_iff.mpr c32
    subst c32
    have H1 : ((impl_Spark_33.f l1_2).bind fun t288 => (impl_RunCloud.l0 kj3 a2 0 a0_0 a0_1 a0_2 a0_3 a0_4 a0_5 a0_6 a1_0 a1_1 t288)) = some (r1, r2, r3, r4) := by rw [if_neg (show ¬ (false = true) by decide)] at H; exact H
    clear H
    have H := H1
    clear H1
    replace H := Option.bind_eq_some_iff.mp H
    obtain ⟨t288, A370, H⟩ := H
    replace H : (impl_RunCloud.l0 kj3 a2 0 a0_0 a0_1 a0_2 a0_3 a0_4 a0_5 a0_6 a1_0 a1_1 t288) = some (r1, r2, r3, r4) := H
    have A37 := Aside0.mk A370
    clear A370
    have H' := Aside0.mk H
    clear H
    try go_wp2
    replace BK282 := Aside0.mk (blk_drew BK282.out)
    replace BK283 := Aside0.mk (blk_drew BK283.out)
    replace BK284 := Aside0.mk (blk_drew BK284.out)
    replace HB := Aside0.mk (below_drew1 HB.out)
    refine start_ (n := 11) (S := fun w' => w'.cell? ⟨gb283, 0, none⟩ = some (.int .i64 a1_0) ∧ w'.cell? ⟨gb283, 1, none⟩ = some (.int .i64 a1_1) ∧ w'.cell? ⟨gb283, 2, none⟩ = some (.slice A1_2 l1_2.length c1_2)) (ds := []) #[false, false, false, false, false, false, false, false, false, false, false] (by kernel_rfl) rfl rfl ⟨(blk_cell BK283.out 0).trans rfl, (blk_cell BK283.out 1).trans rfl, (blk_cell BK283.out 2).trans rfl⟩ (fun hHeld => ?_); refine with_tabW impl_RunCloud.tab3 impl_RunCloud.bits3 (fun HT_ HW_ => ?_)
    generalize wc.drew = w38 at BK282 BK283 BK284 HB hHeld ⊢
    refine pureA 0 27 (bz 11 1) rfl rfl (any_of HT_.out (by kernel_rfl)) ?_
    refine pureA 2 29 (bz 11 5) rfl rfl (any_of HT_.out (by kernel_rfl)) ?_
    refine pureA 4 31 (bz 11 21) rfl rfl (any_of HT_.out (by kernel_rfl)) ?_
    refine takeA 1 28 (bz 11 23) rfl rfl (take_ofW HT_.out HW_.out (by kernel_rfl)) hHeld (by rintro w' ⟨s0, s1, s2⟩; go_simp; with_reducible rfl) ?_
    refine takeA 3 30 (bz 11 31) rfl rfl (take_ofW HT_.out HW_.out (by kernel_rfl)) hHeld (by rintro w' ⟨s0, s1, s2⟩; go_simp; with_reducible rfl) ?_
    refine takeA 5 32 (bz 11 63) rfl rfl (take_ofW HT_.out HW_.out (by kernel_rfl)) hHeld (by rintro w' ⟨s0, s1, s2⟩; go_simp; with_reducible rfl) ?_
    refine join_ (σ := Value × Nat) 2 #[true, true, true, true, true, true, true, true, true, false, false] (fun s_ => [(33, s_.1), (8, .pointer (some ⟨s_.2, 0, none⟩)), (34, .agg #[.int .i64 a1_0, .int .i64 a1_1, s_.1])]) (fun s_ w' => (w'.cell? ⟨gb283, 0, none⟩ = some (.int .i64 a1_0) ∧ w'.cell? ⟨gb283, 1, none⟩ = some (.int .i64 a1_1) ∧ w'.cell? ⟨gb283, 2, none⟩ = some (.slice A1_2 l1_2.length c1_2)) ∧ (Kd.R k48 48 w' w.heap.size (fun _ => True) s_.1 t288) ∧ (w'.heap[gb282]? = some (.cells #[.int .i64 a0_0, .int .i64 a0_1, .int .i64 a0_2, .int .i64 a0_3, .int .i64 a0_4, .int .i64 a0_5, .int .i64 a0_6] 26 (0, 0))) ∧ (w'.heap[gb283]? = some (.cells #[.int .i64 a1_0, .int .i64 a1_1, .slice A1_2 l1_2.length c1_2] 35 (0, 0))) ∧ (w'.heap[gb284]? = some (.cells #[.int .i64 0, .int .i64 0, .slice none 0 0] 35 (0, 0))) ∧ (w'.heap[s_.2]? = some (.cells #[.int .i64 0, .int .i64 0, .slice none 0 0] 35 (0, 0))) ∧ (w.heap.size ≤ s_.2) ∧ (w.heap.size ≤ s_.2) ∧ (gb282 ≠ s_.2) ∧ (s_.2 ≠ gb282) ∧ (gb283 ≠ s_.2) ∧ (s_.2 ≠ gb283) ∧ (gb284 ≠ s_.2) ∧ (s_.2 ≠ gb284) ∧ (Below w.heap.size w w')) ?_ ?_
    rotate_left
    ·intro hCont
     refine two_ (i := 6) (j := 8) (Ni := some 33) (Nj := some 8) #[true, true, true, true, true, true, true, false, false, false, false] #[true, true, true, true, true, true, false, false, true, false, false] rfl rfl rfl rfl (two_of HT_.out (by kernel_rfl)) (by decide) (by decide) (fun K hK => ?_) (fun K hK => ?_)
     ·skip
      refine goes_ Try.func33 (by kernel_rfl) rfl #[.slice A1_2 l1_2.length c1_2] (by rfl) rfl rfl aE ?_
      with_reducible refine (impl_Spark_33.calls _ _ l1_2 t288 _ ?side1 ?side2 A37.out).mono ?_
      (case side1 => exact cU (Kd.C_below HR1_2.out HB.out))
      (case side2 => exact HC1_2.out)
      rintro e w39 ⟨v289, rfl, ho0, hb⟩
      refine ⟨_, rfl, ?_⟩
      have HO290 := Aside0.mk (Kd.R_lower ho0 (below_size (lU3 GE282.out GE283.out GE284.out)))
      replace BK282 := Aside0.mk (blk_below (bU BK282.out) hb)
      replace BK283 := Aside0.mk (blk_below (bU BK283.out) hb)
      replace BK284 := Aside0.mk (blk_below (bU BK284.out) hb)
      replace HB := Aside0.mk (below_step (lU3 GE282.out GE283.out GE284.out) hb)
      (try clear hb)
      (try clear hb2)
      (try clear hk)
      (try clear hi)
      (try clear ho0)
      obtain ⟨Ao40, co40, eo40⟩ := Kd.R_slice HO290.out
      (first | subst eo40 | (injection eo40 with f1_ f2_ f3_; have f4_ := f1_.symm; have f5_ := f3_.symm; clear f1_ f2_ f3_; subst f4_; subst f5_))
      refine hK.out _ _ ⟨(blk_cell BK283.out 0).trans rfl, (blk_cell BK283.out 1).trans rfl, (blk_cell BK283.out 2).trans rfl⟩ (fun hHeld => ?_)
      clear hK K
      refine norm_ (a' := ?_) ?_ ?_
      rotate_left
      ·show Act.put _ (some 33) _ = _
       simp only [Act.put, List.setIfInBounds_toArray, List.set_cons_zero, List.set_cons_succ, i64_w, i32_w]
       rfl
      refine pureA 7 34 (bz 11 255) rfl rfl (any_of HT_.out (by kernel_rfl)) ?_
      refine one_ (i := 8) (N := some 8) (bz 11 511) rfl rfl (one_of HT_.out (by kernel_rfl)) (by decide) (fun K hK => ?_)
      refine box_step ?hg (N := 8) ?hd (cs := #[.int .i64 0, .int .i64 0, .slice none 0 0]) (t := 35) ?hr ?_; (case hd => rfl); (case hg => rfl); (case hr => exact sE)
      intro gb291 hg w41 hbox hb
      replace HO290 := Aside0.mk (Kd.R_below (rU HO290.out) hb)
      have BK291 := Aside0.mk hbox
      have GW291 := gS w hg (lU3 GE282.out GE283.out GE284.out)
      have GE291 := gS w hg (lU3 GE282.out GE283.out GE284.out)
      replace HB := Aside0.mk (below_step (lU3 GE282.out GE283.out GE284.out) hb)
      have NB282_291 := nL hg (bU BK282.out)
      have NB291_282 := nG hg (bU BK282.out)
      replace BK282 := Aside0.mk (blk_below (bU BK282.out) hb)
      have NB283_291 := nL hg (bU BK283.out)
      have NB291_283 := nG hg (bU BK283.out)
      replace BK283 := Aside0.mk (blk_below (bU BK283.out) hb)
      have NB284_291 := nL hg (bU BK284.out)
      have NB291_284 := nG hg (bU BK284.out)
      replace BK284 := Aside0.mk (blk_below (bU BK284.out) hb)
      clear hb hbox hg
      refine hK.out _ _ ⟨(blk_cell BK283.out 0).trans rfl, (blk_cell BK283.out 1).trans rfl, (blk_cell BK283.out 2).trans rfl⟩ (fun hHeld => ?_)
      clear hK K
      refine norm_ (a' := ?_) ?_ ?_
      rotate_left
      ·show Act.put _ (some 8) _ = _
       simp only [Act.put, List.setIfInBounds_toArray, List.set_cons_zero, List.set_cons_succ, i64_w, i32_w]
       rfl
      exact norm_ (by simp only [putAll, Act.put, List.setIfInBounds_toArray, List.set_cons_zero, List.set_cons_succ]) (hCont (.slice Ao40 t288.length co40, gb291) _ ⟨hHeld, (rU HO290.out), (bU BK282.out), (bU BK283.out), (bU BK284.out), (bU BK291.out), GW291.out, GE291.out, NB282_291.out, NB291_282.out, NB283_291.out, NB291_283.out, NB284_291.out, NB291_284.out, (lU4 GE282.out GE283.out GE284.out GE291.out)⟩)
     ·skip
      refine box_step ?hg (N := 8) ?hd (cs := #[.int .i64 0, .int .i64 0, .slice none 0 0]) (t := 35) ?hr ?_; (case hd => rfl); (case hg => rfl); (case hr => exact sE)
      intro gb291 hg w39 hbox hb
      have BK291 := Aside0.mk hbox
      have GW291 := gS w hg (lU3 GE282.out GE283.out GE284.out)
      have GE291 := gS w hg (lU3 GE282.out GE283.out GE284.out)
      replace HB := Aside0.mk (below_step (lU3 GE282.out GE283.out GE284.out) hb)
      have NB282_291 := nL hg (bU BK282.out)
      have NB291_282 := nG hg (bU BK282.out)
      replace BK282 := Aside0.mk (blk_below (bU BK282.out) hb)
      have NB283_291 := nL hg (bU BK283.out)
      have NB291_283 := nG hg (bU BK283.out)
      replace BK283 := Aside0.mk (blk_below (bU BK283.out) hb)
      have NB284_291 := nL hg (bU BK284.out)
      have NB291_284 := nG hg (bU BK284.out)
      replace BK284 := Aside0.mk (blk_below (bU BK284.out) hb)
      clear hb hbox hg
      refine hK.out _ _ ⟨(blk_cell BK283.out 0).trans rfl, (blk_cell BK283.out 1).trans rfl, (blk_cell BK283.out 2).trans rfl⟩ (fun hHeld => ?_)
      clear hK K
      refine norm_ (a' := ?_) ?_ ?_
      rotate_left
      ·show Act.put _ (some 8) _ = _
       simp only [Act.put, List.setIfInBounds_toArray, List.set_cons_zero, List.set_cons_succ, i64_w, i32_w]
       rfl
      refine one_ (i := 6) (N := some 33) (bz 11 383) rfl rfl (one_of HT_.out (by kernel_rfl)) (by decide) (fun K hK => ?_)
      refine goes_ Try.func33 (by kernel_rfl) rfl #[.slice A1_2 l1_2.length c1_2] (by rfl) rfl rfl aE ?_
      with_reducible refine (impl_Spark_33.calls _ _ l1_2 t288 _ ?side1 ?side2 A37.out).mono ?_
      (case side1 => exact cU (Kd.C_below HR1_2.out HB.out))
      (case side2 => exact HC1_2.out)
      rintro e w40 ⟨v289, rfl, ho0, hb⟩
      refine ⟨_, rfl, ?_⟩
      have HO290 := Aside0.mk (Kd.R_lower ho0 (below_size (lU4 GE282.out GE283.out GE284.out GE291.out)))
      replace BK282 := Aside0.mk (blk_below (bU BK282.out) hb)
      replace BK283 := Aside0.mk (blk_below (bU BK283.out) hb)
      replace BK284 := Aside0.mk (blk_below (bU BK284.out) hb)
      replace BK291 := Aside0.mk (blk_below (bU BK291.out) hb)
      replace HB := Aside0.mk (below_step (lU4 GE282.out GE283.out GE284.out GE291.out) hb)
      (try clear hb)
      (try clear hb2)
      (try clear hk)
      (try clear hi)
      (try clear ho0)
      obtain ⟨Ao41, co41, eo41⟩ := Kd.R_slice HO290.out
      (first | subst eo41 | (injection eo41 with f1_ f2_ f3_; have f4_ := f1_.symm; have f5_ := f3_.symm; clear f1_ f2_ f3_; subst f4_; subst f5_))
      refine hK.out _ _ ⟨(blk_cell BK283.out 0).trans rfl, (blk_cell BK283.out 1).trans rfl, (blk_cell BK283.out 2).trans rfl⟩ (fun hHeld => ?_)
      clear hK K
      refine norm_ (a' := ?_) ?_ ?_
      rotate_left
      ·show Act.put _ (some 33) _ = _
       simp only [Act.put, List.setIfInBounds_toArray, List.set_cons_zero, List.set_cons_succ, i64_w, i32_w]
       rfl
      refine pureA 7 34 (bz 11 511) rfl rfl (any_of HT_.out (by kernel_rfl)) ?_
      exact norm_ (by simp only [putAll, Act.put, List.setIfInBounds_toArray, List.set_cons_zero, List.set_cons_succ]) (hCont (.slice Ao41 t288.length co41, gb291) _ ⟨hHeld, (rU HO290.out), (bU BK282.out), (bU BK283.out), (bU BK284.out), (bU BK291.out), GW291.out, GE291.out, NB282_291.out, NB291_282.out, NB283_291.out, NB291_283.out, NB284_291.out, NB291_284.out, (lU4 GE282.out GE283.out GE284.out GE291.out)⟩)
    rintro ⟨v289, gb291⟩ w42 ⟨hS_, h0_, h1_, h2_, h3_, h4_, h5_, h6_, h7_, h8_, h9_, h10_, h11_, h12_, h13_⟩
    have HO290 : Aside0 (Kd.R k48 48 w42 w.heap.size (fun _ => True) v289 t288) := ⟨h0_⟩
    replace BK282 : Aside0 (w42.heap[gb282]? = some (.cells #[.int .i64 a0_0, .int .i64 a0_1, .int .i64 a0_2, .int .i64 a0_3, .int .i64 a0_4, .int .i64 a0_5, .int .i64 a0_6] 26 (0, 0))) := ⟨h1_⟩
    replace BK283 : Aside0 (w42.heap[gb283]? = some (.cells #[.int .i64 a1_0, .int .i64 a1_1, .slice A1_2 l1_2.length c1_2] 35 (0, 0))) := ⟨h2_⟩
    replace BK284 : Aside0 (w42.heap[gb284]? = some (.cells #[.int .i64 0, .int .i64 0, .slice none 0 0] 35 (0, 0))) := ⟨h3_⟩
    have BK291 : Aside0 (w42.heap[gb291]? = some (.cells #[.int .i64 0, .int .i64 0, .slice none 0 0] 35 (0, 0))) := ⟨h4_⟩
    have GW291 : Aside0 (w.heap.size ≤ gb291) := ⟨h5_⟩
    have GE291 : Aside0 (w.heap.size ≤ gb291) := ⟨h6_⟩
    have NB282_291 : Aside0 (gb282 ≠ gb291) := ⟨h7_⟩
    have NB291_282 : Aside0 (gb291 ≠ gb282) := ⟨h8_⟩
    have NB283_291 : Aside0 (gb283 ≠ gb291) := ⟨h9_⟩
    have NB291_283 : Aside0 (gb291 ≠ gb283) := ⟨h10_⟩
    have NB284_291 : Aside0 (gb284 ≠ gb291) := ⟨h11_⟩
    have NB291_284 : Aside0 (gb291 ≠ gb284) := ⟨h12_⟩
    replace HB : Aside0 (Below w.heap.size w w42) := ⟨h13_⟩
    clear h0_ h1_ h2_ h3_ h4_ h5_ h6_ h7_ h8_ h9_ h10_ h11_ h12_ h13_
    have hHeld : w42.cell? ⟨gb283, 0, none⟩ = some (.int .i64 a1_0) ∧ w42.cell? ⟨gb283, 1, none⟩ = some (.int .i64 a1_1) ∧ w42.cell? ⟨gb283, 2, none⟩ = some (.slice A1_2 l1_2.length c1_2) := hS_
    obtain ⟨Ao43, co43, eo43⟩ := Kd.R_slice HO290.out
    (first | subst eo43 | (injection eo43 with f1_ f2_ f3_; have f4_ := f1_.symm; have f5_ := f3_.symm; clear f1_ f2_ f3_; subst f4_; subst f5_))
    refine norm_ (a' := ?_) ?_ ?_
    rotate_left
    ·simp only [putAll, Act.put, List.setIfInBounds_toArray, List.set_cons_zero, List.set_cons_succ]
     rfl
    refine one_ (i := 9) (N := none) (bz 11 1023) rfl rfl (one_of HT_.out (by kernel_rfl)) (by decide) (fun K hK => ?_)
    have hs44 : w42.cell? ⟨gb291, 0, none⟩ = some (.int .i64 0) := (blk_cell BK291.out 0).trans rfl
    have hfs44 := blk_frozen BK291.out 0
    have hns44_0 := NB282_291.out
    have hns44_1 := NB283_291.out
    have hns44_2 := NB284_291.out
    have hms44_0 := NB291_282.out
    have hms44_1 := NB291_283.out
    have hms44_2 := NB291_284.out
    have hs45 : w42.cell? ⟨gb291, 1, none⟩ = some (.int .i64 0) := (blk_cell BK291.out 1).trans rfl
    have hfs45 := blk_frozen BK291.out 1
    have hns45_0 := NB282_291.out
    have hns45_1 := NB283_291.out
    have hns45_2 := NB284_291.out
    have hms45_0 := NB291_282.out
    have hms45_1 := NB291_283.out
    have hms45_2 := NB291_284.out
    have hs46 : w42.cell? ⟨gb291, 2, none⟩ = some (.slice none 0 0) := (blk_cell BK291.out 2).trans rfl
    have hfs46 := blk_frozen BK291.out 2
    have hns46_0 := NB282_291.out
    have hns46_1 := NB283_291.out
    have hns46_2 := NB284_291.out
    have hms46_0 := NB291_282.out
    have hms46_1 := NB291_283.out
    have hms46_2 := NB291_284.out
    refine skip_ (w1 := ?_) (by rfl) rfl ?_ ?_
    rotate_left
    ·go_simp
     rfl
    refine hK.out _ _ ⟨((cell_far (p := ⟨gb291, _, none⟩) NB283_291.out _).trans (((cell_far (p := ⟨gb291, _, none⟩) NB283_291.out _).trans (((cell_far (p := ⟨gb291, _, none⟩) NB283_291.out _).trans (hHeld.1)))))), ((cell_far (p := ⟨gb291, _, none⟩) NB283_291.out _).trans (((cell_far (p := ⟨gb291, _, none⟩) NB283_291.out _).trans (((cell_far (p := ⟨gb291, _, none⟩) NB283_291.out _).trans (hHeld.2.1)))))), ((cell_far (p := ⟨gb291, _, none⟩) NB283_291.out _).trans (((cell_far (p := ⟨gb291, _, none⟩) NB283_291.out _).trans (((cell_far (p := ⟨gb291, _, none⟩) NB283_291.out _).trans (hHeld.2.2))))))⟩ (fun hHeld => ?_)
    clear hK K
    refine pureA 10 9 (bz 11 2047) rfl rfl (any_of HT_.out (by kernel_rfl)) ?_
    refine done_ (done_of HT_.out (by kernel_rfl)) ?_
    try go_wp2
    go_loopg [36] kj3 (fun kq v36 w' => ∃ (x36_2 : Int) (x285000_2 : Int) (x285001_2 : Int) (x292000_2 : Int) (x292001_2 : Int) (x292002_2 : List (S48)) (u292002 : Value), v36 = .int .i64 x36_2 ∧ Aside0 (impl_RunCloud.l0 kq a2 x36_2 a0_0 a0_1 a0_2 a0_3 a0_4 a0_5 a0_6 x292000_2 x292001_2 x292002_2 = some (r1, r2, r3, r4)) ∧ Aside0 (kq ≤ kj3) ∧ Aside0 (Kd.R k48 48 w' w.heap.size (fun _ => True) u292002 x292002_2) ∧ Aside0 (w'.heap[gb282]? = some (.cells #[.int .i64 a0_0, .int .i64 a0_1, .int .i64 a0_2, .int .i64 a0_3, .int .i64 a0_4, .int .i64 a0_5, .int .i64 a0_6] 26 (0, 0))) ∧ Aside0 (w'.heap[gb283]? = some (.cells #[.int .i64 a1_0, .int .i64 a1_1, (.slice A1_2 l1_2.length c1_2)] 35 (0, 0))) ∧ Aside0 (w'.heap[gb284]? = some (.cells #[.int .i64 x285000_2, .int .i64 x285001_2, (.slice none 0 0)] 35 (0, 0))) ∧ Aside0 (w'.heap[gb291]? = some (.cells #[.int .i64 x292000_2, .int .i64 x292001_2, u292002] 35 (0, 0))) ∧ Aside0 (Below w.heap.size w w'))
    case atStart => exact ⟨(0), (0), (0), (a1_0), (a1_1), (t288), (.slice Ao43 t288.length co43), tE, H', ⟨Nat.le_refl _⟩, ⟨by (with_reducible repeat (first | apply Kd.R_alloc | apply Kd.R_drewN | apply Kd.R_drew)); exact Kd.R_mono (Kd.R_far (p := ⟨gb291, 2, none⟩) (Kd.R_far (p := ⟨gb291, 1, none⟩) (Kd.R_far (p := ⟨gb291, 0, none⟩) (Kd.R_types HO290.out BK291.out (by decide)) (fun _ hk => hk.2) (.int .i64 a1_0)) (fun _ hk => hk.2) (.int .i64 a1_1)) (fun _ hk => hk.2) (.slice Ao43 t288.length co43)) (fun _ hk => trivial)⟩, ⟨by refine bU ?_; refine blk_far ?_ NB282_291.out _; refine bU ?_; refine blk_far ?_ NB282_291.out _; refine bU ?_; refine blk_far ?_ NB282_291.out _; refine bU ?_; exact BK282.out⟩, ⟨by refine bU ?_; refine blk_far ?_ NB283_291.out _; refine bU ?_; refine blk_far ?_ NB283_291.out _; refine bU ?_; refine blk_far ?_ NB283_291.out _; refine bU ?_; exact BK283.out⟩, ⟨by refine bU ?_; refine blk_far ?_ NB284_291.out _; refine bU ?_; refine blk_far ?_ NB284_291.out _; refine bU ?_; refine blk_far ?_ NB284_291.out _; refine bU ?_; exact BK284.out⟩, ⟨by refine bU ?_; refine blk_put (cs := #[.int .i64 a1_0, .int .i64 a1_1, .slice none 0 0]) ?_ 2 _ rfl; refine bU ?_; refine blk_put (cs := #[.int .i64 a1_0, .int .i64 0, .slice none 0 0]) ?_ 1 _ rfl; refine bU ?_; refine blk_put (cs := #[.int .i64 0, .int .i64 0, .slice none 0 0]) ?_ 0 _ rfl; refine bU ?_; exact BK291.out⟩, ⟨by repeat (first | (with_reducible first | exact HB.out | apply below_alloc | apply pw_below_drewN | apply below_drew1 | refine below_set ?_ GE282.out | refine below_set ?_ GE283.out | refine below_set ?_ GE284.out | refine below_set ?_ GE291.out) | exact HB.out)⟩⟩
    case round =>
     clear H'
     try clear c1
     try clear q1
     try clear c2
     try clear p2
     try clear q2
     try clear c3
     try clear p6
     try clear c9
     try clear c11
     try clear c13
     try clear c14
     try clear c17
     try clear c21
     try clear c22
     try clear c25
     try clear c28
     try clear c29
     try clear c30
     try clear c32
     try clear c33
     try clear c34
     try clear hcz15_0
     try clear hcz15_1
     try clear hcz15_2
     try clear hcz15_3
     try clear hcz15_4
     try clear hcz15_5
     try clear hcz15_6
     try clear hcz18_0
     try clear hcz18_1
     try clear hcz18_2
     try clear hcz20_0
     try clear hcz20_1
     try clear hcz20_2
     try clear hcz23_0
     try clear hcz23_1
     try clear hcz23_2
     try clear hcz23_3
     try clear hcz23_4
     try clear hcz23_5
     try clear hcz23_6
     try clear hcz26_0
     try clear hcz26_1
     try clear hcz26_2
     try clear hcz30_0
     try clear hcz30_1
     try clear hcz30_2
     try clear hcz30_3
     try clear hcz30_4
     try clear hcz30_5
     try clear hcz30_6
     try clear hcz35_0
     try clear hcz35_1
     try clear hcz35_2
     try clear hfz15_0
     try clear hfz15_1
     try clear hfz15_2
     try clear hfz15_3
     try clear hfz15_4
     try clear hfz15_5
     try clear hfz15_6
     try clear hfz18_0
     try clear hfz18_1
     try clear hfz18_2
     try clear hfz20_0
     try clear hfz20_1
     try clear hfz20_2
     try clear hfz23_0
     try clear hfz23_1
     try clear hfz23_2
     try clear hfz23_3
     try clear hfz23_4
     try clear hfz23_5
     try clear hfz23_6
     try clear hfz26_0
     try clear hfz26_1
     try clear hfz26_2
     try clear hfz30_0
     try clear hfz30_1
     try clear hfz30_2
     try clear hfz30_3
     try clear hfz30_4
     try clear hfz30_5
     try clear hfz30_6
     try clear hfz35_0
     try clear hfz35_1
     try clear hfz35_2
     try clear p2
     try clear p6
     obtain ⟨x36_2, x285000_2, x285001_2, x292000_2, x292001_2, x292002_2, u292002, rfl, HA, HK2, HO_292002, BK282, BK283, BK284, BK291, HB⟩ := hrel
     cases gk with
     | zero => exact absurd HA.out (by simp [impl_RunCloud.l0])
     | succ k2 =>
      have H := HA.out
      clear HA
      simp only [impl_RunCloud.l0] at H
      by_cases c47 : x36_2 < a2
      ·rw [if_pos c47] at H
       have c47b0 : decide (x36_2 < a2) = true := decide_eq_true c47
       clear c47
       replace H := Option.bind_eq_some_iff.mp H
       obtain ⟨⟨t292, t293, t294, t297⟩, A480, H⟩ := H
       replace H : (if t297 = true then (impl_RunCloud.l0 k2 a2 (wrap64 (x36_2 + 1)) a0_0 a0_1 a0_2 a0_3 a0_4 a0_5 a0_6 t292 t293 t294) else (some (0, 0, ([] : List (S48)), false))) = some (r1, r2, r3, r4) := H
       have A48 := Aside0.mk A480
       clear A480
       by_cases c49 : t297 = true
       ·subst c49
        have H1 : (impl_RunCloud.l0 k2 a2 (wrap64 (x36_2 + 1)) a0_0 a0_1 a0_2 a0_3 a0_4 a0_5 a0_6 t292 t293 t294) = some (r1, r2, r3, r4) := by rw [if_pos rfl] at H; exact H
        clear H
        have H := H1
        clear H1
        have H' := Aside0.mk H
        clear H
        have hnb50 := NB282_283.out
        have hnc50 := NB283_282.out
        have hnb51 := NB282_284.out
        have hnc51 := NB284_282.out
        have hnb52 := NB282_291.out
        have hnc52 := NB291_282.out
        have hcz53_0 : wr.cell? ⟨gb282, 0, none⟩ = some (.int .i64 a0_0) := (blk_cell BK282.out 0).trans rfl
        have hcz53_1 : wr.cell? ⟨gb282, 1, none⟩ = some (.int .i64 a0_1) := (blk_cell BK282.out 1).trans rfl
        have hcz53_2 : wr.cell? ⟨gb282, 2, none⟩ = some (.int .i64 a0_2) := (blk_cell BK282.out 2).trans rfl
        have hcz53_3 : wr.cell? ⟨gb282, 3, none⟩ = some (.int .i64 a0_3) := (blk_cell BK282.out 3).trans rfl
        have hcz53_4 : wr.cell? ⟨gb282, 4, none⟩ = some (.int .i64 a0_4) := (blk_cell BK282.out 4).trans rfl
        have hcz53_5 : wr.cell? ⟨gb282, 5, none⟩ = some (.int .i64 a0_5) := (blk_cell BK282.out 5).trans rfl
        have hcz53_6 : wr.cell? ⟨gb282, 6, none⟩ = some (.int .i64 a0_6) := (blk_cell BK282.out 6).trans rfl
        have hfz53_0 := blk_frozen BK282.out 0
        have hfz53_1 := blk_frozen BK282.out 1
        have hfz53_2 := blk_frozen BK282.out 2
        have hfz53_3 := blk_frozen BK282.out 3
        have hfz53_4 := blk_frozen BK282.out 4
        have hfz53_5 := blk_frozen BK282.out 5
        have hfz53_6 := blk_frozen BK282.out 6
        have hnb54 := NB291_283.out
        have hnc54 := NB283_291.out
        have hnb55 := NB291_284.out
        have hnc55 := NB284_291.out
        have hcz56_0 : wr.cell? ⟨gb291, 0, none⟩ = some (.int .i64 x292000_2) := (blk_cell BK291.out 0).trans rfl
        have hcz56_1 : wr.cell? ⟨gb291, 1, none⟩ = some (.int .i64 x292001_2) := (blk_cell BK291.out 1).trans rfl
        have hcz56_2 : wr.cell? ⟨gb291, 2, none⟩ = some (u292002) := (blk_cell BK291.out 2).trans rfl
        have hfz56_0 := blk_frozen BK291.out 0
        have hfz56_1 := blk_frozen BK291.out 1
        have hfz56_2 := blk_frozen BK291.out 2
        obtain ⟨Ao57, co57, eo57⟩ := Kd.R_slice HO_292002.out
        subst eo57
        go_wp2_with (first | ((with_reducible refine gate_callee (f := 34) rfl ?_); refine goesL_ (some 41) rfl rfl Try.func34 (by kernel_rfl) rfl #[.agg #[.int .i64 a0_0, .int .i64 a0_1, .int .i64 a0_2, .int .i64 a0_3, .int .i64 a0_4, .int .i64 a0_5, .int .i64 a0_6], .agg #[.int .i64 x292000_2, .int .i64 x292001_2, .slice Ao57 x292002_2.length co57]] rfl aE ?_; (with_reducible refine (impl_Emitter_step.calls k2 a0_0 a0_1 a0_2 a0_3 a0_4 a0_5 a0_6 x292000_2 x292001_2 _ _ x292002_2 t292 t293 t294 true _ ?side1 ?side2 A48.out).mono ?_); (case side1 => exact cU (Kd.R_reads' HO_292002.out).2.2); (case side2 => exact (Kd.R_reads' HO_292002.out).2.1); rintro e w58 ⟨v295, rfl, ho0, hb⟩; refine ⟨_, rfl, ?_⟩; have HO296 := Aside0.mk (Kd.R_lower (Kd.R_new' ho0 (Kd.R_lt (rU HO_292002.out))) (below_size (lU4 GE282.out GE283.out GE284.out GE291.out))); replace HO_292002 := Aside0.mk (Kd.R_elder' (rU HO_292002.out) (Kd.R_base ho0) hb); replace BK282 := Aside0.mk (blk_below (bU BK282.out) hb); replace BK283 := Aside0.mk (blk_below (bU BK283.out) hb); replace BK284 := Aside0.mk (blk_below (bU BK284.out) hb); replace BK291 := Aside0.mk (blk_below (bU BK291.out) hb); replace HB := Aside0.mk (below_step (lU4 GE282.out GE283.out GE284.out GE291.out) hb); (try clear hb); (try clear hb2); (try clear hk); (try clear hi); (try clear ho0); have hcz59_0 : w58.cell? ⟨gb291, 0, none⟩ = some (.int .i64 x292000_2) := (blk_cell BK291.out 0).trans rfl; have hcz59_1 : w58.cell? ⟨gb291, 1, none⟩ = some (.int .i64 x292001_2) := (blk_cell BK291.out 1).trans rfl; have hcz59_2 : w58.cell? ⟨gb291, 2, none⟩ = some (.slice Ao57 x292002_2.length co57) := (blk_cell BK291.out 2).trans rfl; have hfz59_0 := blk_frozen BK291.out 0; have hfz59_1 := blk_frozen BK291.out 1; have hfz59_2 := blk_frozen BK291.out 2; obtain ⟨Ao60, co60, eo60⟩ := Kd.R_slice HO296.out; subst eo60) | ((with_reducible refine gate_store (t := 35) (p := 8) rfl ?_); refine store_event (t := 35) (p := 8) (v := ?vo_w61) (w1 := (((w58.setCell ⟨gb291, 0, none⟩ (.int .i64 t292)).setCell ⟨gb291, 1, none⟩ (.int .i64 t293)).setCell ⟨gb291, 2, none⟩ (.slice Ao60 t294.length co60))) ?hg ?ho ?hn ?hr ?_; (case ho => rfl); (case hg => rfl); (case hn => rfl); (case hr => first | (go_simp; done) | (go_simp; rfl) | (have hq0_ := (blk_cell BK291.out 0).trans (show _ = some _ from rfl); have hf0_ := blk_frozen BK291.out 0; have hq1_ := (blk_cell BK291.out 1).trans (show _ = some _ from rfl); have hf1_ := blk_frozen BK291.out 1; have hq2_ := (blk_cell BK291.out 2).trans (show _ = some _ from rfl); have hf2_ := blk_frozen BK291.out 2; first | (go_simp; done) | (go_simp; rfl))); intro w61 hw; replace HO_292002 : Aside0 (Kd.R k48 48 w61 w.heap.size (fun k_ => some k_ ≠ (.slice Ao60 t294.length co60 : Value).ownBlock) (.slice Ao57 x292002_2.length co57) x292002_2) := ⟨(by rw [hw]; exact (by (with_reducible repeat (first | apply Kd.R_alloc | apply Kd.R_drewN | apply Kd.R_drew)); exact Kd.R_mono (Kd.R_far (p := ⟨gb291, 2, none⟩) (Kd.R_far (p := ⟨gb291, 1, none⟩) (Kd.R_far (p := ⟨gb291, 0, none⟩) (Kd.R_types HO_292002.out BK291.out (by decide)) (fun _ hk => hk.2) (.int .i64 t292)) (fun _ hk => hk.2) (.int .i64 t293)) (fun _ hk => hk.2) (.slice Ao60 t294.length co60)) (fun _ hk => hk.1.2)))⟩; replace HO296 : Aside0 (Kd.R k48 48 w61 w.heap.size (fun k_ => some k_ ≠ (.slice Ao57 x292002_2.length co57 : Value).ownBlock) (.slice Ao60 t294.length co60) t294) := ⟨(by rw [hw]; exact (by (with_reducible repeat (first | apply Kd.R_alloc | apply Kd.R_drewN | apply Kd.R_drew)); exact Kd.R_mono (Kd.R_far (p := ⟨gb291, 2, none⟩) (Kd.R_far (p := ⟨gb291, 1, none⟩) (Kd.R_far (p := ⟨gb291, 0, none⟩) (Kd.R_types HO296.out BK291.out (by decide)) (fun _ hk => hk.2) (.int .i64 t292)) (fun _ hk => hk.2) (.int .i64 t293)) (fun _ hk => hk.2) (.slice Ao60 t294.length co60)) (fun _ hk => hk.1.2)))⟩; replace BK282 : Aside0 (w61.heap[gb282]? = some (.cells #[.int .i64 a0_0, .int .i64 a0_1, .int .i64 a0_2, .int .i64 a0_3, .int .i64 a0_4, .int .i64 a0_5, .int .i64 a0_6] 26 (0, 0))) := ⟨(by rw [hw]; exact (bF NB282_291.out BK282.out))⟩; replace BK283 : Aside0 (w61.heap[gb283]? = some (.cells #[.int .i64 a1_0, .int .i64 a1_1, .slice A1_2 l1_2.length c1_2] 35 (0, 0))) := ⟨(by rw [hw]; exact (bF NB283_291.out BK283.out))⟩; replace BK284 : Aside0 (w61.heap[gb284]? = some (.cells #[.int .i64 x285000_2, .int .i64 x285001_2, .slice none 0 0] 35 (0, 0))) := ⟨(by rw [hw]; exact (bF NB284_291.out BK284.out))⟩; replace BK291 : Aside0 (w61.heap[gb291]? = some (.cells #[.int .i64 t292, .int .i64 t293, .slice Ao60 t294.length co60] 35 (0, 0))) := ⟨(by rw [hw]; exact (by refine bU ?_; refine blk_put (cs := #[.int .i64 t292, .int .i64 t293, .slice Ao57 x292002_2.length co57]) ?_ 2 _ rfl; refine bU ?_; refine blk_put (cs := #[.int .i64 t292, .int .i64 x292001_2, .slice Ao57 x292002_2.length co57]) ?_ 1 _ rfl; refine bU ?_; refine blk_put (cs := #[.int .i64 x292000_2, .int .i64 x292001_2, .slice Ao57 x292002_2.length co57]) ?_ 0 _ rfl; refine bU ?_; exact BK291.out))⟩; replace HB : Aside0 (Below w.heap.size w w61) := ⟨(by rw [hw]; exact (lU4 GE282.out GE283.out GE284.out GE291.out))⟩; clear hw))
        go_roundg k2
        case measure => have := HJ3.out; have := HK2.out; omega
        case rel => exact ⟨(wrap64 (x36_2 + 1)), (x285000_2), (x285001_2), (t292), (t293), (t294), (.slice Ao60 t294.length co60), tE, H', ⟨by have := HJ3.out; have := HK2.out; omega⟩, ⟨by (with_reducible repeat (first | apply Kd.R_alloc | apply Kd.R_drewN | apply Kd.R_drew)); exact Kd.R_mono HO296.out (fun _ hk => trivial)⟩, ⟨by refine bU ?_; exact BK282.out⟩, ⟨by refine bU ?_; exact BK283.out⟩, ⟨by refine bU ?_; exact BK284.out⟩, ⟨by refine bU ?_; exact BK291.out⟩, ⟨by repeat (first | (with_reducible first | exact HB.out | apply below_alloc | apply pw_below_drewN | apply below_drew1 | refine below_set ?_ GE282.out | refine below_set ?_ GE283.out | refine below_set ?_ GE284.out | refine below_set ?_ GE291.out) | exact HB.out)⟩⟩
       ·replace c49 := Bool.eq_false_iff.mpr c49
        subst c49
        have H1 : (some (0, 0, ([] : List (S48)), false)) = some (r1, r2, r3, r4) := by rw [if_neg (show ¬ (false = true) by decide)] at H; exact H
        clear H
        have H := H1
        clear H1
        simp only [Option.some.injEq, Prod.mk.injEq] at H
        obtain ⟨rfl, rfl, rfl, rfl⟩ := H
        have hnb62 := NB282_283.out
        have hnc62 := NB283_282.out
        have hnb63 := NB282_284.out
        have hnc63 := NB284_282.out
        have hnb64 := NB282_291.out
        have hnc64 := NB291_282.out
        have hcz65_0 : wr.cell? ⟨gb282, 0, none⟩ = some (.int .i64 a0_0) := (blk_cell BK282.out 0).trans rfl
        have hcz65_1 : wr.cell? ⟨gb282, 1, none⟩ = some (.int .i64 a0_1) := (blk_cell BK282.out 1).trans rfl
        have hcz65_2 : wr.cell? ⟨gb282, 2, none⟩ = some (.int .i64 a0_2) := (blk_cell BK282.out 2).trans rfl
        have hcz65_3 : wr.cell? ⟨gb282, 3, none⟩ = some (.int .i64 a0_3) := (blk_cell BK282.out 3).trans rfl
        have hcz65_4 : wr.cell? ⟨gb282, 4, none⟩ = some (.int .i64 a0_4) := (blk_cell BK282.out 4).trans rfl
        have hcz65_5 : wr.cell? ⟨gb282, 5, none⟩ = some (.int .i64 a0_5) := (blk_cell BK282.out 5).trans rfl
        have hcz65_6 : wr.cell? ⟨gb282, 6, none⟩ = some (.int .i64 a0_6) := (blk_cell BK282.out 6).trans rfl
        have hfz65_0 := blk_frozen BK282.out 0
        have hfz65_1 := blk_frozen BK282.out 1
        have hfz65_2 := blk_frozen BK282.out 2
        have hfz65_3 := blk_frozen BK282.out 3
        have hfz65_4 := blk_frozen BK282.out 4
        have hfz65_5 := blk_frozen BK282.out 5
        have hfz65_6 := blk_frozen BK282.out 6
        have hnb66 := NB291_283.out
        have hnc66 := NB283_291.out
        have hnb67 := NB291_284.out
        have hnc67 := NB284_291.out
        have hcz68_0 : wr.cell? ⟨gb291, 0, none⟩ = some (.int .i64 x292000_2) := (blk_cell BK291.out 0).trans rfl
        have hcz68_1 : wr.cell? ⟨gb291, 1, none⟩ = some (.int .i64 x292001_2) := (blk_cell BK291.out 1).trans rfl
        have hcz68_2 : wr.cell? ⟨gb291, 2, none⟩ = some (u292002) := (blk_cell BK291.out 2).trans rfl
        have hfz68_0 := blk_frozen BK291.out 0
        have hfz68_1 := blk_frozen BK291.out 1
        have hfz68_2 := blk_frozen BK291.out 2
        obtain ⟨Ao69, co69, eo69⟩ := Kd.R_slice HO_292002.out
        subst eo69
        go_wp2_with (first | ((with_reducible refine gate_callee (f := 34) rfl ?_); refine goesL_ (some 41) rfl rfl Try.func34 (by kernel_rfl) rfl #[.agg #[.int .i64 a0_0, .int .i64 a0_1, .int .i64 a0_2, .int .i64 a0_3, .int .i64 a0_4, .int .i64 a0_5, .int .i64 a0_6], .agg #[.int .i64 x292000_2, .int .i64 x292001_2, .slice Ao69 x292002_2.length co69]] rfl aE ?_; (with_reducible refine (impl_Emitter_step.calls k2 a0_0 a0_1 a0_2 a0_3 a0_4 a0_5 a0_6 x292000_2 x292001_2 _ _ x292002_2 t292 t293 t294 false _ ?side1 ?side2 A48.out).mono ?_); (case side1 => exact cU (Kd.R_reads' HO_292002.out).2.2); (case side2 => exact (Kd.R_reads' HO_292002.out).2.1); rintro e w70 ⟨v295, rfl, ho0, hb⟩; refine ⟨_, rfl, ?_⟩; have HO296 := Aside0.mk (Kd.R_lower (Kd.R_new' ho0 (Kd.R_lt (rU HO_292002.out))) (below_size (lU4 GE282.out GE283.out GE284.out GE291.out))); replace HO_292002 := Aside0.mk (Kd.R_elder' (rU HO_292002.out) (Kd.R_base ho0) hb); replace BK282 := Aside0.mk (blk_below (bU BK282.out) hb); replace BK283 := Aside0.mk (blk_below (bU BK283.out) hb); replace BK284 := Aside0.mk (blk_below (bU BK284.out) hb); replace BK291 := Aside0.mk (blk_below (bU BK291.out) hb); replace HB := Aside0.mk (below_step (lU4 GE282.out GE283.out GE284.out GE291.out) hb); (try clear hb); (try clear hb2); (try clear hk); (try clear hi); (try clear ho0); have hcz71_0 : w70.cell? ⟨gb291, 0, none⟩ = some (.int .i64 x292000_2) := (blk_cell BK291.out 0).trans rfl; have hcz71_1 : w70.cell? ⟨gb291, 1, none⟩ = some (.int .i64 x292001_2) := (blk_cell BK291.out 1).trans rfl; have hcz71_2 : w70.cell? ⟨gb291, 2, none⟩ = some (.slice Ao69 x292002_2.length co69) := (blk_cell BK291.out 2).trans rfl; have hfz71_0 := blk_frozen BK291.out 0; have hfz71_1 := blk_frozen BK291.out 1; have hfz71_2 := blk_frozen BK291.out 2; obtain ⟨Ao72, co72, eo72⟩ := Kd.R_slice HO296.out; subst eo72) | ((with_reducible refine gate_store (t := 35) (p := 8) rfl ?_); refine store_event (t := 35) (p := 8) (v := ?vo_w73) (w1 := (((w70.setCell ⟨gb291, 0, none⟩ (.int .i64 t292)).setCell ⟨gb291, 1, none⟩ (.int .i64 t293)).setCell ⟨gb291, 2, none⟩ (.slice Ao72 t294.length co72))) ?hg ?ho ?hn ?hr ?_; (case ho => rfl); (case hg => rfl); (case hn => rfl); (case hr => first | (go_simp; done) | (go_simp; rfl) | (have hq0_ := (blk_cell BK291.out 0).trans (show _ = some _ from rfl); have hf0_ := blk_frozen BK291.out 0; have hq1_ := (blk_cell BK291.out 1).trans (show _ = some _ from rfl); have hf1_ := blk_frozen BK291.out 1; have hq2_ := (blk_cell BK291.out 2).trans (show _ = some _ from rfl); have hf2_ := blk_frozen BK291.out 2; first | (go_simp; done) | (go_simp; rfl))); intro w73 hw; replace HO_292002 : Aside0 (Kd.R k48 48 w73 w.heap.size (fun k_ => some k_ ≠ (.slice Ao72 t294.length co72 : Value).ownBlock) (.slice Ao69 x292002_2.length co69) x292002_2) := ⟨(by rw [hw]; exact (by (with_reducible repeat (first | apply Kd.R_alloc | apply Kd.R_drewN | apply Kd.R_drew)); exact Kd.R_mono (Kd.R_far (p := ⟨gb291, 2, none⟩) (Kd.R_far (p := ⟨gb291, 1, none⟩) (Kd.R_far (p := ⟨gb291, 0, none⟩) (Kd.R_types HO_292002.out BK291.out (by decide)) (fun _ hk => hk.2) (.int .i64 t292)) (fun _ hk => hk.2) (.int .i64 t293)) (fun _ hk => hk.2) (.slice Ao72 t294.length co72)) (fun _ hk => hk.1.2)))⟩; replace HO296 : Aside0 (Kd.R k48 48 w73 w.heap.size (fun k_ => some k_ ≠ (.slice Ao69 x292002_2.length co69 : Value).ownBlock) (.slice Ao72 t294.length co72) t294) := ⟨(by rw [hw]; exact (by (with_reducible repeat (first | apply Kd.R_alloc | apply Kd.R_drewN | apply Kd.R_drew)); exact Kd.R_mono (Kd.R_far (p := ⟨gb291, 2, none⟩) (Kd.R_far (p := ⟨gb291, 1, none⟩) (Kd.R_far (p := ⟨gb291, 0, none⟩) (Kd.R_types HO296.out BK291.out (by decide)) (fun _ hk => hk.2) (.int .i64 t292)) (fun _ hk => hk.2) (.int .i64 t293)) (fun _ hk => hk.2) (.slice Ao72 t294.length co72)) (fun _ hk => hk.1.2)))⟩; replace BK282 : Aside0 (w73.heap[gb282]? = some (.cells #[.int .i64 a0_0, .int .i64 a0_1, .int .i64 a0_2, .int .i64 a0_3, .int .i64 a0_4, .int .i64 a0_5, .int .i64 a0_6] 26 (0, 0))) := ⟨(by rw [hw]; exact (bF NB282_291.out BK282.out))⟩; replace BK283 : Aside0 (w73.heap[gb283]? = some (.cells #[.int .i64 a1_0, .int .i64 a1_1, .slice A1_2 l1_2.length c1_2] 35 (0, 0))) := ⟨(by rw [hw]; exact (bF NB283_291.out BK283.out))⟩; replace BK284 : Aside0 (w73.heap[gb284]? = some (.cells #[.int .i64 x285000_2, .int .i64 x285001_2, .slice none 0 0] 35 (0, 0))) := ⟨(by rw [hw]; exact (bF NB284_291.out BK284.out))⟩; replace BK291 : Aside0 (w73.heap[gb291]? = some (.cells #[.int .i64 t292, .int .i64 t293, .slice Ao72 t294.length co72] 35 (0, 0))) := ⟨(by rw [hw]; exact (by refine bU ?_; refine blk_put (cs := #[.int .i64 t292, .int .i64 t293, .slice Ao69 x292002_2.length co69]) ?_ 2 _ rfl; refine bU ?_; refine blk_put (cs := #[.int .i64 t292, .int .i64 x292001_2, .slice Ao69 x292002_2.length co69]) ?_ 1 _ rfl; refine bU ?_; refine blk_put (cs := #[.int .i64 x292000_2, .int .i64 x292001_2, .slice Ao69 x292002_2.length co69]) ?_ 0 _ rfl; refine bU ?_; exact BK291.out))⟩; replace HB : Aside0 (Below w.heap.size w w73) := ⟨(by rw [hw]; exact (lU4 GE282.out GE283.out GE284.out GE291.out))⟩; clear hw; have hnb74 := NB284_283.out; have hnc74 := NB283_284.out; have hcz75_0 : w73.cell? ⟨gb284, 0, none⟩ = some (.int .i64 x285000_2) := (blk_cell BK284.out 0).trans rfl; have hcz75_1 : w73.cell? ⟨gb284, 1, none⟩ = some (.int .i64 x285001_2) := (blk_cell BK284.out 1).trans rfl; have hcz75_2 : w73.cell? ⟨gb284, 2, none⟩ = some (.slice none 0 0) := (blk_cell BK284.out 2).trans rfl; have hfz75_0 := blk_frozen BK284.out 0; have hfz75_1 := blk_frozen BK284.out 1; have hfz75_2 := blk_frozen BK284.out 2) | ((with_reducible refine gate_store (t := 35) (p := 6) rfl ?_); refine store_event (t := 35) (p := 6) (v := ?vo_w76) (w1 := (((w73.setCell ⟨gb284, 0, none⟩ (.int .i64 0)).setCell ⟨gb284, 1, none⟩ (.int .i64 0)).setCell ⟨gb284, 2, none⟩ (.slice none 0 0))) ?hg ?ho ?hn ?hr ?_; (case ho => rfl); (case hg => rfl); (case hn => rfl); (case hr => first | (go_simp; done) | (go_simp; rfl) | (have hq0_ := (blk_cell BK284.out 0).trans (show _ = some _ from rfl); have hf0_ := blk_frozen BK284.out 0; have hq1_ := (blk_cell BK284.out 1).trans (show _ = some _ from rfl); have hf1_ := blk_frozen BK284.out 1; have hq2_ := (blk_cell BK284.out 2).trans (show _ = some _ from rfl); have hf2_ := blk_frozen BK284.out 2; first | (go_simp; done) | (go_simp; rfl))); intro w76 hw; replace HO_292002 : Aside0 (Kd.R k48 48 w76 w.heap.size (fun k_ => some k_ ≠ (.slice Ao72 t294.length co72 : Value).ownBlock) (.slice Ao69 x292002_2.length co69) x292002_2) := ⟨(by rw [hw]; exact (by (with_reducible repeat (first | apply Kd.R_alloc | apply Kd.R_drewN | apply Kd.R_drew)); exact Kd.R_mono (Kd.R_far (p := ⟨gb284, 2, none⟩) (Kd.R_far (p := ⟨gb284, 1, none⟩) (Kd.R_far (p := ⟨gb284, 0, none⟩) (Kd.R_types HO_292002.out BK284.out (by decide)) (fun _ hk => hk.2) (.int .i64 0)) (fun _ hk => hk.2) (.int .i64 0)) (fun _ hk => hk.2) (.slice none 0 0)) (fun _ hk => hk.1)))⟩; replace HO296 : Aside0 (Kd.R k48 48 w76 w.heap.size (fun k_ => some k_ ≠ (.slice Ao69 x292002_2.length co69 : Value).ownBlock) (.slice Ao72 t294.length co72) t294) := ⟨(by rw [hw]; exact (by (with_reducible repeat (first | apply Kd.R_alloc | apply Kd.R_drewN | apply Kd.R_drew)); exact Kd.R_mono (Kd.R_far (p := ⟨gb284, 2, none⟩) (Kd.R_far (p := ⟨gb284, 1, none⟩) (Kd.R_far (p := ⟨gb284, 0, none⟩) (Kd.R_types HO296.out BK284.out (by decide)) (fun _ hk => hk.2) (.int .i64 0)) (fun _ hk => hk.2) (.int .i64 0)) (fun _ hk => hk.2) (.slice none 0 0)) (fun _ hk => hk.1)))⟩; replace BK282 : Aside0 (w76.heap[gb282]? = some (.cells #[.int .i64 a0_0, .int .i64 a0_1, .int .i64 a0_2, .int .i64 a0_3, .int .i64 a0_4, .int .i64 a0_5, .int .i64 a0_6] 26 (0, 0))) := ⟨(by rw [hw]; exact (bF NB282_284.out BK282.out))⟩; replace BK283 : Aside0 (w76.heap[gb283]? = some (.cells #[.int .i64 a1_0, .int .i64 a1_1, .slice A1_2 l1_2.length c1_2] 35 (0, 0))) := ⟨(by rw [hw]; exact (bF NB283_284.out BK283.out))⟩; replace BK284 : Aside0 (w76.heap[gb284]? = some (.cells #[.int .i64 0, .int .i64 0, .slice none 0 0] 35 (0, 0))) := ⟨(by rw [hw]; exact (by refine bU ?_; refine blk_put (cs := #[.int .i64 0, .int .i64 0, .slice none 0 0]) ?_ 2 _ rfl; refine bU ?_; refine blk_put (cs := #[.int .i64 0, .int .i64 x285001_2, .slice none 0 0]) ?_ 1 _ rfl; refine bU ?_; refine blk_put (cs := #[.int .i64 x285000_2, .int .i64 x285001_2, .slice none 0 0]) ?_ 0 _ rfl; refine bU ?_; exact BK284.out))⟩; replace BK291 : Aside0 (w76.heap[gb291]? = some (.cells #[.int .i64 t292, .int .i64 t293, .slice Ao72 t294.length co72] 35 (0, 0))) := ⟨(by rw [hw]; exact (bF NB291_284.out BK291.out))⟩; replace HB : Aside0 (Below w.heap.size w w76) := ⟨(by rw [hw]; exact (lU4 GE282.out GE283.out GE284.out GE291.out))⟩; clear hw))
        refine bodyPost_ret (results_ct rfl _ _ gb284 35 #[.int .i64 0, .int .i64 0, .slice none 0 0] (0, 0) _ rfl (bU BK284.out) Try.underlying35 rfl (by kernel_rfl)) rfl ?_
        exact ⟨_, eE, by first | exact Kd.R_nil _ _ _ _ _ | exact Kd.N_nil _ _ _ _ _ | exact Kd.V_nil _ _ _ _ _ | exact Kd.Q_nil _ _ _ _ _ | exact Kd.S_nil _ _ _ _ _, lU4 GE282.out GE283.out GE284.out GE291.out⟩
      ·rw [if_neg c47] at H
       have c47b0 : decide (x36_2 < a2) = false := decide_eq_false c47
       clear c47
       simp only [Option.some.injEq, Prod.mk.injEq] at H
       obtain ⟨rfl, rfl, rfl, rfl⟩ := H
       have hnb77 := NB291_282.out
       have hnc77 := NB282_291.out
       have hnb78 := NB291_283.out
       have hnc78 := NB283_291.out
       have hnb79 := NB291_284.out
       have hnc79 := NB284_291.out
       have hcz80_0 : wr.cell? ⟨gb291, 0, none⟩ = some (.int .i64 x292000_2) := (blk_cell BK291.out 0).trans rfl
       have hcz80_1 : wr.cell? ⟨gb291, 1, none⟩ = some (.int .i64 x292001_2) := (blk_cell BK291.out 1).trans rfl
       have hcz80_2 : wr.cell? ⟨gb291, 2, none⟩ = some (u292002) := (blk_cell BK291.out 2).trans rfl
       have hfz80_0 := blk_frozen BK291.out 0
       have hfz80_1 := blk_frozen BK291.out 1
       have hfz80_2 := blk_frozen BK291.out 2
       have hnb81 := NB284_282.out
       have hnc81 := NB282_284.out
       have hnb82 := NB284_283.out
       have hnc82 := NB283_284.out
       have hcz83_0 : wr.cell? ⟨gb284, 0, none⟩ = some (.int .i64 x285000_2) := (blk_cell BK284.out 0).trans rfl
       have hcz83_1 : wr.cell? ⟨gb284, 1, none⟩ = some (.int .i64 x285001_2) := (blk_cell BK284.out 1).trans rfl
       have hcz83_2 : wr.cell? ⟨gb284, 2, none⟩ = some (.slice none 0 0) := (blk_cell BK284.out 2).trans rfl
       have hfz83_0 := blk_frozen BK284.out 0
       have hfz83_1 := blk_frozen BK284.out 1
       have hfz83_2 := blk_frozen BK284.out 2
       obtain ⟨Ao84, co84, eo84⟩ := Kd.R_slice HO_292002.out
       subst eo84
       go_wp2_with (first | ((with_reducible refine gate_store (t := 35) (p := 6) rfl ?_); refine store_event (t := 35) (p := 6) (v := ?vo_w85) (w1 := (((wr.setCell ⟨gb284, 0, none⟩ (.int .i64 x292000_2)).setCell ⟨gb284, 1, none⟩ (.int .i64 x292001_2)).setCell ⟨gb284, 2, none⟩ (.slice Ao84 x292002_2.length co84))) ?hg ?ho ?hn ?hr ?_; (case ho => rfl); (case hg => rfl); (case hn => rfl); (case hr => first | (go_simp; done) | (go_simp; rfl) | (have hq0_ := (blk_cell BK284.out 0).trans (show _ = some _ from rfl); have hf0_ := blk_frozen BK284.out 0; have hq1_ := (blk_cell BK284.out 1).trans (show _ = some _ from rfl); have hf1_ := blk_frozen BK284.out 1; have hq2_ := (blk_cell BK284.out 2).trans (show _ = some _ from rfl); have hf2_ := blk_frozen BK284.out 2; first | (go_simp; done) | (go_simp; rfl))); intro w85 hw; replace HO_292002 : Aside0 (Kd.R k48 48 w85 w.heap.size (fun _ => True) (.slice Ao84 x292002_2.length co84) x292002_2) := ⟨(by rw [hw]; exact (by (with_reducible repeat (first | apply Kd.R_alloc | apply Kd.R_drewN | apply Kd.R_drew)); exact Kd.R_mono (Kd.R_far (p := ⟨gb284, 2, none⟩) (Kd.R_far (p := ⟨gb284, 1, none⟩) (Kd.R_far (p := ⟨gb284, 0, none⟩) (Kd.R_types HO_292002.out BK284.out (by decide)) (fun _ hk => hk.2) (.int .i64 x292000_2)) (fun _ hk => hk.2) (.int .i64 x292001_2)) (fun _ hk => hk.2) (.slice Ao84 x292002_2.length co84)) (fun _ hk => trivial)))⟩; replace BK282 : Aside0 (w85.heap[gb282]? = some (.cells #[.int .i64 a0_0, .int .i64 a0_1, .int .i64 a0_2, .int .i64 a0_3, .int .i64 a0_4, .int .i64 a0_5, .int .i64 a0_6] 26 (0, 0))) := ⟨(by rw [hw]; exact (bF NB282_284.out BK282.out))⟩; replace BK283 : Aside0 (w85.heap[gb283]? = some (.cells #[.int .i64 a1_0, .int .i64 a1_1, .slice A1_2 l1_2.length c1_2] 35 (0, 0))) := ⟨(by rw [hw]; exact (bF NB283_284.out BK283.out))⟩; replace BK284 : Aside0 (w85.heap[gb284]? = some (.cells #[.int .i64 x292000_2, .int .i64 x292001_2, .slice Ao84 x292002_2.length co84] 35 (0, 0))) := ⟨(by rw [hw]; exact (by refine bU ?_; refine blk_put (cs := #[.int .i64 x292000_2, .int .i64 x292001_2, .slice none 0 0]) ?_ 2 _ rfl; refine bU ?_; refine blk_put (cs := #[.int .i64 x292000_2, .int .i64 x285001_2, .slice none 0 0]) ?_ 1 _ rfl; refine bU ?_; refine blk_put (cs := #[.int .i64 x285000_2, .int .i64 x285001_2, .slice none 0 0]) ?_ 0 _ rfl; refine bU ?_; exact BK284.out))⟩; replace BK291 : Aside0 (w85.heap[gb291]? = some (.cells #[.int .i64 x292000_2, .int .i64 x292001_2, .slice Ao84 x292002_2.length co84] 35 (0, 0))) := ⟨(by rw [hw]; exact (bF NB291_284.out BK291.out))⟩; replace HB : Aside0 (Below w.heap.size w w85) := ⟨(by rw [hw]; exact (lU4 GE282.out GE283.out GE284.out GE291.out))⟩; clear hw))
       refine bodyPost_ret (results_ct rfl _ _ gb284 35 #[.int .i64 x292000_2, .int .i64 x292001_2, .slice Ao84 x292002_2.length co84] (0, 0) _ rfl (bU BK284.out) Try.underlying35 rfl (by kernel_rfl)) rfl ?_
       exact ⟨_, eE, by (with_reducible repeat (first | apply Kd.R_alloc | apply Kd.R_drewN | apply Kd.R_drew)); exact HO_292002.out, lU4 GE282.out GE283.out GE284.out GE291.out⟩
end Go.Proofs.Ythgfobcckoedaaa.PFnExactStepCloud
