/- Texts of the row of the law FnExactGoodStore, laid together. -/
import Derived.Test.YtifejplilaefiaaZFnExactGoodStore3
import Derived.Test.YtifejplilaefiaaZFnExactGoodStore0
import Derived.SizedLaws
import Derived.ChangeArms
import Derived.OpenShut
import Derived.WideShapes
import Derived.WalkKit
import Derived.KernelRfl
import Derived.Laws.BitsLemmas
namespace Go.Proofs.Ytifejplilaefiaa.PFnExactGoodStore
open Go.RowKit Go.Proofs.YtifejplilaefiaaW.PrintWords Go.Proofs.YtifejplilaefiaaW.PrintLast Go.Proofs.YtifejplilaefiaaW.PrintMore
attribute [local go_sem] max2_int min2_int max_two min_two max_three min_three max_four min_four   -- for this text's walks alone
set_option linter.unusedVariables false
set_option linter.unusedSimpArgs false
mutual
def impl_GoodStore.l0 : Nat → Int → List (S77) → Int → Int → Int → Int → List (S77) → Option (Bool)
 | 0, _, _, _, _, _, _, _ => none
 | k + 1, x3, x7, x8, x9, x156000, x156001, x156002 => if x9 < x8 then (if 0 ≤ x9 then (if x9 < (x7.length : Int) then ((impl_GoodName.f k ((rd_T77 x7 x9).f0)).bind fun t160 => (if t160 = true then (if x9 > 0 then (if 0 ≤ (wrap64 (x9 - 1)) then (if (wrap64 (x9 - 1)) < (x156002.length : Int) then (if ((Op.bytesLess (((rd_T77 x156002 (wrap64 (x9 - 1))).f0).toList) (((rd_T77 x7 x9).f0).toList)) = true) then ((impl_inRange.f ((rd_T77 x7 x9).f1) 1 100000).bind fun t162 => (if t162 = true then ((impl_inRange.f ((rd_T77 x7 x9).f2) 0 1000).bind fun t163 => (if t163 = true then ((impl_inRange.f ((rd_T77 x7 x9).f3) 0 x156001).bind fun t164 => (impl_GoodStore.j1 k x3 x9 x7 x8 x9 (!t164) x156000 x156001 x156002 ((rd_T77 x7 x9).f0) ((rd_T77 x7 x9).f1) ((rd_T77 x7 x9).f2) ((rd_T77 x7 x9).f3))) else (impl_GoodStore.j1 k x3 x9 x7 x8 x9 true x156000 x156001 x156002 ((rd_T77 x7 x9).f0) ((rd_T77 x7 x9).f1) ((rd_T77 x7 x9).f2) ((rd_T77 x7 x9).f3)))) else (impl_GoodStore.j1 k x3 x9 x7 x8 x9 true x156000 x156001 x156002 ((rd_T77 x7 x9).f0) ((rd_T77 x7 x9).f1) ((rd_T77 x7 x9).f2) ((rd_T77 x7 x9).f3)))) else (impl_GoodStore.j1 k x3 x9 x7 x8 x9 true x156000 x156001 x156002 ((rd_T77 x7 x9).f0) ((rd_T77 x7 x9).f1) ((rd_T77 x7 x9).f2) ((rd_T77 x7 x9).f3))) else (none)) else (none)) else ((impl_inRange.f ((rd_T77 x7 x9).f1) 1 100000).bind fun t165 => (if t165 = true then ((impl_inRange.f ((rd_T77 x7 x9).f2) 0 1000).bind fun t166 => (if t166 = true then ((impl_inRange.f ((rd_T77 x7 x9).f3) 0 x156001).bind fun t167 => (impl_GoodStore.j1 k x3 x9 x7 x8 x9 (!t167) x156000 x156001 x156002 ((rd_T77 x7 x9).f0) ((rd_T77 x7 x9).f1) ((rd_T77 x7 x9).f2) ((rd_T77 x7 x9).f3))) else (impl_GoodStore.j1 k x3 x9 x7 x8 x9 true x156000 x156001 x156002 ((rd_T77 x7 x9).f0) ((rd_T77 x7 x9).f1) ((rd_T77 x7 x9).f2) ((rd_T77 x7 x9).f3)))) else (impl_GoodStore.j1 k x3 x9 x7 x8 x9 true x156000 x156001 x156002 ((rd_T77 x7 x9).f0) ((rd_T77 x7 x9).f1) ((rd_T77 x7 x9).f2) ((rd_T77 x7 x9).f3))))) else (impl_GoodStore.j1 k x3 x9 x7 x8 x9 true x156000 x156001 x156002 ((rd_T77 x7 x9).f0) ((rd_T77 x7 x9).f1) ((rd_T77 x7 x9).f2) ((rd_T77 x7 x9).f3)))) else (none)) else (none)) else ((impl_inRange.f x156000 1 100000).bind fun t156 => (if t156 = true then ((impl_isTime.f x156001).bind fun t157 => (if t157 = true then (if (x156002.length : Int) ≤ 30 then (some (decide (x3 ≤ x156000))) else (some false)) else (some false))) else (some false)))
def impl_GoodStore.j1 : Nat → Int → Int → List (S77) → Int → Int → Bool → Int → Int → List (S77) → ByteArray → Int → Int → Int → Option (Bool)
 | 0, _, _, _, _, _, _, _, _, _, _, _, _, _ => none
 | k + 1, x3, x4, x7, x8, x9, x53, x156000, x156001, x156002, x160000, x160001, x160002, x160003 => if x53 = true then (some false) else (if x160003 > 0 then (if 0 ≤ x4 then (if x4 ≤ (x156002.length : Int) then ((slices_ContainsFunc_w49.f k (x156002.take (x4 : Int).toNat) x160000 x160001 x160002 x160003).bind fun t172 => (if t172 = true then (some false) else (impl_GoodStore.l0 k (wrap64 (x3 + x160001)) x7 x8 (wrap64 (x9 + 1)) x156000 x156001 x156002))) else (none)) else (none)) else (impl_GoodStore.l0 k (wrap64 (x3 + x160001)) x7 x8 (wrap64 (x9 + 1)) x156000 x156001 x156002))
end
def impl_GoodStore.f (k : Nat) (a0_0 : Int) (a0_1 : Int) (l0_2 : List (S77)) : Option (Bool) := impl_GoodStore.l0 k 0 l0_2 (l0_2.length : Int) 0 a0_0 a0_1 l0_2
theorem impl_GoodStore.mono_l : ∀ k, (∀ y0 y1 y2 y3 y4 y5 y6, LeO (impl_GoodStore.l0 k y0 y1 y2 y3 y4 y5 y6) (impl_GoodStore.l0 (k + 1) y0 y1 y2 y3 y4 y5 y6)) ∧ (∀ y0 y1 y2 y3 y4 y5 y6 y7 y8 y9 y10 y11 y12, LeO (impl_GoodStore.j1 k y0 y1 y2 y3 y4 y5 y6 y7 y8 y9 y10 y11 y12) (impl_GoodStore.j1 (k + 1) y0 y1 y2 y3 y4 y5 y6 y7 y8 y9 y10 y11 y12))
 | 0 => ⟨fun _ _ _ _ _ _ _ r h => by simp [impl_GoodStore.l0] at h, fun _ _ _ _ _ _ _ _ _ _ _ _ _ r h => by simp [impl_GoodStore.j1] at h⟩
 | k + 1 => by
  obtain ⟨ih0, ih1⟩ := impl_GoodStore.mono_l k
  refine ⟨?_, ?_⟩
  ·intro y0 y1 y2 y3 y4 y5 y6
   unfold impl_GoodStore.l0
   repeat' first
   | (with_reducible exact ih0 _ _ _ _ _ _ _)
   | (with_reducible exact ih1 _ _ _ _ _ _ _ _ _ _ _ _ _)
   | (with_reducible exact impl_GoodName.mono _ _)
   | (with_reducible exact slices_ContainsFunc_w49.mono _ _ _ _ _ _)
   | (with_reducible exact LeO.refl _)
   | (with_reducible exact LeO.none _)
   | (with_reducible refine LeO.ite ?_ ?_)
   | (with_reducible refine LeO.bind ?_ (fun _ => ?_))
   | exact ih0 _ _ _ _ _ _ _
   | exact ih1 _ _ _ _ _ _ _ _ _ _ _ _ _
   | exact impl_GoodName.mono _ _
   | exact slices_ContainsFunc_w49.mono _ _ _ _ _ _
   | exact LeO.none _
   | refine LeO.ite ?_ ?_
   | refine LeO.bind ?_ (fun _ => ?_)
  ·intro y0 y1 y2 y3 y4 y5 y6 y7 y8 y9 y10 y11 y12
   unfold impl_GoodStore.j1
   repeat' first
   | (with_reducible exact ih0 _ _ _ _ _ _ _)
   | (with_reducible exact ih1 _ _ _ _ _ _ _ _ _ _ _ _ _)
   | (with_reducible exact impl_GoodName.mono _ _)
   | (with_reducible exact slices_ContainsFunc_w49.mono _ _ _ _ _ _)
   | (with_reducible exact LeO.refl _)
   | (with_reducible exact LeO.none _)
   | (with_reducible refine LeO.ite ?_ ?_)
   | (with_reducible refine LeO.bind ?_ (fun _ => ?_))
   | exact ih0 _ _ _ _ _ _ _
   | exact ih1 _ _ _ _ _ _ _ _ _ _ _ _ _
   | exact impl_GoodName.mono _ _
   | exact slices_ContainsFunc_w49.mono _ _ _ _ _ _
   | exact LeO.none _
   | refine LeO.ite ?_ ?_
   | refine LeO.bind ?_ (fun _ => ?_)
theorem impl_GoodStore.mono : ∀ a0 a1 a2 k, LeO (impl_GoodStore.f k a0 a1 a2) (impl_GoodStore.f (k + 1) a0 a1 a2) := by
 intro a0 a1 a2 k
 obtain ⟨ih0, ih1⟩ := impl_GoodStore.mono_l k
 unfold impl_GoodStore.f
 repeat' first
   | (with_reducible exact ih0 _ _ _ _ _ _ _)
   | (with_reducible exact ih1 _ _ _ _ _ _ _ _ _ _ _ _ _)
   | (with_reducible exact impl_GoodName.mono _ _)
   | (with_reducible exact slices_ContainsFunc_w49.mono _ _ _ _ _ _)
   | (with_reducible exact LeO.refl _)
   | (with_reducible exact LeO.none _)
   | (with_reducible refine LeO.ite ?_ ?_)
   | (with_reducible refine LeO.bind ?_ (fun _ => ?_))
   | exact ih0 _ _ _ _ _ _ _
   | exact ih1 _ _ _ _ _ _ _ _ _ _ _ _ _
   | exact impl_GoodName.mono _ _
   | exact slices_ContainsFunc_w49.mono _ _ _ _ _ _
   | exact LeO.none _
   | refine LeO.ite ?_ ?_
   | refine LeO.bind ?_ (fun _ => ?_)
def impl_GoodStore.T5 : Bool × List (List Nat × List Nat) := (true, [([], []), ([0], [0]), ([1], [1]), ([2], [2]), ([3, 2], [3]), ([4], [4]), ([5, 4], [4, 5]), ([6, 4, 4], [4, 6]), ([7], [7]), ([8, 7], [7, 8]), ([7], [7]), ([10, 7], [7, 10]), ([9, 11, 7], [7, 9, 11]), ([12, 7], [7, 12]), ([13, 7], [7, 13]), ([7], [7]), ([15, 7], [7, 15]), ([14, 16, 7], [7, 14, 16]), ([7, 17, 4], [4, 7, 17]), ([4, 18], [4, 18]), ([19, 7], [19]), ([20], [20]), ([21, 20], [20, 21]), ([22, 20, 20], [20, 22]), ([23, 20], [20, 23]), ([20, 24], [20, 24]), ([25, 23], [25]), ([26], [26]), ([27, 26], [26, 27]), ([28, 26, 26], [26, 28]), ([29, 26], [26, 29]), ([26, 30], [26, 30]), ([31, 29], [31]), ([32], [32]), ([33, 32], [32, 33]), ([32], [32]), ([35, 32], [32, 35]), ([34, 36, 32, 32], [32, 34, 36]), ([37, 32], [32, 37]), ([32, 38], [32, 38])])
def impl_GoodStore.B5 : List Nat := [0, 1, 3, 7, 15, 31, 63, 127, 255, 511, 255, 1279, 4095, 8191, 16383, 255, 33023, 131071, 262143, 524287, 1048575, 2097151, 4194303, 8388607, 16777215, 33554431, 67108863, 134217727, 268435455, 536870911, 1073741823, 2147483647, 4294967295, 8589934591, 17179869183, 8589934591, 42949672959, 137438953471, 274877906943, 549755813887]
theorem impl_GoodStore.tab5 : rtab .any (opsOf Try.f21 5) = impl_GoodStore.T5 := by kernel_rfl
theorem impl_GoodStore.bits5 : waitsOk impl_GoodStore.T5.2 impl_GoodStore.B5 = true := by kernel_rfl
set_option maxHeartbeats 8000000 in
set_option maxRecDepth 100000 in
theorem impl_GoodStore.calls (k : Nat) (a0_0 : Int) (a0_1 : Int) (A0_2 : Option Addr) (c0_2 : Nat) (l0_2 : List (S77)) (r : Bool) (w : World) (hr0_2 : Kd.C k77 w A0_2 l0_2.length l0_2) (hc0_2 : l0_2.length ≤ c0_2) (h : impl_GoodStore.f k a0_0 a0_1 l0_2 = some r) :
  Calls Try.prog 21 #[.agg #[.int .i64 a0_0, .int .i64 a0_1, .slice A0_2 l0_2.length c0_2]] w fun e w' => e = .returned (.bool r) ∧ Below w.heap.size w w' := by
 have hu42 := Try.underlying42
 have hu77 := Try.underlying77
 have HR0_2 := Aside0.mk hr0_2
 have HC0_2 := Aside0.mk hc0_2
 clear hr0_2 hc0_2
 have HB := Aside0.mk (Below.refl w.heap.size w)
 have H : (impl_GoodStore.l0 k 0 l0_2 (l0_2.length : Int) 0 a0_0 a0_1 l0_2) = some r := h
 clear h
 have H' := Aside0.mk H
 clear H
 go_enter Try.func21, Try.ntmps21
 go_wp2_with (first | ((with_reducible refine gate_dst (N := 1) rfl ?_); (try (refine gate_guard (by rfl) ?_; dsimp only)); refine box_event rfl (N := 1) rfl (cs := #[.int .i64 a0_0, .int .i64 a0_1, .slice A0_2 l0_2.length c0_2]) (t := 42) sE ?_; intro gb155 hg w2 hbox hb; have BK155 := Aside0.mk hbox; have GW155 := gS w hg (lU); have GE155 := gS w hg (lU); replace HB := Aside0.mk (below_step (lU) hb); clear hb hbox hg; have hcz3_0 : w2.cell? ⟨gb155, 0, none⟩ = some (.int .i64 a0_0) := (blk_cell BK155.out 0).trans rfl; have hcz3_1 : w2.cell? ⟨gb155, 1, none⟩ = some (.int .i64 a0_1) := (blk_cell BK155.out 1).trans rfl; have hcz3_2 : w2.cell? ⟨gb155, 2, none⟩ = some (.slice A0_2 l0_2.length c0_2) := (blk_cell BK155.out 2).trans rfl; have hfz3_0 := blk_frozen BK155.out 0; have hfz3_1 := blk_frozen BK155.out 1; have hfz3_2 := blk_frozen BK155.out 2))
 (try simp only [Act.put, List.setIfInBounds_toArray, List.set_cons_zero, List.set_cons_succ])
 go_loopg [3, 9] k (fun kq v3 v9 w' => ∃ (x3_1 : Int) (x9_1 : Int), v3 = .int .i64 x3_1 ∧ v9 = .int .i64 x9_1 ∧ Aside0 (impl_GoodStore.l0 kq x3_1 l0_2 (l0_2.length : Int) x9_1 a0_0 a0_1 l0_2 = some r) ∧ Aside0 (kq ≤ k) ∧ Aside0 (w'.heap[gb155]? = some (.cells #[.int .i64 a0_0, .int .i64 a0_1, (.slice A0_2 l0_2.length c0_2)] 42 (0, 0))) ∧ Aside0 (Below w.heap.size w w'))
 case atStart => exact ⟨(0), (0), tE, tE, H', ⟨Nat.le_refl _⟩, ⟨by refine bU ?_; exact BK155.out⟩, ⟨by repeat (first | (with_reducible first | exact HB.out | apply below_alloc | apply pw_below_drewN | apply below_drew1 | refine below_set ?_ GE155.out) | exact HB.out)⟩⟩
 case round =>
  clear H'
  try clear c2
  try clear p2
  try clear hcz3_0
  try clear hcz3_1
  try clear hcz3_2
  try clear hfz3_0
  try clear hfz3_1
  try clear hfz3_2
  obtain ⟨x3_1, x9_1, rfl, rfl, HA, HK1, BK155, HB⟩ := hrel
  cases gk with
  | zero => exact absurd HA.out (by simp [impl_GoodStore.l0])
  | succ k1 =>
   have H := HA.out
   clear HA
   simp only [impl_GoodStore.l0] at H
   by_cases c4 : x9_1 < (l0_2.length : Int)
   ·rw [if_pos c4] at H
    have c4b0 : decide (x9_1 < (l0_2.length : Int)) = true := decide_eq_true c4
    clear c4
    by_cases c5 : 0 ≤ x9_1
    ·rw [if_pos c5] at H
     have c5b0 : decide (0 ≤ x9_1) = true := decide_eq_true c5
     clear c5
     by_cases c6 : x9_1 < (l0_2.length : Int)
     ·rw [if_pos c6] at H
      have c6b0 : decide (x9_1 < (l0_2.length : Int)) = true := decide_eq_true c6
      clear c6
      have HC7 := Aside0.mk H
      clear H
      have p158 : 0 ≤ (x9_1 : Int) := of_decide_eq_true hE
      have q158 : x9_1 < (l0_2.length : Int) := of_decide_eq_true hE
      obtain ⟨ad158, e158, hx158_0, hx158_1, hx158_2, hx158_3⟩ := at_T77 HR0_2.out x9_1 p158 q158
      cases e158
      replace hx158_0 := (HB.out.cell (World.block_lt_of_cell? w _ hx158_0)).trans hx158_0
      replace hx158_1 := (HB.out.cell (World.block_lt_of_cell? w _ hx158_1)).trans hx158_1
      replace hx158_2 := (HB.out.cell (World.block_lt_of_cell? w _ hx158_2)).trans hx158_2
      replace hx158_3 := (HB.out.cell (World.block_lt_of_cell? w _ hx158_3)).trans hx158_3
      replace p158 := eq_true p158
      replace q158 := eq_true q158
      go_upto_region 5 with (first | ((with_reducible refine gate_dst (N := 5) rfl ?_); (try (refine gate_guard (by rfl) ?_; dsimp only)); refine box_event rfl (N := 5) rfl (cs := #[.string (⟨#[]⟩ : ByteArray), .int .i64 0, .int .i64 0, .int .i64 0]) (t := 77) sE ?_; intro gb159 hg w8 hbox hb; have BK159 := Aside0.mk hbox; have GW159 := gS w hg (lU1 GE155.out); have GE159 := gS w hg (lU1 GE155.out); replace HB := Aside0.mk (below_step (lU1 GE155.out) hb); have NB155_159 := nL hg (bU BK155.out); have NB159_155 := nG hg (bU BK155.out); replace BK155 := Aside0.mk (blk_below (bU BK155.out) hb); clear hb hbox hg; have hnb9 := NB159_155.out; have hnc9 := NB155_159.out; have hcz10_0 : w8.cell? ⟨gb159, 0, none⟩ = some (.string (⟨#[]⟩ : ByteArray)) := (blk_cell BK159.out 0).trans rfl; have hcz10_1 : w8.cell? ⟨gb159, 1, none⟩ = some (.int .i64 0) := (blk_cell BK159.out 1).trans rfl; have hcz10_2 : w8.cell? ⟨gb159, 2, none⟩ = some (.int .i64 0) := (blk_cell BK159.out 2).trans rfl; have hcz10_3 : w8.cell? ⟨gb159, 3, none⟩ = some (.int .i64 0) := (blk_cell BK159.out 3).trans rfl; have hfz10_0 := blk_frozen BK159.out 0; have hfz10_1 := blk_frozen BK159.out 1; have hfz10_2 := blk_frozen BK159.out 2; have hfz10_3 := blk_frozen BK159.out 3) | ((with_reducible refine gate_store (t := 77) (p := 5) rfl ?_); refine store_event (t := 77) (p := 5) (v := ?vo_w11) (w1 := ((((w8.setCell ⟨gb159, 0, none⟩ (.string ((rd_T77 l0_2 x9_1).f0))).setCell ⟨gb159, 1, none⟩ (.int .i64 ((rd_T77 l0_2 x9_1).f1))).setCell ⟨gb159, 2, none⟩ (.int .i64 ((rd_T77 l0_2 x9_1).f2))).setCell ⟨gb159, 3, none⟩ (.int .i64 ((rd_T77 l0_2 x9_1).f3)))) ?hg ?ho ?hn ?hr ?_; (case ho => rfl); (case hg => rfl); (case hn => rfl); (case hr => first | (go_simp; done) | (go_simp; rfl) | (have hq0_ := (blk_cell BK159.out 0).trans (show _ = some _ from rfl); have hf0_ := blk_frozen BK159.out 0; have hq1_ := (blk_cell BK159.out 1).trans (show _ = some _ from rfl); have hf1_ := blk_frozen BK159.out 1; have hq2_ := (blk_cell BK159.out 2).trans (show _ = some _ from rfl); have hf2_ := blk_frozen BK159.out 2; have hq3_ := (blk_cell BK159.out 3).trans (show _ = some _ from rfl); have hf3_ := blk_frozen BK159.out 3; first | (go_simp; done) | (go_simp; rfl))); intro w11 hw; replace BK155 : Aside0 (w11.heap[gb155]? = some (.cells #[.int .i64 a0_0, .int .i64 a0_1, .slice (some ad158) l0_2.length c0_2] 42 (0, 0))) := ⟨(by rw [hw]; exact (bF NB155_159.out BK155.out))⟩; replace BK159 : Aside0 (w11.heap[gb159]? = some (.cells #[.string ((rd_T77 l0_2 x9_1).f0), .int .i64 ((rd_T77 l0_2 x9_1).f1), .int .i64 ((rd_T77 l0_2 x9_1).f2), .int .i64 ((rd_T77 l0_2 x9_1).f3)] 77 (0, 0))) := ⟨(by rw [hw]; exact (by refine bU ?_; refine blk_put (cs := #[.string ((rd_T77 l0_2 x9_1).f0), .int .i64 ((rd_T77 l0_2 x9_1).f1), .int .i64 ((rd_T77 l0_2 x9_1).f2), .int .i64 0]) ?_ 3 _ rfl; refine bU ?_; refine blk_put (cs := #[.string ((rd_T77 l0_2 x9_1).f0), .int .i64 ((rd_T77 l0_2 x9_1).f1), .int .i64 0, .int .i64 0]) ?_ 2 _ rfl; refine bU ?_; refine blk_put (cs := #[.string ((rd_T77 l0_2 x9_1).f0), .int .i64 0, .int .i64 0, .int .i64 0]) ?_ 1 _ rfl; refine bU ?_; refine blk_put (cs := #[.string (⟨#[]⟩ : ByteArray), .int .i64 0, .int .i64 0, .int .i64 0]) ?_ 0 _ rfl; refine bU ?_; exact BK159.out))⟩; replace HB : Aside0 (Below w.heap.size w w11) := ⟨(by rw [hw]; exact (lU2 GE155.out GE159.out))⟩; clear hw))
      (try simp only [Act.put, List.setIfInBounds_toArray, List.set_cons_zero, List.set_cons_succ])
      go_cut [53] (fun v53 wc => ∃ (kq : Nat) (x53_6 : Bool), v53 = .bool x53_6 ∧ Aside0 (impl_GoodStore.j1 kq x3_1 x9_1 l0_2 (l0_2.length : Int) x9_1 x53_6 a0_0 a0_1 l0_2 ((rd_T77 l0_2 x9_1).f0) ((rd_T77 l0_2 x9_1).f1) ((rd_T77 l0_2 x9_1).f2) ((rd_T77 l0_2 x9_1).f3) = some r) ∧ Aside0 (kq ≤ k1) ∧ Aside0 (wc.heap[gb155]? = some (.cells #[.int .i64 a0_0, .int .i64 a0_1, (.slice (some ad158) l0_2.length c0_2)] 42 (0, 0))) ∧ Aside0 (wc.heap[gb159]? = some (.cells #[.string ((rd_T77 l0_2 x9_1).f0), .int .i64 ((rd_T77 l0_2 x9_1).f1), .int .i64 ((rd_T77 l0_2 x9_1).f2), .int .i64 ((rd_T77 l0_2 x9_1).f3)] 77 (0, 0))) ∧ Aside0 (Below w.heap.size w wc))
      case first =>
       have H := HC7.out
       clear HC7
       replace H := Option.bind_eq_some_iff.mp H
       obtain ⟨t160, A120, H⟩ := H
       replace H : (if t160 = true then (if x9_1 > 0 then (if 0 ≤ (wrap64 (x9_1 - 1)) then (if (wrap64 (x9_1 - 1)) < (l0_2.length : Int) then (if ((Op.bytesLess (((rd_T77 l0_2 (wrap64 (x9_1 - 1))).f0).toList) (((rd_T77 l0_2 x9_1).f0).toList)) = true) then ((impl_inRange.f ((rd_T77 l0_2 x9_1).f1) 1 100000).bind fun t162 => (if t162 = true then ((impl_inRange.f ((rd_T77 l0_2 x9_1).f2) 0 1000).bind fun t163 => (if t163 = true then ((impl_inRange.f ((rd_T77 l0_2 x9_1).f3) 0 a0_1).bind fun t164 => (impl_GoodStore.j1 k1 x3_1 x9_1 l0_2 (l0_2.length : Int) x9_1 (!t164) a0_0 a0_1 l0_2 ((rd_T77 l0_2 x9_1).f0) ((rd_T77 l0_2 x9_1).f1) ((rd_T77 l0_2 x9_1).f2) ((rd_T77 l0_2 x9_1).f3))) else (impl_GoodStore.j1 k1 x3_1 x9_1 l0_2 (l0_2.length : Int) x9_1 true a0_0 a0_1 l0_2 ((rd_T77 l0_2 x9_1).f0) ((rd_T77 l0_2 x9_1).f1) ((rd_T77 l0_2 x9_1).f2) ((rd_T77 l0_2 x9_1).f3)))) else (impl_GoodStore.j1 k1 x3_1 x9_1 l0_2 (l0_2.length : Int) x9_1 true a0_0 a0_1 l0_2 ((rd_T77 l0_2 x9_1).f0) ((rd_T77 l0_2 x9_1).f1) ((rd_T77 l0_2 x9_1).f2) ((rd_T77 l0_2 x9_1).f3)))) else (impl_GoodStore.j1 k1 x3_1 x9_1 l0_2 (l0_2.length : Int) x9_1 true a0_0 a0_1 l0_2 ((rd_T77 l0_2 x9_1).f0) ((rd_T77 l0_2 x9_1).f1) ((rd_T77 l0_2 x9_1).f2) ((rd_T77 l0_2 x9_1).f3))) else (none)) else (none)) else ((impl_inRange.f ((rd_T77 l0_2 x9_1).f1) 1 100000).bind fun t165 => (if t165 = true then ((impl_inRange.f ((rd_T77 l0_2 x9_1).f2) 0 1000).bind fun t166 => (if t166 = true then ((impl_inRange.f ((rd_T77 l0_2 x9_1).f3) 0 a0_1).bind fun t167 => (impl_GoodStore.j1 k1 x3_1 x9_1 l0_2 (l0_2.length : Int) x9_1 (!t167) a0_0 a0_1 l0_2 ((rd_T77 l0_2 x9_1).f0) ((rd_T77 l0_2 x9_1).f1) ((rd_T77 l0_2 x9_1).f2) ((rd_T77 l0_2 x9_1).f3))) else (impl_GoodStore.j1 k1 x3_1 x9_1 l0_2 (l0_2.length : Int) x9_1 true a0_0 a0_1 l0_2 ((rd_T77 l0_2 x9_1).f0) ((rd_T77 l0_2 x9_1).f1) ((rd_T77 l0_2 x9_1).f2) ((rd_T77 l0_2 x9_1).f3)))) else (impl_GoodStore.j1 k1 x3_1 x9_1 l0_2 (l0_2.length : Int) x9_1 true a0_0 a0_1 l0_2 ((rd_T77 l0_2 x9_1).f0) ((rd_T77 l0_2 x9_1).f1) ((rd_T77 l0_2 x9_1).f2) ((rd_T77 l0_2 x9_1).f3))))) else (impl_GoodStore.j1 k1 x3_1 x9_1 l0_2 (l0_2.length : Int) x9_1 true a0_0 a0_1 l0_2 ((rd_T77 l0_2 x9_1).f0) ((rd_T77 l0_2 x9_1).f1) ((rd_T77 l0_2 x9_1).f2) ((rd_T77 l0_2 x9_1).f3))) = some r := H
       have A12 := Aside0.mk A120
       clear A120
       by_cases c13 : t160 = true
       ·subst c13
        have H1 : (if x9_1 > 0 then (if 0 ≤ (wrap64 (x9_1 - 1)) then (if (wrap64 (x9_1 - 1)) < (l0_2.length : Int) then (if ((Op.bytesLess (((rd_T77 l0_2 (wrap64 (x9_1 - 1))).f0).toList) (((rd_T77 l0_2 x9_1).f0).toList)) = true) then ((impl_inRange.f ((rd_T77 l0_2 x9_1).f1) 1 100000).bind fun t162 => (if t162 = true then ((impl_inRange.f ((rd_T77 l0_2 x9_1).f2) 0 1000).bind fun t163 => (if t163 = true then ((impl_inRange.f ((rd_T77 l0_2 x9_1).f3) 0 a0_1).bind fun t164 => (impl_GoodStore.j1 k1 x3_1 x9_1 l0_2 (l0_2.length : Int) x9_1 (!t164) a0_0 a0_1 l0_2 ((rd_T77 l0_2 x9_1).f0) ((rd_T77 l0_2 x9_1).f1) ((rd_T77 l0_2 x9_1).f2) ((rd_T77 l0_2 x9_1).f3))) else (impl_GoodStore.j1 k1 x3_1 x9_1 l0_2 (l0_2.length : Int) x9_1 true a0_0 a0_1 l0_2 ((rd_T77 l0_2 x9_1).f0) ((rd_T77 l0_2 x9_1).f1) ((rd_T77 l0_2 x9_1).f2) ((rd_T77 l0_2 x9_1).f3)))) else (impl_GoodStore.j1 k1 x3_1 x9_1 l0_2 (l0_2.length : Int) x9_1 true a0_0 a0_1 l0_2 ((rd_T77 l0_2 x9_1).f0) ((rd_T77 l0_2 x9_1).f1) ((rd_T77 l0_2 x9_1).f2) ((rd_T77 l0_2 x9_1).f3)))) else (impl_GoodStore.j1 k1 x3_1 x9_1 l0_2 (l0_2.length : Int) x9_1 true a0_0 a0_1 l0_2 ((rd_T77 l0_2 x9_1).f0) ((rd_T77 l0_2 x9_1).f1) ((rd_T77 l0_2 x9_1).f2) ((rd_T77 l0_2 x9_1).f3))) else (none)) else (none)) else ((impl_inRange.f ((rd_T77 l0_2 x9_1).f1) 1 100000).bind fun t165 => (if t165 = true then ((impl_inRange.f ((rd_T77 l0_2 x9_1).f2) 0 1000).bind fun t166 => (if t166 = true then ((impl_inRange.f ((rd_T77 l0_2 x9_1).f3) 0 a0_1).bind fun t167 => (impl_GoodStore.j1 k1 x3_1 x9_1 l0_2 (l0_2.length : Int) x9_1 (!t167) a0_0 a0_1 l0_2 ((rd_T77 l0_2 x9_1).f0) ((rd_T77 l0_2 x9_1).f1) ((rd_T77 l0_2 x9_1).f2) ((rd_T77 l0_2 x9_1).f3))) else (impl_GoodStore.j1 k1 x3_1 x9_1 l0_2 (l0_2.length : Int) x9_1 true a0_0 a0_1 l0_2 ((rd_T77 l0_2 x9_1).f0) ((rd_T77 l0_2 x9_1).f1) ((rd_T77 l0_2 x9_1).f2) ((rd_T77 l0_2 x9_1).f3)))) else (impl_GoodStore.j1 k1 x3_1 x9_1 l0_2 (l0_2.length : Int) x9_1 true a0_0 a0_1 l0_2 ((rd_T77 l0_2 x9_1).f0) ((rd_T77 l0_2 x9_1).f1) ((rd_T77 l0_2 x9_1).f2) ((rd_T77 l0_2 x9_1).f3))))) = some r := by rw [if_pos rfl] at H; exact H
        clear H
        have H := H1
        clear H1
        by_cases c14 : x9_1 > 0
        ·rw [if_pos c14] at H
         have c14b0 : decide (0 < x9_1) = true := decide_eq_true c14
         clear c14
         (first | rw [c14b0] | (simp only [i64_w, i32_w]; rw [c14b0]) | (rw [c14b2]; simp only [Bool.not_false, Bool.not_true]) | skip)
         obtain ⟨ji15, hji15⟩ : ∃ j_ : Int, (wrap64 (x9_1 - 1)) = j_ := ⟨_, rfl⟩
         replace H : (if 0 ≤ (ji15) then (if (ji15) < (l0_2.length : Int) then (if ((Op.bytesLess (((rd_T77 l0_2 (ji15)).f0).toList) (((rd_T77 l0_2 x9_1).f0).toList)) = true) then ((impl_inRange.f ((rd_T77 l0_2 x9_1).f1) 1 100000).bind fun t162 => (if t162 = true then ((impl_inRange.f ((rd_T77 l0_2 x9_1).f2) 0 1000).bind fun t163 => (if t163 = true then ((impl_inRange.f ((rd_T77 l0_2 x9_1).f3) 0 a0_1).bind fun t164 => (impl_GoodStore.j1 k1 x3_1 x9_1 l0_2 (l0_2.length : Int) x9_1 (!t164) a0_0 a0_1 l0_2 ((rd_T77 l0_2 x9_1).f0) ((rd_T77 l0_2 x9_1).f1) ((rd_T77 l0_2 x9_1).f2) ((rd_T77 l0_2 x9_1).f3))) else (impl_GoodStore.j1 k1 x3_1 x9_1 l0_2 (l0_2.length : Int) x9_1 true a0_0 a0_1 l0_2 ((rd_T77 l0_2 x9_1).f0) ((rd_T77 l0_2 x9_1).f1) ((rd_T77 l0_2 x9_1).f2) ((rd_T77 l0_2 x9_1).f3)))) else (impl_GoodStore.j1 k1 x3_1 x9_1 l0_2 (l0_2.length : Int) x9_1 true a0_0 a0_1 l0_2 ((rd_T77 l0_2 x9_1).f0) ((rd_T77 l0_2 x9_1).f1) ((rd_T77 l0_2 x9_1).f2) ((rd_T77 l0_2 x9_1).f3)))) else (impl_GoodStore.j1 k1 x3_1 x9_1 l0_2 (l0_2.length : Int) x9_1 true a0_0 a0_1 l0_2 ((rd_T77 l0_2 x9_1).f0) ((rd_T77 l0_2 x9_1).f1) ((rd_T77 l0_2 x9_1).f2) ((rd_T77 l0_2 x9_1).f3))) else (none)) else (none)) = some r := by first | (rw [hji15] at H; exact H) | (simp only [hji15] at H ⊢; exact H)
         (try rw [hji15] at A12)
         have hji15w : (IntKind.i64.wrap (x9_1 - 1)) = ji15 := (i64_w _).trans hji15
         by_cases c16 : 0 ≤ (ji15)
         ·rw [if_pos c16] at H
          have c16b0 : decide (0 ≤ (ji15)) = true := decide_eq_true c16
          clear c16
          by_cases c17 : (ji15) < (l0_2.length : Int)
          ·rw [if_pos c17] at H
           have c17b0 : decide ((ji15) < (l0_2.length : Int)) = true := decide_eq_true c17
           clear c17
           by_cases c18 : ((Op.bytesLess (((rd_T77 l0_2 (ji15)).f0).toList) (((rd_T77 l0_2 x9_1).f0).toList)) = true)
           ·rw [if_pos c18] at H
            have c18b0 : (Op.bytesLess (((rd_T77 l0_2 (ji15)).f0).toList) (((rd_T77 l0_2 x9_1).f0).toList)) = true := c18
            clear c18
            replace H := Option.bind_eq_some_iff.mp H
            obtain ⟨t162, A190, H⟩ := H
            replace H : (if t162 = true then ((impl_inRange.f ((rd_T77 l0_2 x9_1).f2) 0 1000).bind fun t163 => (if t163 = true then ((impl_inRange.f ((rd_T77 l0_2 x9_1).f3) 0 a0_1).bind fun t164 => (impl_GoodStore.j1 k1 x3_1 x9_1 l0_2 (l0_2.length : Int) x9_1 (!t164) a0_0 a0_1 l0_2 ((rd_T77 l0_2 x9_1).f0) ((rd_T77 l0_2 x9_1).f1) ((rd_T77 l0_2 x9_1).f2) ((rd_T77 l0_2 x9_1).f3))) else (impl_GoodStore.j1 k1 x3_1 x9_1 l0_2 (l0_2.length : Int) x9_1 true a0_0 a0_1 l0_2 ((rd_T77 l0_2 x9_1).f0) ((rd_T77 l0_2 x9_1).f1) ((rd_T77 l0_2 x9_1).f2) ((rd_T77 l0_2 x9_1).f3)))) else (impl_GoodStore.j1 k1 x3_1 x9_1 l0_2 (l0_2.length : Int) x9_1 true a0_0 a0_1 l0_2 ((rd_T77 l0_2 x9_1).f0) ((rd_T77 l0_2 x9_1).f1) ((rd_T77 l0_2 x9_1).f2) ((rd_T77 l0_2 x9_1).f3))) = some r := H
            have A19 := Aside0.mk A190
            clear A190
            by_cases c20 : t162 = true
            ·subst c20
             have H1 : ((impl_inRange.f ((rd_T77 l0_2 x9_1).f2) 0 1000).bind fun t163 => (if t163 = true then ((impl_inRange.f ((rd_T77 l0_2 x9_1).f3) 0 a0_1).bind fun t164 => (impl_GoodStore.j1 k1 x3_1 x9_1 l0_2 (l0_2.length : Int) x9_1 (!t164) a0_0 a0_1 l0_2 ((rd_T77 l0_2 x9_1).f0) ((rd_T77 l0_2 x9_1).f1) ((rd_T77 l0_2 x9_1).f2) ((rd_T77 l0_2 x9_1).f3))) else (impl_GoodStore.j1 k1 x3_1 x9_1 l0_2 (l0_2.length : Int) x9_1 true a0_0 a0_1 l0_2 ((rd_T77 l0_2 x9_1).f0) ((rd_T77 l0_2 x9_1).f1) ((rd_T77 l0_2 x9_1).f2) ((rd_T77 l0_2 x9_1).f3)))) = some r := by rw [if_pos rfl] at H; exact H
             clear H
             have H := H1
             clear H1
             replace H := Option.bind_eq_some_iff.mp H
             obtain ⟨t163, A210, H⟩ := H
             replace H : (if t163 = true then ((impl_inRange.f ((rd_T77 l0_2 x9_1).f3) 0 a0_1).bind fun t164 => (impl_GoodStore.j1 k1 x3_1 x9_1 l0_2 (l0_2.length : Int) x9_1 (!t164) a0_0 a0_1 l0_2 ((rd_T77 l0_2 x9_1).f0) ((rd_T77 l0_2 x9_1).f1) ((rd_T77 l0_2 x9_1).f2) ((rd_T77 l0_2 x9_1).f3))) else (impl_GoodStore.j1 k1 x3_1 x9_1 l0_2 (l0_2.length : Int) x9_1 true a0_0 a0_1 l0_2 ((rd_T77 l0_2 x9_1).f0) ((rd_T77 l0_2 x9_1).f1) ((rd_T77 l0_2 x9_1).f2) ((rd_T77 l0_2 x9_1).f3))) = some r := H
             have A21 := Aside0.mk A210
             clear A210
             by_cases c22 : t163 = true
             ·subst c22
              have H1 : ((impl_inRange.f ((rd_T77 l0_2 x9_1).f3) 0 a0_1).bind fun t164 => (impl_GoodStore.j1 k1 x3_1 x9_1 l0_2 (l0_2.length : Int) x9_1 (!t164) a0_0 a0_1 l0_2 ((rd_T77 l0_2 x9_1).f0) ((rd_T77 l0_2 x9_1).f1) ((rd_T77 l0_2 x9_1).f2) ((rd_T77 l0_2 x9_1).f3))) = some r := by rw [if_pos rfl] at H; exact H
              clear H
              have H := H1
              clear H1
              replace H := Option.bind_eq_some_iff.mp H
              obtain ⟨t164, A230, H⟩ := H
              replace H : (impl_GoodStore.j1 k1 x3_1 x9_1 l0_2 (l0_2.length : Int) x9_1 (!t164) a0_0 a0_1 l0_2 ((rd_T77 l0_2 x9_1).f0) ((rd_T77 l0_2 x9_1).f1) ((rd_T77 l0_2 x9_1).f2) ((rd_T77 l0_2 x9_1).f3)) = some r := H
              have A23 := Aside0.mk A230
              clear A230
              have H' := Aside0.mk H
              clear H
              try go_wp2
              replace BK155 := Aside0.mk (blk_drew BK155.out)
              replace BK159 := Aside0.mk (blk_drew BK159.out)
              replace HB := Aside0.mk (below_drew1 HB.out)
              have p161 : 0 ≤ ((ji15) : Int) := of_decide_eq_true hE
              have q161 : (ji15) < (l0_2.length : Int) := of_decide_eq_true hE
              obtain ⟨ad161, e161, hx161_0, hx161_1, hx161_2, hx161_3⟩ := at_T77 HR0_2.out (ji15) p161 q161
              have hw161_3 := hx161_3
              have hw161_2 := hx161_2
              have hw161_1 := hx161_1
              have hw161_0 := hx161_0
              obtain rfl : ad158 = ad161 := (by injection e161)
              replace hx161_0 := (HB.out.cell (World.block_lt_of_cell? w _ hx161_0)).trans hx161_0
              replace hx161_1 := (HB.out.cell (World.block_lt_of_cell? w _ hx161_1)).trans hx161_1
              replace hx161_2 := (HB.out.cell (World.block_lt_of_cell? w _ hx161_2)).trans hx161_2
              replace hx161_3 := (HB.out.cell (World.block_lt_of_cell? w _ hx161_3)).trans hx161_3
              replace p161 := eq_true p161
              replace q161 := eq_true q161
              refine start_ (n := 40) (S := fun w' => w'.cell? ⟨gb159, 0, none⟩ = some (.string ((rd_T77 l0_2 x9_1).f0)) ∧ w'.cell? ⟨gb159, 1, none⟩ = some (.int .i64 ((rd_T77 l0_2 x9_1).f1)) ∧ w'.cell? ⟨gb159, 2, none⟩ = some (.int .i64 ((rd_T77 l0_2 x9_1).f2)) ∧ w'.cell? ⟨gb159, 3, none⟩ = some (.int .i64 ((rd_T77 l0_2 x9_1).f3)) ∧ w'.cell? ⟨gb155, 0, none⟩ = some (.int .i64 a0_0) ∧ w'.cell? ⟨gb155, 1, none⟩ = some (.int .i64 a0_1) ∧ w'.cell? ⟨gb155, 2, none⟩ = some (.slice (some ad158) l0_2.length c0_2) ∧ w'.cell? (ad158.add (((ji15)).toNat * 4)) = some (.string ((rd_T77 l0_2 (ji15)).f0)) ∧ w'.cell? ⟨(ad158.add (((ji15)).toNat * 4)).block, (ad158.add (((ji15)).toNat * 4)).off + 1, none⟩ = some (.int .i64 ((rd_T77 l0_2 (ji15)).f1)) ∧ w'.cell? ⟨(ad158.add (((ji15)).toNat * 4)).block, (ad158.add (((ji15)).toNat * 4)).off + 2, none⟩ = some (.int .i64 ((rd_T77 l0_2 (ji15)).f2)) ∧ w'.cell? ⟨(ad158.add (((ji15)).toNat * 4)).block, (ad158.add (((ji15)).toNat * 4)).off + 3, none⟩ = some (.int .i64 ((rd_T77 l0_2 (ji15)).f3))) (ds := []) #[false, false, false, false, false, false, false, false, false, false, false, false, false, false, false, false, false, false, false, false, false, false, false, false, false, false, false, false, false, false, false, false, false, false, false, false, false, false, false, false] (by kernel_rfl) rfl rfl ⟨(blk_cell BK159.out 0).trans rfl, (blk_cell BK159.out 1).trans rfl, (blk_cell BK159.out 2).trans rfl, (blk_cell BK159.out 3).trans rfl, (blk_cell BK155.out 0).trans rfl, (blk_cell BK155.out 1).trans rfl, (blk_cell BK155.out 2).trans rfl, ((HB.out.cell (World.block_lt_of_cell? w _ hw161_0)).trans hw161_0), ((HB.out.cell (World.block_lt_of_cell? w _ hw161_1)).trans hw161_1), ((HB.out.cell (World.block_lt_of_cell? w _ hw161_2)).trans hw161_2), ((HB.out.cell (World.block_lt_of_cell? w _ hw161_3)).trans hw161_3)⟩ (fun hHeld => ?_); refine with_tabW impl_GoodStore.tab5 impl_GoodStore.bits5 (fun HT_ HW_ => ?_)
              generalize w11.drew = w24 at BK155 BK159 HB hx161_0 hx161_1 hx161_2 hx161_3 hHeld ⊢
              refine pureA 0 14 (bz 40 1) rfl rfl (any_of HT_.out (by kernel_rfl)) ?_
              refine takeA 1 15 (bz 40 3) rfl rfl (take_ofW HT_.out HW_.out (by kernel_rfl)) hHeld (by rintro w' ⟨s0, s1, s2, s3, s4, s5, s6, s7, s8, s9, s10⟩; go_simp; with_reducible rfl) ?_
              refine one_ (i := 2) (N := some 16) (bz 40 7) rfl rfl (one_of HT_.out (by kernel_rfl)) (by decide) (fun K hK => ?_)
              refine goes_ Try.func34 (by kernel_rfl) rfl #[.string ((rd_T77 l0_2 x9_1).f0)] (by rfl) rfl rfl aE ?_
              with_reducible refine (impl_GoodName.calls k1 ((rd_T77 l0_2 x9_1).f0) true _ A12.out).mono ?_
              rintro e w' ⟨rfl, ⟨nd, rfl⟩⟩
              refine ⟨_, rfl, ?_⟩
              refine hK.out _ _ ⟨(blk_cell BK159.out 0).trans rfl, (blk_cell BK159.out 1).trans rfl, (blk_cell BK159.out 2).trans rfl, (blk_cell BK159.out 3).trans rfl, (blk_cell BK155.out 0).trans rfl, (blk_cell BK155.out 1).trans rfl, (blk_cell BK155.out 2).trans rfl, ((HB.out.cell (World.block_lt_of_cell? w _ hw161_0)).trans hw161_0), ((HB.out.cell (World.block_lt_of_cell? w _ hw161_1)).trans hw161_1), ((HB.out.cell (World.block_lt_of_cell? w _ hw161_2)).trans hw161_2), ((HB.out.cell (World.block_lt_of_cell? w _ hw161_3)).trans hw161_3)⟩ (fun hHeld => ?_)
              clear hK K
              refine norm_ (a' := ?_) ?_ ?_
              rotate_left
              ·show Act.put _ (some 16) _ = _
               simp only [Act.put, List.setIfInBounds_toArray, List.set_cons_zero, List.set_cons_succ, i64_w, i32_w]
               rfl
              refine pureA 3 17 (bz 40 15) rfl rfl (any_of HT_.out (by kernel_rfl)) ?_
              refine pureA 4 18 (bz 40 31) rfl rfl (any_of HT_.out (by kernel_rfl)) ?_
              refine pureA 5 19 (bz 40 63) rfl rfl (any_of HT_.out (by kernel_rfl)) ?_
              refine pureA 6 20 (bz 40 127) rfl rfl (any_of HT_.out (by kernel_rfl)) ?_
              refine pureA 7 21 (bz 40 255) rfl rfl (any_of HT_.out (by kernel_rfl)) ?_
              refine pureA 8 22 (bz 40 511) rfl rfl (any_of HT_.out (by kernel_rfl)) ?_
              refine pureA 10 24 (bz 40 1535) rfl rfl (any_of HT_.out (by kernel_rfl)) ?_
              refine pureA 11 25 (bz 40 3583) rfl rfl (any_of HT_.out (by kernel_rfl)) ?_
              refine pureA 15 29 (bz 40 36351) rfl rfl (any_of HT_.out (by kernel_rfl)) ?_
              refine takeA 9 23 (bz 40 36863) rfl rfl (take_ofW HT_.out HW_.out (by kernel_rfl)) hHeld (by rintro w' ⟨s0, s1, s2, s3, s4, s5, s6, s7, s8, s9, s10⟩; go_simp; with_reducible rfl) ?_
              refine pureA 12 26 (bz 40 40959) rfl rfl (any_of HT_.out (by kernel_rfl)) ?_
              refine pureA 13 27 (bz 40 49151) rfl rfl (any_of HT_.out (by kernel_rfl)) ?_
              refine takeA 14 28 (bz 40 65535) rfl rfl (take_ofW HT_.out HW_.out (by kernel_rfl)) hHeld (by rintro w' ⟨s0, s1, s2, s3, s4, s5, s6, s7, s8, s9, s10⟩; go_simp; with_reducible rfl) ?_
              refine takeA 16 30 (bz 40 131071) rfl rfl (take_ofW HT_.out HW_.out (by kernel_rfl)) hHeld (by rintro w' ⟨s0, s1, s2, s3, s4, s5, s6, s7, s8, s9, s10⟩; go_simp; with_reducible rfl) ?_
              refine pureA 17 31 (bz 40 262143) rfl rfl (any_of HT_.out (by kernel_rfl)) ?_
              refine pureA 18 32 (bz 40 524287) rfl rfl (any_of HT_.out (by kernel_rfl)) ?_
              refine pureA 19 33 (bz 40 1048575) rfl rfl (any_of HT_.out (by kernel_rfl)) ?_
              refine pureA 20 34 (bz 40 2097151) rfl rfl (any_of HT_.out (by kernel_rfl)) ?_
              refine pureA 21 35 (bz 40 4194303) rfl rfl (any_of HT_.out (by kernel_rfl)) ?_
              refine takeA 22 36 (bz 40 8388607) rfl rfl (take_ofW HT_.out HW_.out (by kernel_rfl)) hHeld (by rintro w' ⟨s0, s1, s2, s3, s4, s5, s6, s7, s8, s9, s10⟩; go_simp; with_reducible rfl) ?_
              refine one_ (i := 23) (N := some 37) (bz 40 16777215) rfl rfl (one_of HT_.out (by kernel_rfl)) (by decide) (fun K hK => ?_)
              refine goes_ Try.func47 (by kernel_rfl) rfl #[.int .i64 ((rd_T77 l0_2 x9_1).f1), .int .i64 1, .int .i64 100000] (by rfl) rfl rfl aE ?_
              with_reducible refine (impl_inRange.calls ((rd_T77 l0_2 x9_1).f1) 1 100000 true _ A19.out).mono ?_
              rintro e w' ⟨rfl, ⟨nd, rfl⟩⟩
              refine ⟨_, rfl, ?_⟩
              refine hK.out _ _ ⟨(blk_cell BK159.out 0).trans rfl, (blk_cell BK159.out 1).trans rfl, (blk_cell BK159.out 2).trans rfl, (blk_cell BK159.out 3).trans rfl, (blk_cell BK155.out 0).trans rfl, (blk_cell BK155.out 1).trans rfl, (blk_cell BK155.out 2).trans rfl, ((HB.out.cell (World.block_lt_of_cell? w _ hw161_0)).trans hw161_0), ((HB.out.cell (World.block_lt_of_cell? w _ hw161_1)).trans hw161_1), ((HB.out.cell (World.block_lt_of_cell? w _ hw161_2)).trans hw161_2), ((HB.out.cell (World.block_lt_of_cell? w _ hw161_3)).trans hw161_3)⟩ (fun hHeld => ?_)
              clear hK K
              refine norm_ (a' := ?_) ?_ ?_
              rotate_left
              ·show Act.put _ (some 37) _ = _
               simp only [Act.put, List.setIfInBounds_toArray, List.set_cons_zero, List.set_cons_succ, i64_w, i32_w]
               rfl
              refine pureA 24 38 (bz 40 33554431) rfl rfl (any_of HT_.out (by kernel_rfl)) ?_
              refine pureA 25 39 (bz 40 67108863) rfl rfl (any_of HT_.out (by kernel_rfl)) ?_
              refine pureA 26 40 (bz 40 134217727) rfl rfl (any_of HT_.out (by kernel_rfl)) ?_
              refine pureA 27 41 (bz 40 268435455) rfl rfl (any_of HT_.out (by kernel_rfl)) ?_
              refine takeA 28 42 (bz 40 536870911) rfl rfl (take_ofW HT_.out HW_.out (by kernel_rfl)) hHeld (by rintro w' ⟨s0, s1, s2, s3, s4, s5, s6, s7, s8, s9, s10⟩; go_simp; with_reducible rfl) ?_
              refine one_ (i := 29) (N := some 43) (bz 40 1073741823) rfl rfl (one_of HT_.out (by kernel_rfl)) (by decide) (fun K hK => ?_)
              refine goes_ Try.func47 (by kernel_rfl) rfl #[.int .i64 ((rd_T77 l0_2 x9_1).f2), .int .i64 0, .int .i64 1000] (by rfl) rfl rfl aE ?_
              with_reducible refine (impl_inRange.calls ((rd_T77 l0_2 x9_1).f2) 0 1000 true _ A21.out).mono ?_
              rintro e w' ⟨rfl, ⟨nd, rfl⟩⟩
              refine ⟨_, rfl, ?_⟩
              refine hK.out _ _ ⟨(blk_cell BK159.out 0).trans rfl, (blk_cell BK159.out 1).trans rfl, (blk_cell BK159.out 2).trans rfl, (blk_cell BK159.out 3).trans rfl, (blk_cell BK155.out 0).trans rfl, (blk_cell BK155.out 1).trans rfl, (blk_cell BK155.out 2).trans rfl, ((HB.out.cell (World.block_lt_of_cell? w _ hw161_0)).trans hw161_0), ((HB.out.cell (World.block_lt_of_cell? w _ hw161_1)).trans hw161_1), ((HB.out.cell (World.block_lt_of_cell? w _ hw161_2)).trans hw161_2), ((HB.out.cell (World.block_lt_of_cell? w _ hw161_3)).trans hw161_3)⟩ (fun hHeld => ?_)
              clear hK K
              refine norm_ (a' := ?_) ?_ ?_
              rotate_left
              ·show Act.put _ (some 43) _ = _
               simp only [Act.put, List.setIfInBounds_toArray, List.set_cons_zero, List.set_cons_succ, i64_w, i32_w]
               rfl
              refine pureA 30 44 (bz 40 2147483647) rfl rfl (any_of HT_.out (by kernel_rfl)) ?_
              refine pureA 31 45 (bz 40 4294967295) rfl rfl (any_of HT_.out (by kernel_rfl)) ?_
              refine pureA 32 46 (bz 40 8589934591) rfl rfl (any_of HT_.out (by kernel_rfl)) ?_
              refine pureA 33 47 (bz 40 17179869183) rfl rfl (any_of HT_.out (by kernel_rfl)) ?_
              refine pureA 35 49 (bz 40 51539607551) rfl rfl (any_of HT_.out (by kernel_rfl)) ?_
              refine takeA 34 48 (bz 40 68719476735) rfl rfl (take_ofW HT_.out HW_.out (by kernel_rfl)) hHeld (by rintro w' ⟨s0, s1, s2, s3, s4, s5, s6, s7, s8, s9, s10⟩; go_simp; with_reducible rfl) ?_
              refine takeA 36 50 (bz 40 137438953471) rfl rfl (take_ofW HT_.out HW_.out (by kernel_rfl)) hHeld (by rintro w' ⟨s0, s1, s2, s3, s4, s5, s6, s7, s8, s9, s10⟩; go_simp; with_reducible rfl) ?_
              refine one_ (i := 37) (N := some 51) (bz 40 274877906943) rfl rfl (one_of HT_.out (by kernel_rfl)) (by decide) (fun K hK => ?_)
              refine goes_ Try.func47 (by kernel_rfl) rfl #[.int .i64 ((rd_T77 l0_2 x9_1).f3), .int .i64 0, .int .i64 a0_1] (by rfl) rfl rfl aE ?_
              with_reducible refine (impl_inRange.calls ((rd_T77 l0_2 x9_1).f3) 0 a0_1 t164 _ A23.out).mono ?_
              rintro e w' ⟨rfl, ⟨nd, rfl⟩⟩
              refine ⟨_, rfl, ?_⟩
              refine hK.out _ _ ⟨(blk_cell BK159.out 0).trans rfl, (blk_cell BK159.out 1).trans rfl, (blk_cell BK159.out 2).trans rfl, (blk_cell BK159.out 3).trans rfl, (blk_cell BK155.out 0).trans rfl, (blk_cell BK155.out 1).trans rfl, (blk_cell BK155.out 2).trans rfl, ((HB.out.cell (World.block_lt_of_cell? w _ hw161_0)).trans hw161_0), ((HB.out.cell (World.block_lt_of_cell? w _ hw161_1)).trans hw161_1), ((HB.out.cell (World.block_lt_of_cell? w _ hw161_2)).trans hw161_2), ((HB.out.cell (World.block_lt_of_cell? w _ hw161_3)).trans hw161_3)⟩ (fun hHeld => ?_)
              clear hK K
              refine norm_ (a' := ?_) ?_ ?_
              rotate_left
              ·show Act.put _ (some 51) _ = _
               simp only [Act.put, List.setIfInBounds_toArray, List.set_cons_zero, List.set_cons_succ, i64_w, i32_w]
               rfl
              refine pureA 38 52 (bz 40 549755813887) rfl rfl (any_of HT_.out (by kernel_rfl)) ?_
              refine pureA 39 53 (bz 40 1099511627775) rfl rfl (any_of HT_.out (by kernel_rfl)) ?_
              refine done_ (done_of HT_.out (by kernel_rfl)) ?_
              try go_wp2
              go_meet
              case rel => exact ⟨_, (!t164), tE, H', ⟨by have := HK1.out; first | omega | exact Nat.le_refl _⟩, ⟨by refine bU ?_; exact BK155.out⟩, ⟨by refine bU ?_; exact BK159.out⟩, ⟨by repeat (first | (with_reducible first | exact HB.out | apply below_alloc | apply pw_below_drewN | apply below_drew1 | refine below_set ?_ GE155.out | refine below_set ?_ GE159.out) | exact HB.out)⟩⟩
             ·replace c22 := Bool.eq_false_iff.mpr c22
              subst c22
              have H1 : (impl_GoodStore.j1 k1 x3_1 x9_1 l0_2 (l0_2.length : Int) x9_1 true a0_0 a0_1 l0_2 ((rd_T77 l0_2 x9_1).f0) ((rd_T77 l0_2 x9_1).f1) ((rd_T77 l0_2 x9_1).f2) ((rd_T77 l0_2 x9_1).f3)) = some r := by rw [if_neg (show ¬ (false = true) by decide)] at H; exact H
              clear H
              have H := H1
              clear H1
              have H' := Aside0.mk H
              clear H
              try go_wp2
              replace BK155 := Aside0.mk (blk_drew BK155.out)
              replace BK159 := Aside0.mk (blk_drew BK159.out)
              replace HB := Aside0.mk (below_drew1 HB.out)
              have p161 : 0 ≤ ((ji15) : Int) := of_decide_eq_true hE
              have q161 : (ji15) < (l0_2.length : Int) := of_decide_eq_true hE
              obtain ⟨ad161, e161, hx161_0, hx161_1, hx161_2, hx161_3⟩ := at_T77 HR0_2.out (ji15) p161 q161
              have hw161_3 := hx161_3
              have hw161_2 := hx161_2
              have hw161_1 := hx161_1
              have hw161_0 := hx161_0
              obtain rfl : ad158 = ad161 := (by injection e161)
              replace hx161_0 := (HB.out.cell (World.block_lt_of_cell? w _ hx161_0)).trans hx161_0
              replace hx161_1 := (HB.out.cell (World.block_lt_of_cell? w _ hx161_1)).trans hx161_1
              replace hx161_2 := (HB.out.cell (World.block_lt_of_cell? w _ hx161_2)).trans hx161_2
              replace hx161_3 := (HB.out.cell (World.block_lt_of_cell? w _ hx161_3)).trans hx161_3
              replace p161 := eq_true p161
              replace q161 := eq_true q161
              refine start_ (n := 40) (S := fun w' => w'.cell? ⟨gb159, 0, none⟩ = some (.string ((rd_T77 l0_2 x9_1).f0)) ∧ w'.cell? ⟨gb159, 1, none⟩ = some (.int .i64 ((rd_T77 l0_2 x9_1).f1)) ∧ w'.cell? ⟨gb159, 2, none⟩ = some (.int .i64 ((rd_T77 l0_2 x9_1).f2)) ∧ w'.cell? ⟨gb159, 3, none⟩ = some (.int .i64 ((rd_T77 l0_2 x9_1).f3)) ∧ w'.cell? ⟨gb155, 0, none⟩ = some (.int .i64 a0_0) ∧ w'.cell? ⟨gb155, 1, none⟩ = some (.int .i64 a0_1) ∧ w'.cell? ⟨gb155, 2, none⟩ = some (.slice (some ad158) l0_2.length c0_2) ∧ w'.cell? (ad158.add (((ji15)).toNat * 4)) = some (.string ((rd_T77 l0_2 (ji15)).f0)) ∧ w'.cell? ⟨(ad158.add (((ji15)).toNat * 4)).block, (ad158.add (((ji15)).toNat * 4)).off + 1, none⟩ = some (.int .i64 ((rd_T77 l0_2 (ji15)).f1)) ∧ w'.cell? ⟨(ad158.add (((ji15)).toNat * 4)).block, (ad158.add (((ji15)).toNat * 4)).off + 2, none⟩ = some (.int .i64 ((rd_T77 l0_2 (ji15)).f2)) ∧ w'.cell? ⟨(ad158.add (((ji15)).toNat * 4)).block, (ad158.add (((ji15)).toNat * 4)).off + 3, none⟩ = some (.int .i64 ((rd_T77 l0_2 (ji15)).f3))) (ds := []) #[false, false, false, false, false, false, false, false, false, false, false, false, false, false, false, false, false, false, false, false, false, false, false, false, false, false, false, false, false, false, false, false, false, false, false, false, false, false, false, false] (by kernel_rfl) rfl rfl ⟨(blk_cell BK159.out 0).trans rfl, (blk_cell BK159.out 1).trans rfl, (blk_cell BK159.out 2).trans rfl, (blk_cell BK159.out 3).trans rfl, (blk_cell BK155.out 0).trans rfl, (blk_cell BK155.out 1).trans rfl, (blk_cell BK155.out 2).trans rfl, ((HB.out.cell (World.block_lt_of_cell? w _ hw161_0)).trans hw161_0), ((HB.out.cell (World.block_lt_of_cell? w _ hw161_1)).trans hw161_1), ((HB.out.cell (World.block_lt_of_cell? w _ hw161_2)).trans hw161_2), ((HB.out.cell (World.block_lt_of_cell? w _ hw161_3)).trans hw161_3)⟩ (fun hHeld => ?_); refine with_tabW impl_GoodStore.tab5 impl_GoodStore.bits5 (fun HT_ HW_ => ?_)
              generalize w11.drew = w25 at BK155 BK159 HB hx161_0 hx161_1 hx161_2 hx161_3 hHeld ⊢
              refine pureA 0 14 (bz 40 1) rfl rfl (any_of HT_.out (by kernel_rfl)) ?_
              refine takeA 1 15 (bz 40 3) rfl rfl (take_ofW HT_.out HW_.out (by kernel_rfl)) hHeld (by rintro w' ⟨s0, s1, s2, s3, s4, s5, s6, s7, s8, s9, s10⟩; go_simp; with_reducible rfl) ?_
              refine one_ (i := 2) (N := some 16) (bz 40 7) rfl rfl (one_of HT_.out (by kernel_rfl)) (by decide) (fun K hK => ?_)
              refine goes_ Try.func34 (by kernel_rfl) rfl #[.string ((rd_T77 l0_2 x9_1).f0)] (by rfl) rfl rfl aE ?_
              with_reducible refine (impl_GoodName.calls k1 ((rd_T77 l0_2 x9_1).f0) true _ A12.out).mono ?_
              rintro e w' ⟨rfl, ⟨nd, rfl⟩⟩
              refine ⟨_, rfl, ?_⟩
              refine hK.out _ _ ⟨(blk_cell BK159.out 0).trans rfl, (blk_cell BK159.out 1).trans rfl, (blk_cell BK159.out 2).trans rfl, (blk_cell BK159.out 3).trans rfl, (blk_cell BK155.out 0).trans rfl, (blk_cell BK155.out 1).trans rfl, (blk_cell BK155.out 2).trans rfl, ((HB.out.cell (World.block_lt_of_cell? w _ hw161_0)).trans hw161_0), ((HB.out.cell (World.block_lt_of_cell? w _ hw161_1)).trans hw161_1), ((HB.out.cell (World.block_lt_of_cell? w _ hw161_2)).trans hw161_2), ((HB.out.cell (World.block_lt_of_cell? w _ hw161_3)).trans hw161_3)⟩ (fun hHeld => ?_)
              clear hK K
              refine norm_ (a' := ?_) ?_ ?_
              rotate_left
              ·show Act.put _ (some 16) _ = _
               simp only [Act.put, List.setIfInBounds_toArray, List.set_cons_zero, List.set_cons_succ, i64_w, i32_w]
               rfl
              refine pureA 3 17 (bz 40 15) rfl rfl (any_of HT_.out (by kernel_rfl)) ?_
              refine pureA 4 18 (bz 40 31) rfl rfl (any_of HT_.out (by kernel_rfl)) ?_
              refine pureA 5 19 (bz 40 63) rfl rfl (any_of HT_.out (by kernel_rfl)) ?_
              refine pureA 6 20 (bz 40 127) rfl rfl (any_of HT_.out (by kernel_rfl)) ?_
              refine pureA 7 21 (bz 40 255) rfl rfl (any_of HT_.out (by kernel_rfl)) ?_
              refine pureA 8 22 (bz 40 511) rfl rfl (any_of HT_.out (by kernel_rfl)) ?_
              refine pureA 10 24 (bz 40 1535) rfl rfl (any_of HT_.out (by kernel_rfl)) ?_
              refine pureA 11 25 (bz 40 3583) rfl rfl (any_of HT_.out (by kernel_rfl)) ?_
              refine pureA 15 29 (bz 40 36351) rfl rfl (any_of HT_.out (by kernel_rfl)) ?_
              refine takeA 9 23 (bz 40 36863) rfl rfl (take_ofW HT_.out HW_.out (by kernel_rfl)) hHeld (by rintro w' ⟨s0, s1, s2, s3, s4, s5, s6, s7, s8, s9, s10⟩; go_simp; with_reducible rfl) ?_
              refine pureA 12 26 (bz 40 40959) rfl rfl (any_of HT_.out (by kernel_rfl)) ?_
              refine pureA 13 27 (bz 40 49151) rfl rfl (any_of HT_.out (by kernel_rfl)) ?_
              refine takeA 14 28 (bz 40 65535) rfl rfl (take_ofW HT_.out HW_.out (by kernel_rfl)) hHeld (by rintro w' ⟨s0, s1, s2, s3, s4, s5, s6, s7, s8, s9, s10⟩; go_simp; with_reducible rfl) ?_
              refine takeA 16 30 (bz 40 131071) rfl rfl (take_ofW HT_.out HW_.out (by kernel_rfl)) hHeld (by rintro w' ⟨s0, s1, s2, s3, s4, s5, s6, s7, s8, s9, s10⟩; go_simp; with_reducible rfl) ?_
              refine pureA 17 31 (bz 40 262143) rfl rfl (any_of HT_.out (by kernel_rfl)) ?_
              refine pureA 18 32 (bz 40 524287) rfl rfl (any_of HT_.out (by kernel_rfl)) ?_
              refine pureA 19 33 (bz 40 1048575) rfl rfl (any_of HT_.out (by kernel_rfl)) ?_
              refine pureA 20 34 (bz 40 2097151) rfl rfl (any_of HT_.out (by kernel_rfl)) ?_
              refine pureA 21 35 (bz 40 4194303) rfl rfl (any_of HT_.out (by kernel_rfl)) ?_
              refine takeA 22 36 (bz 40 8388607) rfl rfl (take_ofW HT_.out HW_.out (by kernel_rfl)) hHeld (by rintro w' ⟨s0, s1, s2, s3, s4, s5, s6, s7, s8, s9, s10⟩; go_simp; with_reducible rfl) ?_
              refine one_ (i := 23) (N := some 37) (bz 40 16777215) rfl rfl (one_of HT_.out (by kernel_rfl)) (by decide) (fun K hK => ?_)
              refine goes_ Try.func47 (by kernel_rfl) rfl #[.int .i64 ((rd_T77 l0_2 x9_1).f1), .int .i64 1, .int .i64 100000] (by rfl) rfl rfl aE ?_
              with_reducible refine (impl_inRange.calls ((rd_T77 l0_2 x9_1).f1) 1 100000 true _ A19.out).mono ?_
              rintro e w' ⟨rfl, ⟨nd, rfl⟩⟩
              refine ⟨_, rfl, ?_⟩
              refine hK.out _ _ ⟨(blk_cell BK159.out 0).trans rfl, (blk_cell BK159.out 1).trans rfl, (blk_cell BK159.out 2).trans rfl, (blk_cell BK159.out 3).trans rfl, (blk_cell BK155.out 0).trans rfl, (blk_cell BK155.out 1).trans rfl, (blk_cell BK155.out 2).trans rfl, ((HB.out.cell (World.block_lt_of_cell? w _ hw161_0)).trans hw161_0), ((HB.out.cell (World.block_lt_of_cell? w _ hw161_1)).trans hw161_1), ((HB.out.cell (World.block_lt_of_cell? w _ hw161_2)).trans hw161_2), ((HB.out.cell (World.block_lt_of_cell? w _ hw161_3)).trans hw161_3)⟩ (fun hHeld => ?_)
              clear hK K
              refine norm_ (a' := ?_) ?_ ?_
              rotate_left
              ·show Act.put _ (some 37) _ = _
               simp only [Act.put, List.setIfInBounds_toArray, List.set_cons_zero, List.set_cons_succ, i64_w, i32_w]
               rfl
              refine pureA 24 38 (bz 40 33554431) rfl rfl (any_of HT_.out (by kernel_rfl)) ?_
              refine pureA 25 39 (bz 40 67108863) rfl rfl (any_of HT_.out (by kernel_rfl)) ?_
              refine pureA 26 40 (bz 40 134217727) rfl rfl (any_of HT_.out (by kernel_rfl)) ?_
              refine pureA 27 41 (bz 40 268435455) rfl rfl (any_of HT_.out (by kernel_rfl)) ?_
              refine takeA 28 42 (bz 40 536870911) rfl rfl (take_ofW HT_.out HW_.out (by kernel_rfl)) hHeld (by rintro w' ⟨s0, s1, s2, s3, s4, s5, s6, s7, s8, s9, s10⟩; go_simp; with_reducible rfl) ?_
              refine one_ (i := 29) (N := some 43) (bz 40 1073741823) rfl rfl (one_of HT_.out (by kernel_rfl)) (by decide) (fun K hK => ?_)
              refine goes_ Try.func47 (by kernel_rfl) rfl #[.int .i64 ((rd_T77 l0_2 x9_1).f2), .int .i64 0, .int .i64 1000] (by rfl) rfl rfl aE ?_
              with_reducible refine (impl_inRange.calls ((rd_T77 l0_2 x9_1).f2) 0 1000 false _ A21.out).mono ?_
              rintro e w' ⟨rfl, ⟨nd, rfl⟩⟩
              refine ⟨_, rfl, ?_⟩
              refine hK.out _ _ ⟨(blk_cell BK159.out 0).trans rfl, (blk_cell BK159.out 1).trans rfl, (blk_cell BK159.out 2).trans rfl, (blk_cell BK159.out 3).trans rfl, (blk_cell BK155.out 0).trans rfl, (blk_cell BK155.out 1).trans rfl, (blk_cell BK155.out 2).trans rfl, ((HB.out.cell (World.block_lt_of_cell? w _ hw161_0)).trans hw161_0), ((HB.out.cell (World.block_lt_of_cell? w _ hw161_1)).trans hw161_1), ((HB.out.cell (World.block_lt_of_cell? w _ hw161_2)).trans hw161_2), ((HB.out.cell (World.block_lt_of_cell? w _ hw161_3)).trans hw161_3)⟩ (fun hHeld => ?_)
              clear hK K
              refine norm_ (a' := ?_) ?_ ?_
              rotate_left
              ·show Act.put _ (some 43) _ = _
               simp only [Act.put, List.setIfInBounds_toArray, List.set_cons_zero, List.set_cons_succ, i64_w, i32_w]
               rfl
              refine pureA 30 44 (bz 40 2147483647) rfl rfl (any_of HT_.out (by kernel_rfl)) ?_
              refine pureA 31 45 (bz 40 4294967295) rfl rfl (any_of HT_.out (by kernel_rfl)) ?_
              refine pureA 32 46 (bz 40 8589934591) rfl rfl (any_of HT_.out (by kernel_rfl)) ?_
              refine pureU 33 47 (bz 40 17179869183) rfl rfl (any_of HT_.out (by kernel_rfl)) ?_
              refine pureU 34 48 (bz 40 34359738367) rfl rfl (any_of HT_.out (by kernel_rfl)) ?_
              refine pureU 35 49 (bz 40 68719476735) rfl rfl (any_of HT_.out (by kernel_rfl)) ?_
              refine pureU 36 50 (bz 40 137438953471) rfl rfl (any_of HT_.out (by kernel_rfl)) ?_
              refine pureU 37 51 (bz 40 274877906943) rfl rfl (any_of HT_.out (by kernel_rfl)) ?_
              refine pureU 38 52 (bz 40 549755813887) rfl rfl (any_of HT_.out (by kernel_rfl)) ?_
              refine pureA 39 53 (bz 40 1099511627775) rfl rfl (any_of HT_.out (by kernel_rfl)) ?_
              refine done_ (done_of HT_.out (by kernel_rfl)) ?_
              try go_wp2
              go_meet
              case rel => exact ⟨_, (true), tE, H', ⟨by have := HK1.out; first | omega | exact Nat.le_refl _⟩, ⟨by refine bU ?_; exact BK155.out⟩, ⟨by refine bU ?_; exact BK159.out⟩, ⟨by repeat (first | (with_reducible first | exact HB.out | apply below_alloc | apply pw_below_drewN | apply below_drew1 | refine below_set ?_ GE155.out | refine below_set ?_ GE159.out) | exact HB.out)⟩⟩
            ·replace c20 := Bool.eq_false_iff.mpr c20
             subst c20
             have H1 : (impl_GoodStore.j1 k1 x3_1 x9_1 l0_2 (l0_2.length : Int) x9_1 true a0_0 a0_1 l0_2 ((rd_T77 l0_2 x9_1).f0) ((rd_T77 l0_2 x9_1).f1) ((rd_T77 l0_2 x9_1).f2) ((rd_T77 l0_2 x9_1).f3)) = some r := by rw [if_neg (show ¬ (false = true) by decide)] at H; exact H
             clear H
             have H := H1
             clear H1
             have H' := Aside0.mk H
             clear H
             try go_wp2
             replace BK155 := Aside0.mk (blk_drew BK155.out)
             replace BK159 := Aside0.mk (blk_drew BK159.out)
             replace HB := Aside0.mk (below_drew1 HB.out)
             have p161 : 0 ≤ ((ji15) : Int) := of_decide_eq_true hE
             have q161 : (ji15) < (l0_2.length : Int) := of_decide_eq_true hE
             obtain ⟨ad161, e161, hx161_0, hx161_1, hx161_2, hx161_3⟩ := at_T77 HR0_2.out (ji15) p161 q161
             have hw161_3 := hx161_3
             have hw161_2 := hx161_2
             have hw161_1 := hx161_1
             have hw161_0 := hx161_0
             obtain rfl : ad158 = ad161 := (by injection e161)
             replace hx161_0 := (HB.out.cell (World.block_lt_of_cell? w _ hx161_0)).trans hx161_0
             replace hx161_1 := (HB.out.cell (World.block_lt_of_cell? w _ hx161_1)).trans hx161_1
             replace hx161_2 := (HB.out.cell (World.block_lt_of_cell? w _ hx161_2)).trans hx161_2
             replace hx161_3 := (HB.out.cell (World.block_lt_of_cell? w _ hx161_3)).trans hx161_3
             replace p161 := eq_true p161
             replace q161 := eq_true q161
             refine start_ (n := 40) (S := fun w' => w'.cell? ⟨gb159, 0, none⟩ = some (.string ((rd_T77 l0_2 x9_1).f0)) ∧ w'.cell? ⟨gb159, 1, none⟩ = some (.int .i64 ((rd_T77 l0_2 x9_1).f1)) ∧ w'.cell? ⟨gb159, 2, none⟩ = some (.int .i64 ((rd_T77 l0_2 x9_1).f2)) ∧ w'.cell? ⟨gb159, 3, none⟩ = some (.int .i64 ((rd_T77 l0_2 x9_1).f3)) ∧ w'.cell? ⟨gb155, 0, none⟩ = some (.int .i64 a0_0) ∧ w'.cell? ⟨gb155, 1, none⟩ = some (.int .i64 a0_1) ∧ w'.cell? ⟨gb155, 2, none⟩ = some (.slice (some ad158) l0_2.length c0_2) ∧ w'.cell? (ad158.add (((ji15)).toNat * 4)) = some (.string ((rd_T77 l0_2 (ji15)).f0)) ∧ w'.cell? ⟨(ad158.add (((ji15)).toNat * 4)).block, (ad158.add (((ji15)).toNat * 4)).off + 1, none⟩ = some (.int .i64 ((rd_T77 l0_2 (ji15)).f1)) ∧ w'.cell? ⟨(ad158.add (((ji15)).toNat * 4)).block, (ad158.add (((ji15)).toNat * 4)).off + 2, none⟩ = some (.int .i64 ((rd_T77 l0_2 (ji15)).f2)) ∧ w'.cell? ⟨(ad158.add (((ji15)).toNat * 4)).block, (ad158.add (((ji15)).toNat * 4)).off + 3, none⟩ = some (.int .i64 ((rd_T77 l0_2 (ji15)).f3))) (ds := []) #[false, false, false, false, false, false, false, false, false, false, false, false, false, false, false, false, false, false, false, false, false, false, false, false, false, false, false, false, false, false, false, false, false, false, false, false, false, false, false, false] (by kernel_rfl) rfl rfl ⟨(blk_cell BK159.out 0).trans rfl, (blk_cell BK159.out 1).trans rfl, (blk_cell BK159.out 2).trans rfl, (blk_cell BK159.out 3).trans rfl, (blk_cell BK155.out 0).trans rfl, (blk_cell BK155.out 1).trans rfl, (blk_cell BK155.out 2).trans rfl, ((HB.out.cell (World.block_lt_of_cell? w _ hw161_0)).trans hw161_0), ((HB.out.cell (World.block_lt_of_cell? w _ hw161_1)).trans hw161_1), ((HB.out.cell (World.block_lt_of_cell? w _ hw161_2)).trans hw161_2), ((HB.out.cell (World.block_lt_of_cell? w _ hw161_3)).trans hw161_3)⟩ (fun hHeld => ?_); refine with_tabW impl_GoodStore.tab5 impl_GoodStore.bits5 (fun HT_ HW_ => ?_)
             generalize w11.drew = w26 at BK155 BK159 HB hx161_0 hx161_1 hx161_2 hx161_3 hHeld ⊢
             refine pureA 0 14 (bz 40 1) rfl rfl (any_of HT_.out (by kernel_rfl)) ?_
             refine takeA 1 15 (bz 40 3) rfl rfl (take_ofW HT_.out HW_.out (by kernel_rfl)) hHeld (by rintro w' ⟨s0, s1, s2, s3, s4, s5, s6, s7, s8, s9, s10⟩; go_simp; with_reducible rfl) ?_
             refine one_ (i := 2) (N := some 16) (bz 40 7) rfl rfl (one_of HT_.out (by kernel_rfl)) (by decide) (fun K hK => ?_)
             refine goes_ Try.func34 (by kernel_rfl) rfl #[.string ((rd_T77 l0_2 x9_1).f0)] (by rfl) rfl rfl aE ?_
             with_reducible refine (impl_GoodName.calls k1 ((rd_T77 l0_2 x9_1).f0) true _ A12.out).mono ?_
             rintro e w' ⟨rfl, ⟨nd, rfl⟩⟩
             refine ⟨_, rfl, ?_⟩
             refine hK.out _ _ ⟨(blk_cell BK159.out 0).trans rfl, (blk_cell BK159.out 1).trans rfl, (blk_cell BK159.out 2).trans rfl, (blk_cell BK159.out 3).trans rfl, (blk_cell BK155.out 0).trans rfl, (blk_cell BK155.out 1).trans rfl, (blk_cell BK155.out 2).trans rfl, ((HB.out.cell (World.block_lt_of_cell? w _ hw161_0)).trans hw161_0), ((HB.out.cell (World.block_lt_of_cell? w _ hw161_1)).trans hw161_1), ((HB.out.cell (World.block_lt_of_cell? w _ hw161_2)).trans hw161_2), ((HB.out.cell (World.block_lt_of_cell? w _ hw161_3)).trans hw161_3)⟩ (fun hHeld => ?_)
             clear hK K
             refine norm_ (a' := ?_) ?_ ?_
             rotate_left
             ·show Act.put _ (some 16) _ = _
              simp only [Act.put, List.setIfInBounds_toArray, List.set_cons_zero, List.set_cons_succ, i64_w, i32_w]
              rfl
             refine pureA 3 17 (bz 40 15) rfl rfl (any_of HT_.out (by kernel_rfl)) ?_
             refine pureA 4 18 (bz 40 31) rfl rfl (any_of HT_.out (by kernel_rfl)) ?_
             refine pureA 5 19 (bz 40 63) rfl rfl (any_of HT_.out (by kernel_rfl)) ?_
             refine pureA 6 20 (bz 40 127) rfl rfl (any_of HT_.out (by kernel_rfl)) ?_
             refine pureA 7 21 (bz 40 255) rfl rfl (any_of HT_.out (by kernel_rfl)) ?_
             refine pureA 8 22 (bz 40 511) rfl rfl (any_of HT_.out (by kernel_rfl)) ?_
             refine pureA 10 24 (bz 40 1535) rfl rfl (any_of HT_.out (by kernel_rfl)) ?_
             refine pureA 11 25 (bz 40 3583) rfl rfl (any_of HT_.out (by kernel_rfl)) ?_
             refine pureA 15 29 (bz 40 36351) rfl rfl (any_of HT_.out (by kernel_rfl)) ?_
             refine takeA 9 23 (bz 40 36863) rfl rfl (take_ofW HT_.out HW_.out (by kernel_rfl)) hHeld (by rintro w' ⟨s0, s1, s2, s3, s4, s5, s6, s7, s8, s9, s10⟩; go_simp; with_reducible rfl) ?_
             refine pureA 12 26 (bz 40 40959) rfl rfl (any_of HT_.out (by kernel_rfl)) ?_
             refine pureA 13 27 (bz 40 49151) rfl rfl (any_of HT_.out (by kernel_rfl)) ?_
             refine takeA 14 28 (bz 40 65535) rfl rfl (take_ofW HT_.out HW_.out (by kernel_rfl)) hHeld (by rintro w' ⟨s0, s1, s2, s3, s4, s5, s6, s7, s8, s9, s10⟩; go_simp; with_reducible rfl) ?_
             refine takeA 16 30 (bz 40 131071) rfl rfl (take_ofW HT_.out HW_.out (by kernel_rfl)) hHeld (by rintro w' ⟨s0, s1, s2, s3, s4, s5, s6, s7, s8, s9, s10⟩; go_simp; with_reducible rfl) ?_
             refine pureA 17 31 (bz 40 262143) rfl rfl (any_of HT_.out (by kernel_rfl)) ?_
             refine pureA 18 32 (bz 40 524287) rfl rfl (any_of HT_.out (by kernel_rfl)) ?_
             refine pureA 19 33 (bz 40 1048575) rfl rfl (any_of HT_.out (by kernel_rfl)) ?_
             refine pureA 20 34 (bz 40 2097151) rfl rfl (any_of HT_.out (by kernel_rfl)) ?_
             refine pureA 21 35 (bz 40 4194303) rfl rfl (any_of HT_.out (by kernel_rfl)) ?_
             refine takeA 22 36 (bz 40 8388607) rfl rfl (take_ofW HT_.out HW_.out (by kernel_rfl)) hHeld (by rintro w' ⟨s0, s1, s2, s3, s4, s5, s6, s7, s8, s9, s10⟩; go_simp; with_reducible rfl) ?_
             refine one_ (i := 23) (N := some 37) (bz 40 16777215) rfl rfl (one_of HT_.out (by kernel_rfl)) (by decide) (fun K hK => ?_)
             refine goes_ Try.func47 (by kernel_rfl) rfl #[.int .i64 ((rd_T77 l0_2 x9_1).f1), .int .i64 1, .int .i64 100000] (by rfl) rfl rfl aE ?_
             with_reducible refine (impl_inRange.calls ((rd_T77 l0_2 x9_1).f1) 1 100000 false _ A19.out).mono ?_
             rintro e w' ⟨rfl, ⟨nd, rfl⟩⟩
             refine ⟨_, rfl, ?_⟩
             refine hK.out _ _ ⟨(blk_cell BK159.out 0).trans rfl, (blk_cell BK159.out 1).trans rfl, (blk_cell BK159.out 2).trans rfl, (blk_cell BK159.out 3).trans rfl, (blk_cell BK155.out 0).trans rfl, (blk_cell BK155.out 1).trans rfl, (blk_cell BK155.out 2).trans rfl, ((HB.out.cell (World.block_lt_of_cell? w _ hw161_0)).trans hw161_0), ((HB.out.cell (World.block_lt_of_cell? w _ hw161_1)).trans hw161_1), ((HB.out.cell (World.block_lt_of_cell? w _ hw161_2)).trans hw161_2), ((HB.out.cell (World.block_lt_of_cell? w _ hw161_3)).trans hw161_3)⟩ (fun hHeld => ?_)
             clear hK K
             refine norm_ (a' := ?_) ?_ ?_
             rotate_left
             ·show Act.put _ (some 37) _ = _
              simp only [Act.put, List.setIfInBounds_toArray, List.set_cons_zero, List.set_cons_succ, i64_w, i32_w]
              rfl
             refine pureA 24 38 (bz 40 33554431) rfl rfl (any_of HT_.out (by kernel_rfl)) ?_
             refine pureA 25 39 (bz 40 67108863) rfl rfl (any_of HT_.out (by kernel_rfl)) ?_
             refine pureA 26 40 (bz 40 134217727) rfl rfl (any_of HT_.out (by kernel_rfl)) ?_
             refine pureU 27 41 (bz 40 268435455) rfl rfl (any_of HT_.out (by kernel_rfl)) ?_
             refine pureU 28 42 (bz 40 536870911) rfl rfl (any_of HT_.out (by kernel_rfl)) ?_
             refine pureU 29 43 (bz 40 1073741823) rfl rfl (any_of HT_.out (by kernel_rfl)) ?_
             refine pureU 30 44 (bz 40 2147483647) rfl rfl (any_of HT_.out (by kernel_rfl)) ?_
             refine pureA 31 45 (bz 40 4294967295) rfl rfl (any_of HT_.out (by kernel_rfl)) ?_
             refine pureA 32 46 (bz 40 8589934591) rfl rfl (any_of HT_.out (by kernel_rfl)) ?_
             refine pureU 33 47 (bz 40 17179869183) rfl rfl (any_of HT_.out (by kernel_rfl)) ?_
             refine pureU 34 48 (bz 40 34359738367) rfl rfl (any_of HT_.out (by kernel_rfl)) ?_
             refine pureU 35 49 (bz 40 68719476735) rfl rfl (any_of HT_.out (by kernel_rfl)) ?_
             refine pureU 36 50 (bz 40 137438953471) rfl rfl (any_of HT_.out (by kernel_rfl)) ?_
             refine pureU 37 51 (bz 40 274877906943) rfl rfl (any_of HT_.out (by kernel_rfl)) ?_
             refine pureU 38 52 (bz 40 549755813887) rfl rfl (any_of HT_.out (by kernel_rfl)) ?_
             refine pureA 39 53 (bz 40 1099511627775) rfl rfl (any_of HT_.out (by kernel_rfl)) ?_
             refine done_ (done_of HT_.out (by kernel_rfl)) ?_
             try go_wp2
             go_meet
             case rel => exact ⟨_, (true), tE, H', ⟨by have := HK1.out; first | omega | exact Nat.le_refl _⟩, ⟨by refine bU ?_; exact BK155.out⟩, ⟨by refine bU ?_; exact BK159.out⟩, ⟨by repeat (first | (with_reducible first | exact HB.out | apply below_alloc | apply pw_below_drewN | apply below_drew1 | refine below_set ?_ GE155.out | refine below_set ?_ GE159.out) | exact HB.out)⟩⟩
           ·rw [if_neg c18] at H
            have c18b0 : (Op.bytesLess (((rd_T77 l0_2 (ji15)).f0).toList) (((rd_T77 l0_2 x9_1).f0).toList)) = false := by simpa using c18
            clear c18
            have H' := Aside0.mk H
            clear H
            try go_wp2
            replace BK155 := Aside0.mk (blk_drew BK155.out)
            replace BK159 := Aside0.mk (blk_drew BK159.out)
            replace HB := Aside0.mk (below_drew1 HB.out)
            have p161 : 0 ≤ ((ji15) : Int) := of_decide_eq_true hE
            have q161 : (ji15) < (l0_2.length : Int) := of_decide_eq_true hE
            obtain ⟨ad161, e161, hx161_0, hx161_1, hx161_2, hx161_3⟩ := at_T77 HR0_2.out (ji15) p161 q161
            have hw161_3 := hx161_3
            have hw161_2 := hx161_2
            have hw161_1 := hx161_1
            have hw161_0 := hx161_0
            obtain rfl : ad158 = ad161 := (by injection e161)
            replace hx161_0 := (HB.out.cell (World.block_lt_of_cell? w _ hx161_0)).trans hx161_0
            replace hx161_1 := (HB.out.cell (World.block_lt_of_cell? w _ hx161_1)).trans hx161_1
            replace hx161_2 := (HB.out.cell (World.block_lt_of_cell? w _ hx161_2)).trans hx161_2
            replace hx161_3 := (HB.out.cell (World.block_lt_of_cell? w _ hx161_3)).trans hx161_3
            replace p161 := eq_true p161
            replace q161 := eq_true q161
            refine start_ (n := 40) (S := fun w' => w'.cell? ⟨gb159, 0, none⟩ = some (.string ((rd_T77 l0_2 x9_1).f0)) ∧ w'.cell? ⟨gb159, 1, none⟩ = some (.int .i64 ((rd_T77 l0_2 x9_1).f1)) ∧ w'.cell? ⟨gb159, 2, none⟩ = some (.int .i64 ((rd_T77 l0_2 x9_1).f2)) ∧ w'.cell? ⟨gb159, 3, none⟩ = some (.int .i64 ((rd_T77 l0_2 x9_1).f3)) ∧ w'.cell? ⟨gb155, 0, none⟩ = some (.int .i64 a0_0) ∧ w'.cell? ⟨gb155, 1, none⟩ = some (.int .i64 a0_1) ∧ w'.cell? ⟨gb155, 2, none⟩ = some (.slice (some ad158) l0_2.length c0_2) ∧ w'.cell? (ad158.add (((ji15)).toNat * 4)) = some (.string ((rd_T77 l0_2 (ji15)).f0)) ∧ w'.cell? ⟨(ad158.add (((ji15)).toNat * 4)).block, (ad158.add (((ji15)).toNat * 4)).off + 1, none⟩ = some (.int .i64 ((rd_T77 l0_2 (ji15)).f1)) ∧ w'.cell? ⟨(ad158.add (((ji15)).toNat * 4)).block, (ad158.add (((ji15)).toNat * 4)).off + 2, none⟩ = some (.int .i64 ((rd_T77 l0_2 (ji15)).f2)) ∧ w'.cell? ⟨(ad158.add (((ji15)).toNat * 4)).block, (ad158.add (((ji15)).toNat * 4)).off + 3, none⟩ = some (.int .i64 ((rd_T77 l0_2 (ji15)).f3))) (ds := []) #[false, false, false, false, false, false, false, false, false, false, false, false, false, false, false, false, false, false, false, false, false, false, false, false, false, false, false, false, false, false, false, false, false, false, false, false, false, false, false, false] (by kernel_rfl) rfl rfl ⟨(blk_cell BK159.out 0).trans rfl, (blk_cell BK159.out 1).trans rfl, (blk_cell BK159.out 2).trans rfl, (blk_cell BK159.out 3).trans rfl, (blk_cell BK155.out 0).trans rfl, (blk_cell BK155.out 1).trans rfl, (blk_cell BK155.out 2).trans rfl, ((HB.out.cell (World.block_lt_of_cell? w _ hw161_0)).trans hw161_0), ((HB.out.cell (World.block_lt_of_cell? w _ hw161_1)).trans hw161_1), ((HB.out.cell (World.block_lt_of_cell? w _ hw161_2)).trans hw161_2), ((HB.out.cell (World.block_lt_of_cell? w _ hw161_3)).trans hw161_3)⟩ (fun hHeld => ?_); refine with_tabW impl_GoodStore.tab5 impl_GoodStore.bits5 (fun HT_ HW_ => ?_)
            generalize w11.drew = w27 at BK155 BK159 HB hx161_0 hx161_1 hx161_2 hx161_3 hHeld ⊢
            refine pureA 0 14 (bz 40 1) rfl rfl (any_of HT_.out (by kernel_rfl)) ?_
            refine takeA 1 15 (bz 40 3) rfl rfl (take_ofW HT_.out HW_.out (by kernel_rfl)) hHeld (by rintro w' ⟨s0, s1, s2, s3, s4, s5, s6, s7, s8, s9, s10⟩; go_simp; with_reducible rfl) ?_
            refine one_ (i := 2) (N := some 16) (bz 40 7) rfl rfl (one_of HT_.out (by kernel_rfl)) (by decide) (fun K hK => ?_)
            refine goes_ Try.func34 (by kernel_rfl) rfl #[.string ((rd_T77 l0_2 x9_1).f0)] (by rfl) rfl rfl aE ?_
            with_reducible refine (impl_GoodName.calls k1 ((rd_T77 l0_2 x9_1).f0) true _ A12.out).mono ?_
            rintro e w' ⟨rfl, ⟨nd, rfl⟩⟩
            refine ⟨_, rfl, ?_⟩
            refine hK.out _ _ ⟨(blk_cell BK159.out 0).trans rfl, (blk_cell BK159.out 1).trans rfl, (blk_cell BK159.out 2).trans rfl, (blk_cell BK159.out 3).trans rfl, (blk_cell BK155.out 0).trans rfl, (blk_cell BK155.out 1).trans rfl, (blk_cell BK155.out 2).trans rfl, ((HB.out.cell (World.block_lt_of_cell? w _ hw161_0)).trans hw161_0), ((HB.out.cell (World.block_lt_of_cell? w _ hw161_1)).trans hw161_1), ((HB.out.cell (World.block_lt_of_cell? w _ hw161_2)).trans hw161_2), ((HB.out.cell (World.block_lt_of_cell? w _ hw161_3)).trans hw161_3)⟩ (fun hHeld => ?_)
            clear hK K
            refine norm_ (a' := ?_) ?_ ?_
            rotate_left
            ·show Act.put _ (some 16) _ = _
             simp only [Act.put, List.setIfInBounds_toArray, List.set_cons_zero, List.set_cons_succ, i64_w, i32_w]
             rfl
            refine pureA 3 17 (bz 40 15) rfl rfl (any_of HT_.out (by kernel_rfl)) ?_
            refine pureA 4 18 (bz 40 31) rfl rfl (any_of HT_.out (by kernel_rfl)) ?_
            refine pureA 5 19 (bz 40 63) rfl rfl (any_of HT_.out (by kernel_rfl)) ?_
            refine pureA 6 20 (bz 40 127) rfl rfl (any_of HT_.out (by kernel_rfl)) ?_
            refine pureA 7 21 (bz 40 255) rfl rfl (any_of HT_.out (by kernel_rfl)) ?_
            refine pureA 8 22 (bz 40 511) rfl rfl (any_of HT_.out (by kernel_rfl)) ?_
            refine pureA 10 24 (bz 40 1535) rfl rfl (any_of HT_.out (by kernel_rfl)) ?_
            refine pureA 11 25 (bz 40 3583) rfl rfl (any_of HT_.out (by kernel_rfl)) ?_
            refine pureA 15 29 (bz 40 36351) rfl rfl (any_of HT_.out (by kernel_rfl)) ?_
            refine takeA 9 23 (bz 40 36863) rfl rfl (take_ofW HT_.out HW_.out (by kernel_rfl)) hHeld (by rintro w' ⟨s0, s1, s2, s3, s4, s5, s6, s7, s8, s9, s10⟩; go_simp; with_reducible rfl) ?_
            refine pureA 12 26 (bz 40 40959) rfl rfl (any_of HT_.out (by kernel_rfl)) ?_
            refine pureA 13 27 (bz 40 49151) rfl rfl (any_of HT_.out (by kernel_rfl)) ?_
            refine takeA 14 28 (bz 40 65535) rfl rfl (take_ofW HT_.out HW_.out (by kernel_rfl)) hHeld (by rintro w' ⟨s0, s1, s2, s3, s4, s5, s6, s7, s8, s9, s10⟩; go_simp; with_reducible rfl) ?_
            refine takeA 16 30 (bz 40 131071) rfl rfl (take_ofW HT_.out HW_.out (by kernel_rfl)) hHeld (by rintro w' ⟨s0, s1, s2, s3, s4, s5, s6, s7, s8, s9, s10⟩; go_simp; with_reducible rfl) ?_
            refine pureA 17 31 (bz 40 262143) rfl rfl (any_of HT_.out (by kernel_rfl)) ?_
            refine pureA 18 32 (bz 40 524287) rfl rfl (any_of HT_.out (by kernel_rfl)) ?_
            refine pureA 19 33 (bz 40 1048575) rfl rfl (any_of HT_.out (by kernel_rfl)) ?_
            refine pureA 20 34 (bz 40 2097151) rfl rfl (any_of HT_.out (by kernel_rfl)) ?_
            refine pureU 21 35 (bz 40 4194303) rfl rfl (any_of HT_.out (by kernel_rfl)) ?_
            refine pureU 22 36 (bz 40 8388607) rfl rfl (any_of HT_.out (by kernel_rfl)) ?_
            refine pureU 23 37 (bz 40 16777215) rfl rfl (any_of HT_.out (by kernel_rfl)) ?_
            refine pureU 24 38 (bz 40 33554431) rfl rfl (any_of HT_.out (by kernel_rfl)) ?_
            refine pureA 25 39 (bz 40 67108863) rfl rfl (any_of HT_.out (by kernel_rfl)) ?_
            refine pureA 26 40 (bz 40 134217727) rfl rfl (any_of HT_.out (by kernel_rfl)) ?_
            refine pureU 27 41 (bz 40 268435455) rfl rfl (any_of HT_.out (by kernel_rfl)) ?_
            refine pureU 28 42 (bz 40 536870911) rfl rfl (any_of HT_.out (by kernel_rfl)) ?_
            refine pureU 29 43 (bz 40 1073741823) rfl rfl (any_of HT_.out (by kernel_rfl)) ?_
            refine pureU 30 44 (bz 40 2147483647) rfl rfl (any_of HT_.out (by kernel_rfl)) ?_
            refine pureA 31 45 (bz 40 4294967295) rfl rfl (any_of HT_.out (by kernel_rfl)) ?_
            refine pureA 32 46 (bz 40 8589934591) rfl rfl (any_of HT_.out (by kernel_rfl)) ?_
            refine pureU 33 47 (bz 40 17179869183) rfl rfl (any_of HT_.out (by kernel_rfl)) ?_
            refine pureU 34 48 (bz 40 34359738367) rfl rfl (any_of HT_.out (by kernel_rfl)) ?_
            refine pureU 35 49 (bz 40 68719476735) rfl rfl (any_of HT_.out (by kernel_rfl)) ?_
            refine pureU 36 50 (bz 40 137438953471) rfl rfl (any_of HT_.out (by kernel_rfl)) ?_
            refine pureU 37 51 (bz 40 274877906943) rfl rfl (any_of HT_.out (by kernel_rfl)) ?_
            refine pureU 38 52 (bz 40 549755813887) rfl rfl (any_of HT_.out (by kernel_rfl)) ?_
            refine pureA 39 53 (bz 40 1099511627775) rfl rfl (any_of HT_.out (by kernel_rfl)) ?_
            refine done_ (done_of HT_.out (by kernel_rfl)) ?_
            try go_wp2
            go_meet
            case rel => exact ⟨_, (true), tE, H', ⟨by have := HK1.out; first | omega | exact Nat.le_refl _⟩, ⟨by refine bU ?_; exact BK155.out⟩, ⟨by refine bU ?_; exact BK159.out⟩, ⟨by repeat (first | (with_reducible first | exact HB.out | apply below_alloc | apply pw_below_drewN | apply below_drew1 | refine below_set ?_ GE155.out | refine below_set ?_ GE159.out) | exact HB.out)⟩⟩
          ·rw [if_neg c17] at H
           exact absurd H (by simp)
         ·rw [if_neg c16] at H
          exact absurd H (by simp)
        ·rw [if_neg c14] at H
         have c14b0 : decide (0 < x9_1) = false := decide_eq_false c14
         clear c14
         (first | rw [c14b0] | (simp only [i64_w, i32_w]; rw [c14b0]) | (rw [c14b2]; simp only [Bool.not_false, Bool.not_true]) | skip)
         replace H := Option.bind_eq_some_iff.mp H
         obtain ⟨t165, A280, H⟩ := H
         replace H : (if t165 = true then ((impl_inRange.f ((rd_T77 l0_2 x9_1).f2) 0 1000).bind fun t166 => (if t166 = true then ((impl_inRange.f ((rd_T77 l0_2 x9_1).f3) 0 a0_1).bind fun t167 => (impl_GoodStore.j1 k1 x3_1 x9_1 l0_2 (l0_2.length : Int) x9_1 (!t167) a0_0 a0_1 l0_2 ((rd_T77 l0_2 x9_1).f0) ((rd_T77 l0_2 x9_1).f1) ((rd_T77 l0_2 x9_1).f2) ((rd_T77 l0_2 x9_1).f3))) else (impl_GoodStore.j1 k1 x3_1 x9_1 l0_2 (l0_2.length : Int) x9_1 true a0_0 a0_1 l0_2 ((rd_T77 l0_2 x9_1).f0) ((rd_T77 l0_2 x9_1).f1) ((rd_T77 l0_2 x9_1).f2) ((rd_T77 l0_2 x9_1).f3)))) else (impl_GoodStore.j1 k1 x3_1 x9_1 l0_2 (l0_2.length : Int) x9_1 true a0_0 a0_1 l0_2 ((rd_T77 l0_2 x9_1).f0) ((rd_T77 l0_2 x9_1).f1) ((rd_T77 l0_2 x9_1).f2) ((rd_T77 l0_2 x9_1).f3))) = some r := H
         have A28 := Aside0.mk A280
         clear A280
         by_cases c29 : t165 = true
         ·subst c29
          have H1 : ((impl_inRange.f ((rd_T77 l0_2 x9_1).f2) 0 1000).bind fun t166 => (if t166 = true then ((impl_inRange.f ((rd_T77 l0_2 x9_1).f3) 0 a0_1).bind fun t167 => (impl_GoodStore.j1 k1 x3_1 x9_1 l0_2 (l0_2.length : Int) x9_1 (!t167) a0_0 a0_1 l0_2 ((rd_T77 l0_2 x9_1).f0) ((rd_T77 l0_2 x9_1).f1) ((rd_T77 l0_2 x9_1).f2) ((rd_T77 l0_2 x9_1).f3))) else (impl_GoodStore.j1 k1 x3_1 x9_1 l0_2 (l0_2.length : Int) x9_1 true a0_0 a0_1 l0_2 ((rd_T77 l0_2 x9_1).f0) ((rd_T77 l0_2 x9_1).f1) ((rd_T77 l0_2 x9_1).f2) ((rd_T77 l0_2 x9_1).f3)))) = some r := by rw [if_pos rfl] at H; exact H
          clear H
          have H := H1
          clear H1
          replace H := Option.bind_eq_some_iff.mp H
          obtain ⟨t166, A300, H⟩ := H
          replace H : (if t166 = true then ((impl_inRange.f ((rd_T77 l0_2 x9_1).f3) 0 a0_1).bind fun t167 => (impl_GoodStore.j1 k1 x3_1 x9_1 l0_2 (l0_2.length : Int) x9_1 (!t167) a0_0 a0_1 l0_2 ((rd_T77 l0_2 x9_1).f0) ((rd_T77 l0_2 x9_1).f1) ((rd_T77 l0_2 x9_1).f2) ((rd_T77 l0_2 x9_1).f3))) else (impl_GoodStore.j1 k1 x3_1 x9_1 l0_2 (l0_2.length : Int) x9_1 true a0_0 a0_1 l0_2 ((rd_T77 l0_2 x9_1).f0) ((rd_T77 l0_2 x9_1).f1) ((rd_T77 l0_2 x9_1).f2) ((rd_T77 l0_2 x9_1).f3))) = some r := H
          have A30 := Aside0.mk A300
          clear A300
          by_cases c31 : t166 = true
          ·subst c31
           have H1 : ((impl_inRange.f ((rd_T77 l0_2 x9_1).f3) 0 a0_1).bind fun t167 => (impl_GoodStore.j1 k1 x3_1 x9_1 l0_2 (l0_2.length : Int) x9_1 (!t167) a0_0 a0_1 l0_2 ((rd_T77 l0_2 x9_1).f0) ((rd_T77 l0_2 x9_1).f1) ((rd_T77 l0_2 x9_1).f2) ((rd_T77 l0_2 x9_1).f3))) = some r := by rw [if_pos rfl] at H; exact H
           clear H
           have H := H1
           clear H1
           replace H := Option.bind_eq_some_iff.mp H
           obtain ⟨t167, A320, H⟩ := H
           replace H : (impl_GoodStore.j1 k1 x3_1 x9_1 l0_2 (l0_2.length : Int) x9_1 (!t167) a0_0 a0_1 l0_2 ((rd_T77 l0_2 x9_1).f0) ((rd_T77 l0_2 x9_1).f1) ((rd_T77 l0_2 x9_1).f2) ((rd_T77 l0_2 x9_1).f3)) = some r := H
           have A32 := Aside0.mk A320
           clear A320
           have H' := Aside0.mk H
           clear H
           try go_wp2
           replace BK155 := Aside0.mk (blk_drew BK155.out)
           replace BK159 := Aside0.mk (blk_drew BK159.out)
           replace HB := Aside0.mk (below_drew1 HB.out)
           refine start_ (n := 40) (S := fun w' => w'.cell? ⟨gb159, 0, none⟩ = some (.string ((rd_T77 l0_2 x9_1).f0)) ∧ w'.cell? ⟨gb159, 1, none⟩ = some (.int .i64 ((rd_T77 l0_2 x9_1).f1)) ∧ w'.cell? ⟨gb159, 2, none⟩ = some (.int .i64 ((rd_T77 l0_2 x9_1).f2)) ∧ w'.cell? ⟨gb159, 3, none⟩ = some (.int .i64 ((rd_T77 l0_2 x9_1).f3)) ∧ w'.cell? ⟨gb155, 0, none⟩ = some (.int .i64 a0_0) ∧ w'.cell? ⟨gb155, 1, none⟩ = some (.int .i64 a0_1) ∧ w'.cell? ⟨gb155, 2, none⟩ = some (.slice (some ad158) l0_2.length c0_2)) (ds := []) #[false, false, false, false, false, false, false, false, false, false, false, false, false, false, false, false, false, false, false, false, false, false, false, false, false, false, false, false, false, false, false, false, false, false, false, false, false, false, false, false] (by kernel_rfl) rfl rfl ⟨(blk_cell BK159.out 0).trans rfl, (blk_cell BK159.out 1).trans rfl, (blk_cell BK159.out 2).trans rfl, (blk_cell BK159.out 3).trans rfl, (blk_cell BK155.out 0).trans rfl, (blk_cell BK155.out 1).trans rfl, (blk_cell BK155.out 2).trans rfl⟩ (fun hHeld => ?_); refine with_tabW impl_GoodStore.tab5 impl_GoodStore.bits5 (fun HT_ HW_ => ?_)
           generalize w11.drew = w33 at BK155 BK159 HB hHeld ⊢
           refine pureA 0 14 (bz 40 1) rfl rfl (any_of HT_.out (by kernel_rfl)) ?_
           refine takeA 1 15 (bz 40 3) rfl rfl (take_ofW HT_.out HW_.out (by kernel_rfl)) hHeld (by rintro w' ⟨s0, s1, s2, s3, s4, s5, s6⟩; go_simp; with_reducible rfl) ?_
           refine one_ (i := 2) (N := some 16) (bz 40 7) rfl rfl (one_of HT_.out (by kernel_rfl)) (by decide) (fun K hK => ?_)
           refine goes_ Try.func34 (by kernel_rfl) rfl #[.string ((rd_T77 l0_2 x9_1).f0)] (by rfl) rfl rfl aE ?_
           with_reducible refine (impl_GoodName.calls k1 ((rd_T77 l0_2 x9_1).f0) true _ A12.out).mono ?_
           rintro e w' ⟨rfl, ⟨nd, rfl⟩⟩
           refine ⟨_, rfl, ?_⟩
           refine hK.out _ _ ⟨(blk_cell BK159.out 0).trans rfl, (blk_cell BK159.out 1).trans rfl, (blk_cell BK159.out 2).trans rfl, (blk_cell BK159.out 3).trans rfl, (blk_cell BK155.out 0).trans rfl, (blk_cell BK155.out 1).trans rfl, (blk_cell BK155.out 2).trans rfl⟩ (fun hHeld => ?_)
           clear hK K
           refine norm_ (a' := ?_) ?_ ?_
           rotate_left
           ·show Act.put _ (some 16) _ = _
            simp only [Act.put, List.setIfInBounds_toArray, List.set_cons_zero, List.set_cons_succ, i64_w, i32_w]
            rfl
           refine pureA 3 17 (bz 40 15) rfl rfl (any_of HT_.out (by kernel_rfl)) ?_
           refine pureA 4 18 (bz 40 31) rfl rfl (any_of HT_.out (by kernel_rfl)) ?_
           refine pureA 5 19 (bz 40 63) rfl rfl (any_of HT_.out (by kernel_rfl)) ?_
           refine pureA 6 20 (bz 40 127) rfl rfl (any_of HT_.out (by kernel_rfl)) ?_
           refine pureA 7 21 (bz 40 255) rfl rfl (any_of HT_.out (by kernel_rfl)) ?_
           refine pureU 8 22 (bz 40 511) rfl rfl (any_of HT_.out (by kernel_rfl)) ?_
           refine pureU 9 23 (bz 40 1023) rfl rfl (any_of HT_.out (by kernel_rfl)) ?_
           refine pureU 10 24 (bz 40 2047) rfl rfl (any_of HT_.out (by kernel_rfl)) ?_
           refine pureU 11 25 (bz 40 4095) rfl rfl (any_of HT_.out (by kernel_rfl)) ?_
           refine pureU 12 26 (bz 40 8191) rfl rfl (any_of HT_.out (by kernel_rfl)) ?_
           refine pureU 13 27 (bz 40 16383) rfl rfl (any_of HT_.out (by kernel_rfl)) ?_
           refine pureU 14 28 (bz 40 32767) rfl rfl (any_of HT_.out (by kernel_rfl)) ?_
           refine pureU 15 29 (bz 40 65535) rfl rfl (any_of HT_.out (by kernel_rfl)) ?_
           refine pureU 16 30 (bz 40 131071) rfl rfl (any_of HT_.out (by kernel_rfl)) ?_
           refine pureU 17 31 (bz 40 262143) rfl rfl (any_of HT_.out (by kernel_rfl)) ?_
           refine pureA 18 32 (bz 40 524287) rfl rfl (any_of HT_.out (by kernel_rfl)) ?_
           refine pureA 19 33 (bz 40 1048575) rfl rfl (any_of HT_.out (by kernel_rfl)) ?_
           refine pureA 20 34 (bz 40 2097151) rfl rfl (any_of HT_.out (by kernel_rfl)) ?_
           refine pureA 21 35 (bz 40 4194303) rfl rfl (any_of HT_.out (by kernel_rfl)) ?_
           refine takeA 22 36 (bz 40 8388607) rfl rfl (take_ofW HT_.out HW_.out (by kernel_rfl)) hHeld (by rintro w' ⟨s0, s1, s2, s3, s4, s5, s6⟩; go_simp; with_reducible rfl) ?_
           refine one_ (i := 23) (N := some 37) (bz 40 16777215) rfl rfl (one_of HT_.out (by kernel_rfl)) (by decide) (fun K hK => ?_)
           refine goes_ Try.func47 (by kernel_rfl) rfl #[.int .i64 ((rd_T77 l0_2 x9_1).f1), .int .i64 1, .int .i64 100000] (by rfl) rfl rfl aE ?_
           with_reducible refine (impl_inRange.calls ((rd_T77 l0_2 x9_1).f1) 1 100000 true _ A28.out).mono ?_
           rintro e w' ⟨rfl, ⟨nd, rfl⟩⟩
           refine ⟨_, rfl, ?_⟩
           refine hK.out _ _ ⟨(blk_cell BK159.out 0).trans rfl, (blk_cell BK159.out 1).trans rfl, (blk_cell BK159.out 2).trans rfl, (blk_cell BK159.out 3).trans rfl, (blk_cell BK155.out 0).trans rfl, (blk_cell BK155.out 1).trans rfl, (blk_cell BK155.out 2).trans rfl⟩ (fun hHeld => ?_)
           clear hK K
           refine norm_ (a' := ?_) ?_ ?_
           rotate_left
           ·show Act.put _ (some 37) _ = _
            simp only [Act.put, List.setIfInBounds_toArray, List.set_cons_zero, List.set_cons_succ, i64_w, i32_w]
            rfl
           refine pureA 24 38 (bz 40 33554431) rfl rfl (any_of HT_.out (by kernel_rfl)) ?_
           refine pureA 25 39 (bz 40 67108863) rfl rfl (any_of HT_.out (by kernel_rfl)) ?_
           refine pureA 26 40 (bz 40 134217727) rfl rfl (any_of HT_.out (by kernel_rfl)) ?_
           refine pureA 27 41 (bz 40 268435455) rfl rfl (any_of HT_.out (by kernel_rfl)) ?_
           refine takeA 28 42 (bz 40 536870911) rfl rfl (take_ofW HT_.out HW_.out (by kernel_rfl)) hHeld (by rintro w' ⟨s0, s1, s2, s3, s4, s5, s6⟩; go_simp; with_reducible rfl) ?_
           refine one_ (i := 29) (N := some 43) (bz 40 1073741823) rfl rfl (one_of HT_.out (by kernel_rfl)) (by decide) (fun K hK => ?_)
           refine goes_ Try.func47 (by kernel_rfl) rfl #[.int .i64 ((rd_T77 l0_2 x9_1).f2), .int .i64 0, .int .i64 1000] (by rfl) rfl rfl aE ?_
           with_reducible refine (impl_inRange.calls ((rd_T77 l0_2 x9_1).f2) 0 1000 true _ A30.out).mono ?_
           rintro e w' ⟨rfl, ⟨nd, rfl⟩⟩
           refine ⟨_, rfl, ?_⟩
           refine hK.out _ _ ⟨(blk_cell BK159.out 0).trans rfl, (blk_cell BK159.out 1).trans rfl, (blk_cell BK159.out 2).trans rfl, (blk_cell BK159.out 3).trans rfl, (blk_cell BK155.out 0).trans rfl, (blk_cell BK155.out 1).trans rfl, (blk_cell BK155.out 2).trans rfl⟩ (fun hHeld => ?_)
           clear hK K
           refine norm_ (a' := ?_) ?_ ?_
           rotate_left
           ·show Act.put _ (some 43) _ = _
            simp only [Act.put, List.setIfInBounds_toArray, List.set_cons_zero, List.set_cons_succ, i64_w, i32_w]
            rfl
           refine pureA 30 44 (bz 40 2147483647) rfl rfl (any_of HT_.out (by kernel_rfl)) ?_
           refine pureA 31 45 (bz 40 4294967295) rfl rfl (any_of HT_.out (by kernel_rfl)) ?_
           refine pureA 32 46 (bz 40 8589934591) rfl rfl (any_of HT_.out (by kernel_rfl)) ?_
           refine pureA 33 47 (bz 40 17179869183) rfl rfl (any_of HT_.out (by kernel_rfl)) ?_
           refine pureA 35 49 (bz 40 51539607551) rfl rfl (any_of HT_.out (by kernel_rfl)) ?_
           refine takeA 34 48 (bz 40 68719476735) rfl rfl (take_ofW HT_.out HW_.out (by kernel_rfl)) hHeld (by rintro w' ⟨s0, s1, s2, s3, s4, s5, s6⟩; go_simp; with_reducible rfl) ?_
           refine takeA 36 50 (bz 40 137438953471) rfl rfl (take_ofW HT_.out HW_.out (by kernel_rfl)) hHeld (by rintro w' ⟨s0, s1, s2, s3, s4, s5, s6⟩; go_simp; with_reducible rfl) ?_
           refine one_ (i := 37) (N := some 51) (bz 40 274877906943) rfl rfl (one_of HT_.out (by kernel_rfl)) (by decide) (fun K hK => ?_)
           refine goes_ Try.func47 (by kernel_rfl) rfl #[.int .i64 ((rd_T77 l0_2 x9_1).f3), .int .i64 0, .int .i64 a0_1] (by rfl) rfl rfl aE ?_
           with_reducible refine (impl_inRange.calls ((rd_T77 l0_2 x9_1).f3) 0 a0_1 t167 _ A32.out).mono ?_
           rintro e w' ⟨rfl, ⟨nd, rfl⟩⟩
           refine ⟨_, rfl, ?_⟩
           refine hK.out _ _ ⟨(blk_cell BK159.out 0).trans rfl, (blk_cell BK159.out 1).trans rfl, (blk_cell BK159.out 2).trans rfl, (blk_cell BK159.out 3).trans rfl, (blk_cell BK155.out 0).trans rfl, (blk_cell BK155.out 1).trans rfl, (blk_cell BK155.out 2).trans rfl⟩ (fun hHeld => ?_)
           clear hK K
           refine norm_ (a' := ?_) ?_ ?_
           rotate_left
           ·show Act.put _ (some 51) _ = _
            simp only [Act.put, List.setIfInBounds_toArray, List.set_cons_zero, List.set_cons_succ, i64_w, i32_w]
            rfl
           refine pureA 38 52 (bz 40 549755813887) rfl rfl (any_of HT_.out (by kernel_rfl)) ?_
           refine pureA 39 53 (bz 40 1099511627775) rfl rfl (any_of HT_.out (by kernel_rfl)) ?_
           refine done_ (done_of HT_.out (by kernel_rfl)) ?_
           try go_wp2
           go_meet
           case rel => exact ⟨_, (!t167), tE, H', ⟨by have := HK1.out; first | omega | exact Nat.le_refl _⟩, ⟨by refine bU ?_; exact BK155.out⟩, ⟨by refine bU ?_; exact BK159.out⟩, ⟨by repeat (first | (with_reducible first | exact HB.out | apply below_alloc | apply pw_below_drewN | apply below_drew1 | refine below_set ?_ GE155.out | refine below_set ?_ GE159.out) | exact HB.out)⟩⟩
          ·replace c31 := Bool.eq_false_iff.mpr c31
           subst c31
           have H1 : (impl_GoodStore.j1 k1 x3_1 x9_1 l0_2 (l0_2.length : Int) x9_1 true a0_0 a0_1 l0_2 ((rd_T77 l0_2 x9_1).f0) ((rd_T77 l0_2 x9_1).f1) ((rd_T77 l0_2 x9_1).f2) ((rd_T77 l0_2 x9_1).f3)) = some r := by rw [if_neg (show ¬ (false = true) by decide)] at H; exact H
           clear H
           have H := H1
           clear H1
           have H' := Aside0.mk H
           clear H
           try go_wp2
           replace BK155 := Aside0.mk (blk_drew BK155.out)
           replace BK159 := Aside0.mk (blk_drew BK159.out)
           replace HB := Aside0.mk (below_drew1 HB.out)
           refine start_ (n := 40) (S := fun w' => w'.cell? ⟨gb159, 0, none⟩ = some (.string ((rd_T77 l0_2 x9_1).f0)) ∧ w'.cell? ⟨gb159, 1, none⟩ = some (.int .i64 ((rd_T77 l0_2 x9_1).f1)) ∧ w'.cell? ⟨gb159, 2, none⟩ = some (.int .i64 ((rd_T77 l0_2 x9_1).f2)) ∧ w'.cell? ⟨gb159, 3, none⟩ = some (.int .i64 ((rd_T77 l0_2 x9_1).f3))) (ds := []) #[false, false, false, false, false, false, false, false, false, false, false, false, false, false, false, false, false, false, false, false, false, false, false, false, false, false, false, false, false, false, false, false, false, false, false, false, false, false, false, false] (by kernel_rfl) rfl rfl ⟨(blk_cell BK159.out 0).trans rfl, (blk_cell BK159.out 1).trans rfl, (blk_cell BK159.out 2).trans rfl, (blk_cell BK159.out 3).trans rfl⟩ (fun hHeld => ?_); refine with_tabW impl_GoodStore.tab5 impl_GoodStore.bits5 (fun HT_ HW_ => ?_)
           generalize w11.drew = w34 at BK155 BK159 HB hHeld ⊢
           refine pureA 0 14 (bz 40 1) rfl rfl (any_of HT_.out (by kernel_rfl)) ?_
           refine takeA 1 15 (bz 40 3) rfl rfl (take_ofW HT_.out HW_.out (by kernel_rfl)) hHeld (by rintro w' ⟨s0, s1, s2, s3⟩; go_simp; with_reducible rfl) ?_
           refine one_ (i := 2) (N := some 16) (bz 40 7) rfl rfl (one_of HT_.out (by kernel_rfl)) (by decide) (fun K hK => ?_)
           refine goes_ Try.func34 (by kernel_rfl) rfl #[.string ((rd_T77 l0_2 x9_1).f0)] (by rfl) rfl rfl aE ?_
           with_reducible refine (impl_GoodName.calls k1 ((rd_T77 l0_2 x9_1).f0) true _ A12.out).mono ?_
           rintro e w' ⟨rfl, ⟨nd, rfl⟩⟩
           refine ⟨_, rfl, ?_⟩
           refine hK.out _ _ ⟨(blk_cell BK159.out 0).trans rfl, (blk_cell BK159.out 1).trans rfl, (blk_cell BK159.out 2).trans rfl, (blk_cell BK159.out 3).trans rfl⟩ (fun hHeld => ?_)
           clear hK K
           refine norm_ (a' := ?_) ?_ ?_
           rotate_left
           ·show Act.put _ (some 16) _ = _
            simp only [Act.put, List.setIfInBounds_toArray, List.set_cons_zero, List.set_cons_succ, i64_w, i32_w]
            rfl
           refine pureA 3 17 (bz 40 15) rfl rfl (any_of HT_.out (by kernel_rfl)) ?_
           refine pureA 4 18 (bz 40 31) rfl rfl (any_of HT_.out (by kernel_rfl)) ?_
           refine pureA 5 19 (bz 40 63) rfl rfl (any_of HT_.out (by kernel_rfl)) ?_
           refine pureA 6 20 (bz 40 127) rfl rfl (any_of HT_.out (by kernel_rfl)) ?_
           refine pureA 7 21 (bz 40 255) rfl rfl (any_of HT_.out (by kernel_rfl)) ?_
           refine pureU 8 22 (bz 40 511) rfl rfl (any_of HT_.out (by kernel_rfl)) ?_
           refine pureU 9 23 (bz 40 1023) rfl rfl (any_of HT_.out (by kernel_rfl)) ?_
           refine pureU 10 24 (bz 40 2047) rfl rfl (any_of HT_.out (by kernel_rfl)) ?_
           refine pureU 11 25 (bz 40 4095) rfl rfl (any_of HT_.out (by kernel_rfl)) ?_
           refine pureU 12 26 (bz 40 8191) rfl rfl (any_of HT_.out (by kernel_rfl)) ?_
           refine pureU 13 27 (bz 40 16383) rfl rfl (any_of HT_.out (by kernel_rfl)) ?_
           refine pureU 14 28 (bz 40 32767) rfl rfl (any_of HT_.out (by kernel_rfl)) ?_
           refine pureU 15 29 (bz 40 65535) rfl rfl (any_of HT_.out (by kernel_rfl)) ?_
           refine pureU 16 30 (bz 40 131071) rfl rfl (any_of HT_.out (by kernel_rfl)) ?_
           refine pureU 17 31 (bz 40 262143) rfl rfl (any_of HT_.out (by kernel_rfl)) ?_
           refine pureA 18 32 (bz 40 524287) rfl rfl (any_of HT_.out (by kernel_rfl)) ?_
           refine pureA 19 33 (bz 40 1048575) rfl rfl (any_of HT_.out (by kernel_rfl)) ?_
           refine pureA 20 34 (bz 40 2097151) rfl rfl (any_of HT_.out (by kernel_rfl)) ?_
           refine pureA 21 35 (bz 40 4194303) rfl rfl (any_of HT_.out (by kernel_rfl)) ?_
           refine takeA 22 36 (bz 40 8388607) rfl rfl (take_ofW HT_.out HW_.out (by kernel_rfl)) hHeld (by rintro w' ⟨s0, s1, s2, s3⟩; go_simp; with_reducible rfl) ?_
           refine one_ (i := 23) (N := some 37) (bz 40 16777215) rfl rfl (one_of HT_.out (by kernel_rfl)) (by decide) (fun K hK => ?_)
           refine goes_ Try.func47 (by kernel_rfl) rfl #[.int .i64 ((rd_T77 l0_2 x9_1).f1), .int .i64 1, .int .i64 100000] (by rfl) rfl rfl aE ?_
           with_reducible refine (impl_inRange.calls ((rd_T77 l0_2 x9_1).f1) 1 100000 true _ A28.out).mono ?_
           rintro e w' ⟨rfl, ⟨nd, rfl⟩⟩
           refine ⟨_, rfl, ?_⟩
           refine hK.out _ _ ⟨(blk_cell BK159.out 0).trans rfl, (blk_cell BK159.out 1).trans rfl, (blk_cell BK159.out 2).trans rfl, (blk_cell BK159.out 3).trans rfl⟩ (fun hHeld => ?_)
           clear hK K
           refine norm_ (a' := ?_) ?_ ?_
           rotate_left
           ·show Act.put _ (some 37) _ = _
            simp only [Act.put, List.setIfInBounds_toArray, List.set_cons_zero, List.set_cons_succ, i64_w, i32_w]
            rfl
           refine pureA 24 38 (bz 40 33554431) rfl rfl (any_of HT_.out (by kernel_rfl)) ?_
           refine pureA 25 39 (bz 40 67108863) rfl rfl (any_of HT_.out (by kernel_rfl)) ?_
           refine pureA 26 40 (bz 40 134217727) rfl rfl (any_of HT_.out (by kernel_rfl)) ?_
           refine pureA 27 41 (bz 40 268435455) rfl rfl (any_of HT_.out (by kernel_rfl)) ?_
           refine takeA 28 42 (bz 40 536870911) rfl rfl (take_ofW HT_.out HW_.out (by kernel_rfl)) hHeld (by rintro w' ⟨s0, s1, s2, s3⟩; go_simp; with_reducible rfl) ?_
           refine one_ (i := 29) (N := some 43) (bz 40 1073741823) rfl rfl (one_of HT_.out (by kernel_rfl)) (by decide) (fun K hK => ?_)
           refine goes_ Try.func47 (by kernel_rfl) rfl #[.int .i64 ((rd_T77 l0_2 x9_1).f2), .int .i64 0, .int .i64 1000] (by rfl) rfl rfl aE ?_
           with_reducible refine (impl_inRange.calls ((rd_T77 l0_2 x9_1).f2) 0 1000 false _ A30.out).mono ?_
           rintro e w' ⟨rfl, ⟨nd, rfl⟩⟩
           refine ⟨_, rfl, ?_⟩
           refine hK.out _ _ ⟨(blk_cell BK159.out 0).trans rfl, (blk_cell BK159.out 1).trans rfl, (blk_cell BK159.out 2).trans rfl, (blk_cell BK159.out 3).trans rfl⟩ (fun hHeld => ?_)
           clear hK K
           refine norm_ (a' := ?_) ?_ ?_
           rotate_left
           ·show Act.put _ (some 43) _ = _
            simp only [Act.put, List.setIfInBounds_toArray, List.set_cons_zero, List.set_cons_succ, i64_w, i32_w]
            rfl
           refine pureA 30 44 (bz 40 2147483647) rfl rfl (any_of HT_.out (by kernel_rfl)) ?_
           refine pureA 31 45 (bz 40 4294967295) rfl rfl (any_of HT_.out (by kernel_rfl)) ?_
           refine pureA 32 46 (bz 40 8589934591) rfl rfl (any_of HT_.out (by kernel_rfl)) ?_
           refine pureU 33 47 (bz 40 17179869183) rfl rfl (any_of HT_.out (by kernel_rfl)) ?_
           refine pureU 34 48 (bz 40 34359738367) rfl rfl (any_of HT_.out (by kernel_rfl)) ?_
           refine pureU 35 49 (bz 40 68719476735) rfl rfl (any_of HT_.out (by kernel_rfl)) ?_
           refine pureU 36 50 (bz 40 137438953471) rfl rfl (any_of HT_.out (by kernel_rfl)) ?_
           refine pureU 37 51 (bz 40 274877906943) rfl rfl (any_of HT_.out (by kernel_rfl)) ?_
           refine pureU 38 52 (bz 40 549755813887) rfl rfl (any_of HT_.out (by kernel_rfl)) ?_
           refine pureA 39 53 (bz 40 1099511627775) rfl rfl (any_of HT_.out (by kernel_rfl)) ?_
           refine done_ (done_of HT_.out (by kernel_rfl)) ?_
           try go_wp2
           go_meet
           case rel => exact ⟨_, (true), tE, H', ⟨by have := HK1.out; first | omega | exact Nat.le_refl _⟩, ⟨by refine bU ?_; exact BK155.out⟩, ⟨by refine bU ?_; exact BK159.out⟩, ⟨by repeat (first | (with_reducible first | exact HB.out | apply below_alloc | apply pw_below_drewN | apply below_drew1 | refine below_set ?_ GE155.out | refine below_set ?_ GE159.out) | exact HB.out)⟩⟩
         ·replace c29 := Bool.eq_false_iff.mpr c29
          subst c29
          have H1 : (impl_GoodStore.j1 k1 x3_1 x9_1 l0_2 (l0_2.length : Int) x9_1 true a0_0 a0_1 l0_2 ((rd_T77 l0_2 x9_1).f0) ((rd_T77 l0_2 x9_1).f1) ((rd_T77 l0_2 x9_1).f2) ((rd_T77 l0_2 x9_1).f3)) = some r := by rw [if_neg (show ¬ (false = true) by decide)] at H; exact H
          clear H
          have H := H1
          clear H1
          have H' := Aside0.mk H
          clear H
          try go_wp2
          replace BK155 := Aside0.mk (blk_drew BK155.out)
          replace BK159 := Aside0.mk (blk_drew BK159.out)
          replace HB := Aside0.mk (below_drew1 HB.out)
          refine start_ (n := 40) (S := fun w' => w'.cell? ⟨gb159, 0, none⟩ = some (.string ((rd_T77 l0_2 x9_1).f0)) ∧ w'.cell? ⟨gb159, 1, none⟩ = some (.int .i64 ((rd_T77 l0_2 x9_1).f1)) ∧ w'.cell? ⟨gb159, 2, none⟩ = some (.int .i64 ((rd_T77 l0_2 x9_1).f2)) ∧ w'.cell? ⟨gb159, 3, none⟩ = some (.int .i64 ((rd_T77 l0_2 x9_1).f3))) (ds := []) #[false, false, false, false, false, false, false, false, false, false, false, false, false, false, false, false, false, false, false, false, false, false, false, false, false, false, false, false, false, false, false, false, false, false, false, false, false, false, false, false] (by kernel_rfl) rfl rfl ⟨(blk_cell BK159.out 0).trans rfl, (blk_cell BK159.out 1).trans rfl, (blk_cell BK159.out 2).trans rfl, (blk_cell BK159.out 3).trans rfl⟩ (fun hHeld => ?_); refine with_tabW impl_GoodStore.tab5 impl_GoodStore.bits5 (fun HT_ HW_ => ?_)
          generalize w11.drew = w35 at BK155 BK159 HB hHeld ⊢
          refine pureA 0 14 (bz 40 1) rfl rfl (any_of HT_.out (by kernel_rfl)) ?_
          refine takeA 1 15 (bz 40 3) rfl rfl (take_ofW HT_.out HW_.out (by kernel_rfl)) hHeld (by rintro w' ⟨s0, s1, s2, s3⟩; go_simp; with_reducible rfl) ?_
          refine one_ (i := 2) (N := some 16) (bz 40 7) rfl rfl (one_of HT_.out (by kernel_rfl)) (by decide) (fun K hK => ?_)
          refine goes_ Try.func34 (by kernel_rfl) rfl #[.string ((rd_T77 l0_2 x9_1).f0)] (by rfl) rfl rfl aE ?_
          with_reducible refine (impl_GoodName.calls k1 ((rd_T77 l0_2 x9_1).f0) true _ A12.out).mono ?_
          rintro e w' ⟨rfl, ⟨nd, rfl⟩⟩
          refine ⟨_, rfl, ?_⟩
          refine hK.out _ _ ⟨(blk_cell BK159.out 0).trans rfl, (blk_cell BK159.out 1).trans rfl, (blk_cell BK159.out 2).trans rfl, (blk_cell BK159.out 3).trans rfl⟩ (fun hHeld => ?_)
          clear hK K
          refine norm_ (a' := ?_) ?_ ?_
          rotate_left
          ·show Act.put _ (some 16) _ = _
           simp only [Act.put, List.setIfInBounds_toArray, List.set_cons_zero, List.set_cons_succ, i64_w, i32_w]
           rfl
          refine pureA 3 17 (bz 40 15) rfl rfl (any_of HT_.out (by kernel_rfl)) ?_
          refine pureA 4 18 (bz 40 31) rfl rfl (any_of HT_.out (by kernel_rfl)) ?_
          refine pureA 5 19 (bz 40 63) rfl rfl (any_of HT_.out (by kernel_rfl)) ?_
          refine pureA 6 20 (bz 40 127) rfl rfl (any_of HT_.out (by kernel_rfl)) ?_
          refine pureA 7 21 (bz 40 255) rfl rfl (any_of HT_.out (by kernel_rfl)) ?_
          refine pureU 8 22 (bz 40 511) rfl rfl (any_of HT_.out (by kernel_rfl)) ?_
          refine pureU 9 23 (bz 40 1023) rfl rfl (any_of HT_.out (by kernel_rfl)) ?_
          refine pureU 10 24 (bz 40 2047) rfl rfl (any_of HT_.out (by kernel_rfl)) ?_
          refine pureU 11 25 (bz 40 4095) rfl rfl (any_of HT_.out (by kernel_rfl)) ?_
          refine pureU 12 26 (bz 40 8191) rfl rfl (any_of HT_.out (by kernel_rfl)) ?_
          refine pureU 13 27 (bz 40 16383) rfl rfl (any_of HT_.out (by kernel_rfl)) ?_
          refine pureU 14 28 (bz 40 32767) rfl rfl (any_of HT_.out (by kernel_rfl)) ?_
          refine pureU 15 29 (bz 40 65535) rfl rfl (any_of HT_.out (by kernel_rfl)) ?_
          refine pureU 16 30 (bz 40 131071) rfl rfl (any_of HT_.out (by kernel_rfl)) ?_
          refine pureU 17 31 (bz 40 262143) rfl rfl (any_of HT_.out (by kernel_rfl)) ?_
          refine pureA 18 32 (bz 40 524287) rfl rfl (any_of HT_.out (by kernel_rfl)) ?_
          refine pureA 19 33 (bz 40 1048575) rfl rfl (any_of HT_.out (by kernel_rfl)) ?_
          refine pureA 20 34 (bz 40 2097151) rfl rfl (any_of HT_.out (by kernel_rfl)) ?_
          refine pureA 21 35 (bz 40 4194303) rfl rfl (any_of HT_.out (by kernel_rfl)) ?_
          refine takeA 22 36 (bz 40 8388607) rfl rfl (take_ofW HT_.out HW_.out (by kernel_rfl)) hHeld (by rintro w' ⟨s0, s1, s2, s3⟩; go_simp; with_reducible rfl) ?_
          refine one_ (i := 23) (N := some 37) (bz 40 16777215) rfl rfl (one_of HT_.out (by kernel_rfl)) (by decide) (fun K hK => ?_)
          refine goes_ Try.func47 (by kernel_rfl) rfl #[.int .i64 ((rd_T77 l0_2 x9_1).f1), .int .i64 1, .int .i64 100000] (by rfl) rfl rfl aE ?_
          with_reducible refine (impl_inRange.calls ((rd_T77 l0_2 x9_1).f1) 1 100000 false _ A28.out).mono ?_
          rintro e w' ⟨rfl, ⟨nd, rfl⟩⟩
          refine ⟨_, rfl, ?_⟩
          refine hK.out _ _ ⟨(blk_cell BK159.out 0).trans rfl, (blk_cell BK159.out 1).trans rfl, (blk_cell BK159.out 2).trans rfl, (blk_cell BK159.out 3).trans rfl⟩ (fun hHeld => ?_)
          clear hK K
          refine norm_ (a' := ?_) ?_ ?_
          rotate_left
          ·show Act.put _ (some 37) _ = _
           simp only [Act.put, List.setIfInBounds_toArray, List.set_cons_zero, List.set_cons_succ, i64_w, i32_w]
           rfl
          refine pureA 24 38 (bz 40 33554431) rfl rfl (any_of HT_.out (by kernel_rfl)) ?_
          refine pureA 25 39 (bz 40 67108863) rfl rfl (any_of HT_.out (by kernel_rfl)) ?_
          refine pureA 26 40 (bz 40 134217727) rfl rfl (any_of HT_.out (by kernel_rfl)) ?_
          refine pureU 27 41 (bz 40 268435455) rfl rfl (any_of HT_.out (by kernel_rfl)) ?_
          refine pureU 28 42 (bz 40 536870911) rfl rfl (any_of HT_.out (by kernel_rfl)) ?_
          refine pureU 29 43 (bz 40 1073741823) rfl rfl (any_of HT_.out (by kernel_rfl)) ?_
          refine pureU 30 44 (bz 40 2147483647) rfl rfl (any_of HT_.out (by kernel_rfl)) ?_
          refine pureA 31 45 (bz 40 4294967295) rfl rfl (any_of HT_.out (by kernel_rfl)) ?_
          refine pureA 32 46 (bz 40 8589934591) rfl rfl (any_of HT_.out (by kernel_rfl)) ?_
          refine pureU 33 47 (bz 40 17179869183) rfl rfl (any_of HT_.out (by kernel_rfl)) ?_
          refine pureU 34 48 (bz 40 34359738367) rfl rfl (any_of HT_.out (by kernel_rfl)) ?_
          refine pureU 35 49 (bz 40 68719476735) rfl rfl (any_of HT_.out (by kernel_rfl)) ?_
          refine pureU 36 50 (bz 40 137438953471) rfl rfl (any_of HT_.out (by kernel_rfl)) ?_
          refine pureU 37 51 (bz 40 274877906943) rfl rfl (any_of HT_.out (by kernel_rfl)) ?_
          refine pureU 38 52 (bz 40 549755813887) rfl rfl (any_of HT_.out (by kernel_rfl)) ?_
          refine pureA 39 53 (bz 40 1099511627775) rfl rfl (any_of HT_.out (by kernel_rfl)) ?_
          refine done_ (done_of HT_.out (by kernel_rfl)) ?_
          try go_wp2
          go_meet
          case rel => exact ⟨_, (true), tE, H', ⟨by have := HK1.out; first | omega | exact Nat.le_refl _⟩, ⟨by refine bU ?_; exact BK155.out⟩, ⟨by refine bU ?_; exact BK159.out⟩, ⟨by repeat (first | (with_reducible first | exact HB.out | apply below_alloc | apply pw_below_drewN | apply below_drew1 | refine below_set ?_ GE155.out | refine below_set ?_ GE159.out) | exact HB.out)⟩⟩
       ·replace c13 := Bool.eq_false_iff.mpr c13
        subst c13
        have H1 : (impl_GoodStore.j1 k1 x3_1 x9_1 l0_2 (l0_2.length : Int) x9_1 true a0_0 a0_1 l0_2 ((rd_T77 l0_2 x9_1).f0) ((rd_T77 l0_2 x9_1).f1) ((rd_T77 l0_2 x9_1).f2) ((rd_T77 l0_2 x9_1).f3)) = some r := by rw [if_neg (show ¬ (false = true) by decide)] at H; exact H
        clear H
        have H := H1
        clear H1
        have H' := Aside0.mk H
        clear H
        try go_wp2
        replace BK155 := Aside0.mk (blk_drew BK155.out)
        replace BK159 := Aside0.mk (blk_drew BK159.out)
        replace HB := Aside0.mk (below_drew1 HB.out)
        refine start_ (n := 40) (S := fun w' => w'.cell? ⟨gb159, 0, none⟩ = some (.string ((rd_T77 l0_2 x9_1).f0)) ∧ w'.cell? ⟨gb159, 1, none⟩ = some (.int .i64 ((rd_T77 l0_2 x9_1).f1)) ∧ w'.cell? ⟨gb159, 2, none⟩ = some (.int .i64 ((rd_T77 l0_2 x9_1).f2)) ∧ w'.cell? ⟨gb159, 3, none⟩ = some (.int .i64 ((rd_T77 l0_2 x9_1).f3))) (ds := []) #[false, false, false, false, false, false, false, false, false, false, false, false, false, false, false, false, false, false, false, false, false, false, false, false, false, false, false, false, false, false, false, false, false, false, false, false, false, false, false, false] (by kernel_rfl) rfl rfl ⟨(blk_cell BK159.out 0).trans rfl, (blk_cell BK159.out 1).trans rfl, (blk_cell BK159.out 2).trans rfl, (blk_cell BK159.out 3).trans rfl⟩ (fun hHeld => ?_); refine with_tabW impl_GoodStore.tab5 impl_GoodStore.bits5 (fun HT_ HW_ => ?_)
        generalize w11.drew = w36 at BK155 BK159 HB hHeld ⊢
        refine pureA 0 14 (bz 40 1) rfl rfl (any_of HT_.out (by kernel_rfl)) ?_
        refine takeA 1 15 (bz 40 3) rfl rfl (take_ofW HT_.out HW_.out (by kernel_rfl)) hHeld (by rintro w' ⟨s0, s1, s2, s3⟩; go_simp; with_reducible rfl) ?_
        refine one_ (i := 2) (N := some 16) (bz 40 7) rfl rfl (one_of HT_.out (by kernel_rfl)) (by decide) (fun K hK => ?_)
        refine goes_ Try.func34 (by kernel_rfl) rfl #[.string ((rd_T77 l0_2 x9_1).f0)] (by rfl) rfl rfl aE ?_
        with_reducible refine (impl_GoodName.calls k1 ((rd_T77 l0_2 x9_1).f0) false _ A12.out).mono ?_
        rintro e w' ⟨rfl, ⟨nd, rfl⟩⟩
        refine ⟨_, rfl, ?_⟩
        refine hK.out _ _ ⟨(blk_cell BK159.out 0).trans rfl, (blk_cell BK159.out 1).trans rfl, (blk_cell BK159.out 2).trans rfl, (blk_cell BK159.out 3).trans rfl⟩ (fun hHeld => ?_)
        clear hK K
        refine norm_ (a' := ?_) ?_ ?_
        rotate_left
        ·show Act.put _ (some 16) _ = _
         simp only [Act.put, List.setIfInBounds_toArray, List.set_cons_zero, List.set_cons_succ, i64_w, i32_w]
         rfl
        refine pureA 3 17 (bz 40 15) rfl rfl (any_of HT_.out (by kernel_rfl)) ?_
        refine pureA 4 18 (bz 40 31) rfl rfl (any_of HT_.out (by kernel_rfl)) ?_
        refine pureU 5 19 (bz 40 63) rfl rfl (any_of HT_.out (by kernel_rfl)) ?_
        refine pureU 6 20 (bz 40 127) rfl rfl (any_of HT_.out (by kernel_rfl)) ?_
        refine pureU 7 21 (bz 40 255) rfl rfl (any_of HT_.out (by kernel_rfl)) ?_
        refine pureU 8 22 (bz 40 511) rfl rfl (any_of HT_.out (by kernel_rfl)) ?_
        refine pureU 9 23 (bz 40 1023) rfl rfl (any_of HT_.out (by kernel_rfl)) ?_
        refine pureU 10 24 (bz 40 2047) rfl rfl (any_of HT_.out (by kernel_rfl)) ?_
        refine pureU 11 25 (bz 40 4095) rfl rfl (any_of HT_.out (by kernel_rfl)) ?_
        refine pureU 12 26 (bz 40 8191) rfl rfl (any_of HT_.out (by kernel_rfl)) ?_
        refine pureU 13 27 (bz 40 16383) rfl rfl (any_of HT_.out (by kernel_rfl)) ?_
        refine pureU 14 28 (bz 40 32767) rfl rfl (any_of HT_.out (by kernel_rfl)) ?_
        refine pureU 15 29 (bz 40 65535) rfl rfl (any_of HT_.out (by kernel_rfl)) ?_
        refine pureU 16 30 (bz 40 131071) rfl rfl (any_of HT_.out (by kernel_rfl)) ?_
        refine pureU 17 31 (bz 40 262143) rfl rfl (any_of HT_.out (by kernel_rfl)) ?_
        refine pureU 18 32 (bz 40 524287) rfl rfl (any_of HT_.out (by kernel_rfl)) ?_
        refine pureA 19 33 (bz 40 1048575) rfl rfl (any_of HT_.out (by kernel_rfl)) ?_
        refine pureA 20 34 (bz 40 2097151) rfl rfl (any_of HT_.out (by kernel_rfl)) ?_
        refine pureU 21 35 (bz 40 4194303) rfl rfl (any_of HT_.out (by kernel_rfl)) ?_
        refine pureU 22 36 (bz 40 8388607) rfl rfl (any_of HT_.out (by kernel_rfl)) ?_
        refine pureU 23 37 (bz 40 16777215) rfl rfl (any_of HT_.out (by kernel_rfl)) ?_
        refine pureU 24 38 (bz 40 33554431) rfl rfl (any_of HT_.out (by kernel_rfl)) ?_
        refine pureA 25 39 (bz 40 67108863) rfl rfl (any_of HT_.out (by kernel_rfl)) ?_
        refine pureA 26 40 (bz 40 134217727) rfl rfl (any_of HT_.out (by kernel_rfl)) ?_
        refine pureU 27 41 (bz 40 268435455) rfl rfl (any_of HT_.out (by kernel_rfl)) ?_
        refine pureU 28 42 (bz 40 536870911) rfl rfl (any_of HT_.out (by kernel_rfl)) ?_
        refine pureU 29 43 (bz 40 1073741823) rfl rfl (any_of HT_.out (by kernel_rfl)) ?_
        refine pureU 30 44 (bz 40 2147483647) rfl rfl (any_of HT_.out (by kernel_rfl)) ?_
        refine pureA 31 45 (bz 40 4294967295) rfl rfl (any_of HT_.out (by kernel_rfl)) ?_
        refine pureA 32 46 (bz 40 8589934591) rfl rfl (any_of HT_.out (by kernel_rfl)) ?_
        refine pureU 33 47 (bz 40 17179869183) rfl rfl (any_of HT_.out (by kernel_rfl)) ?_
        refine pureU 34 48 (bz 40 34359738367) rfl rfl (any_of HT_.out (by kernel_rfl)) ?_
        refine pureU 35 49 (bz 40 68719476735) rfl rfl (any_of HT_.out (by kernel_rfl)) ?_
        refine pureU 36 50 (bz 40 137438953471) rfl rfl (any_of HT_.out (by kernel_rfl)) ?_
        refine pureU 37 51 (bz 40 274877906943) rfl rfl (any_of HT_.out (by kernel_rfl)) ?_
        refine pureU 38 52 (bz 40 549755813887) rfl rfl (any_of HT_.out (by kernel_rfl)) ?_
        refine pureA 39 53 (bz 40 1099511627775) rfl rfl (any_of HT_.out (by kernel_rfl)) ?_
        refine done_ (done_of HT_.out (by kernel_rfl)) ?_
        try go_wp2
        go_meet
        case rel => exact ⟨_, (true), tE, H', ⟨by have := HK1.out; first | omega | exact Nat.le_refl _⟩, ⟨by refine bU ?_; exact BK155.out⟩, ⟨by refine bU ?_; exact BK159.out⟩, ⟨by repeat (first | (with_reducible first | exact HB.out | apply below_alloc | apply pw_below_drewN | apply below_drew1 | refine below_set ?_ GE155.out | refine below_set ?_ GE159.out) | exact HB.out)⟩⟩
      case rest =>
       clear HC7
       try clear c1
       try clear c2
       try clear p2
       try clear c3
       try clear c4
       try clear c13
       try clear c29
       try clear c34
       obtain ⟨kq, x53_6, rfl, HA, HJ6, BK155, BK159, HB⟩ := hcut
       cases kq with
       | zero => exact absurd HA.out (by simp [impl_GoodStore.j1])
       | succ kj6 =>
        have H := HA.out
        clear HA
        simp only [impl_GoodStore.j1] at H
        by_cases c37 : x53_6 = true
        ·subst c37
         have H1 : (some false) = some r := by rw [if_pos rfl] at H; exact H
         clear H
         have H := H1
         clear H1
         obtain rfl := Option.some.inj H
         go_wp2
         go_ret
         exact ⟨eE, lU2 GE155.out GE159.out⟩
        ·replace c37 := Bool.eq_false_iff.mpr c37
         subst c37
         have H1 : (if ((rd_T77 l0_2 x9_1).f3) > 0 then (if 0 ≤ x9_1 then (if x9_1 ≤ (l0_2.length : Int) then ((slices_ContainsFunc_w49.f kj6 (l0_2.take (x9_1 : Int).toNat) ((rd_T77 l0_2 x9_1).f0) ((rd_T77 l0_2 x9_1).f1) ((rd_T77 l0_2 x9_1).f2) ((rd_T77 l0_2 x9_1).f3)).bind fun t172 => (if t172 = true then (some false) else (impl_GoodStore.l0 kj6 (wrap64 (x3_1 + ((rd_T77 l0_2 x9_1).f1))) l0_2 (l0_2.length : Int) (wrap64 (x9_1 + 1)) a0_0 a0_1 l0_2))) else (none)) else (none)) else (impl_GoodStore.l0 kj6 (wrap64 (x3_1 + ((rd_T77 l0_2 x9_1).f1))) l0_2 (l0_2.length : Int) (wrap64 (x9_1 + 1)) a0_0 a0_1 l0_2)) = some r := by rw [if_neg (show ¬ (false = true) by decide)] at H; exact H
         clear H
         have H := H1
         clear H1
         by_cases c38 : ((rd_T77 l0_2 x9_1).f3) > 0
         ·rw [if_pos c38] at H
          have c38b0 : decide (0 < ((rd_T77 l0_2 x9_1).f3)) = true := decide_eq_true c38
          clear c38
          by_cases c39 : 0 ≤ x9_1
          ·rw [if_pos c39] at H
           have c39b0 := eq_true c39
           have c39b1 : decide (0 ≤ x9_1) = true := decide_eq_true c39
           clear c39
           by_cases c40 : x9_1 ≤ (l0_2.length : Int)
           ·rw [if_pos c40] at H
            have c40b0 := eq_true c40
            have c40b1 : decide (x9_1 ≤ (l0_2.length : Int)) = true := decide_eq_true c40
            clear c40
            obtain ⟨y168, hy168⟩ : ∃ y_ : List (S77), y_ = (l0_2.take (x9_1 : Int).toNat) := ⟨_, rfl⟩
            replace H : ((slices_ContainsFunc_w49.f kj6 y168 ((rd_T77 l0_2 x9_1).f0) ((rd_T77 l0_2 x9_1).f1) ((rd_T77 l0_2 x9_1).f2) ((rd_T77 l0_2 x9_1).f3)).bind fun t172 => (if t172 = true then (some false) else (impl_GoodStore.l0 kj6 (wrap64 (x3_1 + ((rd_T77 l0_2 x9_1).f1))) l0_2 (l0_2.length : Int) (wrap64 (x9_1 + 1)) a0_0 a0_1 l0_2))) = some r := by first | (rw [hy168]; with_reducible exact H) | (have H2_ := (Option.bind_some _ _).symm.trans H; rw [hy168]; with_reducible exact H2_) | (have H2_ := (Option.bind_some _ _).symm.trans H; with_reducible exact H2_) | with_reducible exact H | (rw [hy168]; exact H) | exact H
            have Ny168 := Aside0.mk hy168
            clear hy168
            replace H := Option.bind_eq_some_iff.mp H
            obtain ⟨t172, A410, H⟩ := H
            replace H : (if t172 = true then (some false) else (impl_GoodStore.l0 kj6 (wrap64 (x3_1 + ((rd_T77 l0_2 x9_1).f1))) l0_2 (l0_2.length : Int) (wrap64 (x9_1 + 1)) a0_0 a0_1 l0_2)) = some r := H
            have A41 := Aside0.mk A410
            clear A410
            by_cases c42 : t172 = true
            ·subst c42
             have H1 : (some false) = some r := by rw [if_pos rfl] at H; exact H
             clear H
             have H := H1
             clear H1
             obtain rfl := Option.some.inj H
             have hnb43 := NB159_155.out
             have hnc43 := NB155_159.out
             have hcz44_0 : wc.cell? ⟨gb159, 0, none⟩ = some (.string ((rd_T77 l0_2 x9_1).f0)) := (blk_cell BK159.out 0).trans rfl
             have hcz44_1 : wc.cell? ⟨gb159, 1, none⟩ = some (.int .i64 ((rd_T77 l0_2 x9_1).f1)) := (blk_cell BK159.out 1).trans rfl
             have hcz44_2 : wc.cell? ⟨gb159, 2, none⟩ = some (.int .i64 ((rd_T77 l0_2 x9_1).f2)) := (blk_cell BK159.out 2).trans rfl
             have hcz44_3 : wc.cell? ⟨gb159, 3, none⟩ = some (.int .i64 ((rd_T77 l0_2 x9_1).f3)) := (blk_cell BK159.out 3).trans rfl
             have hfz44_0 := blk_frozen BK159.out 0
             have hfz44_1 := blk_frozen BK159.out 1
             have hfz44_2 := blk_frozen BK159.out 2
             have hfz44_3 := blk_frozen BK159.out 3
             have hcz45_0 : wc.cell? ⟨gb155, 0, none⟩ = some (.int .i64 a0_0) := (blk_cell BK155.out 0).trans rfl
             have hcz45_1 : wc.cell? ⟨gb155, 1, none⟩ = some (.int .i64 a0_1) := (blk_cell BK155.out 1).trans rfl
             have hcz45_2 : wc.cell? ⟨gb155, 2, none⟩ = some (.slice (some ad158) l0_2.length c0_2) := (blk_cell BK155.out 2).trans rfl
             have hfz45_0 := blk_frozen BK155.out 0
             have hfz45_1 := blk_frozen BK155.out 1
             have hfz45_2 := blk_frozen BK155.out 2
             have q46 : (x9_1 : Int) ≤ ((l0_2.length : Int) : Int) := of_decide_eq_true hE
             obtain ⟨i046, hi046, _, hsz46, _⟩ := info_parts info77
             have hroom46 : l0_2.length ≤ c0_2 := HC0_2.out
             have hC46 : Kd.C k77 _ (some ad158) l0_2.length l0_2 := HR0_2.out
             have hcut46 := cut_to (P := Try.prog) 40 77 .i64 Try.underlying40 hi046 (some ad158) l0_2.length c0_2 x9_1 (of_decide_eq_true hE) q46 hroom46
             have hr46 := Kd.C_take (m := (x9_1 : Int).toNat) hC46 (by omega)
             have hy46 : y168.length = (x9_1 : Int).toNat := (by rw [Ny168.out, List.length_take]; omega)
             rw [← Ny168.out] at hr46
             rw [← hy46] at hcut46
             have HR171 := Aside0.mk hr46
             have HC171 := Aside0.mk (show y168.length ≤ c0_2 from by omega)
             clear hr46 hC46 hroom46 hi046 hsz46
             have KY46 := Aside0.mk hy46
             clear hy46
             replace q46 := eq_true q46
             go_wp2_with (first | (go_at_call 48; (with_reducible refine (slices_ContainsFunc_w49.calls kj6 _ _ y168 gb159 ((rd_T77 l0_2 x9_1).f0) ((rd_T77 l0_2 x9_1).f1) ((rd_T77 l0_2 x9_1).f2) ((rd_T77 l0_2 x9_1).f3) true _ ?side1 ?side2 ?side3 A41.out).mono ?_); (case side1 => exact cU (Kd.C_below HR171.out HB.out)); (case side2 => exact HC171.out); (case side3 => refine bU ?_; exact BK159.out); rintro e w47 ⟨rfl, hb⟩; replace BK155 := Aside0.mk (blk_below (bU BK155.out) hb); replace BK159 := Aside0.mk (blk_below (bU BK159.out) hb); replace HB := Aside0.mk (below_step (lU2 GE155.out GE159.out) hb); (try clear hb); (try clear hb2); (try clear hk); (try clear hi)))
             go_ret
             exact ⟨eE, lU2 GE155.out GE159.out⟩
            ·replace c42 := Bool.eq_false_iff.mpr c42
             subst c42
             have H1 : (impl_GoodStore.l0 kj6 (wrap64 (x3_1 + ((rd_T77 l0_2 x9_1).f1))) l0_2 (l0_2.length : Int) (wrap64 (x9_1 + 1)) a0_0 a0_1 l0_2) = some r := by rw [if_neg (show ¬ (false = true) by decide)] at H; exact H
             clear H
             have H := H1
             clear H1
             have H' := Aside0.mk H
             clear H
             have hnb48 := NB159_155.out
             have hnc48 := NB155_159.out
             have hcz49_0 : wc.cell? ⟨gb159, 0, none⟩ = some (.string ((rd_T77 l0_2 x9_1).f0)) := (blk_cell BK159.out 0).trans rfl
             have hcz49_1 : wc.cell? ⟨gb159, 1, none⟩ = some (.int .i64 ((rd_T77 l0_2 x9_1).f1)) := (blk_cell BK159.out 1).trans rfl
             have hcz49_2 : wc.cell? ⟨gb159, 2, none⟩ = some (.int .i64 ((rd_T77 l0_2 x9_1).f2)) := (blk_cell BK159.out 2).trans rfl
             have hcz49_3 : wc.cell? ⟨gb159, 3, none⟩ = some (.int .i64 ((rd_T77 l0_2 x9_1).f3)) := (blk_cell BK159.out 3).trans rfl
             have hfz49_0 := blk_frozen BK159.out 0
             have hfz49_1 := blk_frozen BK159.out 1
             have hfz49_2 := blk_frozen BK159.out 2
             have hfz49_3 := blk_frozen BK159.out 3
             have hcz50_0 : wc.cell? ⟨gb155, 0, none⟩ = some (.int .i64 a0_0) := (blk_cell BK155.out 0).trans rfl
             have hcz50_1 : wc.cell? ⟨gb155, 1, none⟩ = some (.int .i64 a0_1) := (blk_cell BK155.out 1).trans rfl
             have hcz50_2 : wc.cell? ⟨gb155, 2, none⟩ = some (.slice (some ad158) l0_2.length c0_2) := (blk_cell BK155.out 2).trans rfl
             have hfz50_0 := blk_frozen BK155.out 0
             have hfz50_1 := blk_frozen BK155.out 1
             have hfz50_2 := blk_frozen BK155.out 2
             have q51 : (x9_1 : Int) ≤ ((l0_2.length : Int) : Int) := of_decide_eq_true hE
             obtain ⟨i051, hi051, _, hsz51, _⟩ := info_parts info77
             have hroom51 : l0_2.length ≤ c0_2 := HC0_2.out
             have hC51 : Kd.C k77 _ (some ad158) l0_2.length l0_2 := HR0_2.out
             have hcut51 := cut_to (P := Try.prog) 40 77 .i64 Try.underlying40 hi051 (some ad158) l0_2.length c0_2 x9_1 (of_decide_eq_true hE) q51 hroom51
             have hr51 := Kd.C_take (m := (x9_1 : Int).toNat) hC51 (by omega)
             have hy51 : y168.length = (x9_1 : Int).toNat := (by rw [Ny168.out, List.length_take]; omega)
             rw [← Ny168.out] at hr51
             rw [← hy51] at hcut51
             have HR171 := Aside0.mk hr51
             have HC171 := Aside0.mk (show y168.length ≤ c0_2 from by omega)
             clear hr51 hC51 hroom51 hi051 hsz51
             have KY51 := Aside0.mk hy51
             clear hy51
             replace q51 := eq_true q51
             go_wp2_with (first | (go_at_call 48; (with_reducible refine (slices_ContainsFunc_w49.calls kj6 _ _ y168 gb159 ((rd_T77 l0_2 x9_1).f0) ((rd_T77 l0_2 x9_1).f1) ((rd_T77 l0_2 x9_1).f2) ((rd_T77 l0_2 x9_1).f3) false _ ?side1 ?side2 ?side3 A41.out).mono ?_); (case side1 => exact cU (Kd.C_below HR171.out HB.out)); (case side2 => exact HC171.out); (case side3 => refine bU ?_; exact BK159.out); rintro e w52 ⟨rfl, hb⟩; replace BK155 := Aside0.mk (blk_below (bU BK155.out) hb); replace BK159 := Aside0.mk (blk_below (bU BK159.out) hb); replace HB := Aside0.mk (below_step (lU2 GE155.out GE159.out) hb); (try clear hb); (try clear hb2); (try clear hk); (try clear hi); have hcz53_0 : w52.cell? ⟨gb159, 0, none⟩ = some (.string ((rd_T77 l0_2 x9_1).f0)) := (blk_cell BK159.out 0).trans rfl; have hcz53_1 : w52.cell? ⟨gb159, 1, none⟩ = some (.int .i64 ((rd_T77 l0_2 x9_1).f1)) := (blk_cell BK159.out 1).trans rfl; have hcz53_2 : w52.cell? ⟨gb159, 2, none⟩ = some (.int .i64 ((rd_T77 l0_2 x9_1).f2)) := (blk_cell BK159.out 2).trans rfl; have hcz53_3 : w52.cell? ⟨gb159, 3, none⟩ = some (.int .i64 ((rd_T77 l0_2 x9_1).f3)) := (blk_cell BK159.out 3).trans rfl; have hfz53_0 := blk_frozen BK159.out 0; have hfz53_1 := blk_frozen BK159.out 1; have hfz53_2 := blk_frozen BK159.out 2; have hfz53_3 := blk_frozen BK159.out 3))
             go_roundg kj6
             case measure => have := HK1.out; have := HJ6.out; omega
             case rel => exact ⟨(wrap64 (x3_1 + ((rd_T77 l0_2 x9_1).f1))), (wrap64 (x9_1 + 1)), tE, tE, H', ⟨by have := HK1.out; have := HJ6.out; omega⟩, ⟨by refine bU ?_; exact BK155.out⟩, ⟨by repeat (first | (with_reducible first | exact HB.out | apply below_alloc | apply pw_below_drewN | apply below_drew1 | refine below_set ?_ GE155.out | refine below_set ?_ GE159.out) | exact HB.out)⟩⟩
           ·rw [if_neg c40] at H
            exact absurd H (by simp)
          ·rw [if_neg c39] at H
           exact absurd H (by simp)
         ·rw [if_neg c38] at H
          have c38b0 : decide (0 < ((rd_T77 l0_2 x9_1).f3)) = false := decide_eq_false c38
          clear c38
          have H' := Aside0.mk H
          clear H
          have hnb54 := NB159_155.out
          have hnc54 := NB155_159.out
          have hcz55_0 : wc.cell? ⟨gb159, 0, none⟩ = some (.string ((rd_T77 l0_2 x9_1).f0)) := (blk_cell BK159.out 0).trans rfl
          have hcz55_1 : wc.cell? ⟨gb159, 1, none⟩ = some (.int .i64 ((rd_T77 l0_2 x9_1).f1)) := (blk_cell BK159.out 1).trans rfl
          have hcz55_2 : wc.cell? ⟨gb159, 2, none⟩ = some (.int .i64 ((rd_T77 l0_2 x9_1).f2)) := (blk_cell BK159.out 2).trans rfl
          have hcz55_3 : wc.cell? ⟨gb159, 3, none⟩ = some (.int .i64 ((rd_T77 l0_2 x9_1).f3)) := (blk_cell BK159.out 3).trans rfl
          have hfz55_0 := blk_frozen BK159.out 0
          have hfz55_1 := blk_frozen BK159.out 1
          have hfz55_2 := blk_frozen BK159.out 2
          have hfz55_3 := blk_frozen BK159.out 3
          go_wp2
          go_roundg kj6
          case measure => have := HK1.out; have := HJ6.out; omega
          case rel => exact ⟨(wrap64 (x3_1 + ((rd_T77 l0_2 x9_1).f1))), (wrap64 (x9_1 + 1)), tE, tE, H', ⟨by have := HK1.out; have := HJ6.out; omega⟩, ⟨by refine bU ?_; exact BK155.out⟩, ⟨by repeat (first | (with_reducible first | exact HB.out | apply below_alloc | apply pw_below_drewN | apply below_drew1 | refine below_set ?_ GE155.out | refine below_set ?_ GE159.out) | exact HB.out)⟩⟩
     ·rw [if_neg c6] at H
      exact absurd H (by simp)
    ·rw [if_neg c5] at H
     exact absurd H (by simp)
   ·rw [if_neg c4] at H
    have c4b0 : decide (x9_1 < (l0_2.length : Int)) = false := decide_eq_false c4
    clear c4
    replace H := Option.bind_eq_some_iff.mp H
    obtain ⟨t156, A560, H⟩ := H
    replace H : (if t156 = true then ((impl_isTime.f a0_1).bind fun t157 => (if t157 = true then (if (l0_2.length : Int) ≤ 30 then (some (decide (x3_1 ≤ a0_0))) else (some false)) else (some false))) else (some false)) = some r := H
    have A56 := Aside0.mk A560
    clear A560
    by_cases c57 : t156 = true
    ·subst c57
     have H1 : ((impl_isTime.f a0_1).bind fun t157 => (if t157 = true then (if (l0_2.length : Int) ≤ 30 then (some (decide (x3_1 ≤ a0_0))) else (some false)) else (some false))) = some r := by rw [if_pos rfl] at H; exact H
     clear H
     have H := H1
     clear H1
     replace H := Option.bind_eq_some_iff.mp H
     obtain ⟨t157, A580, H⟩ := H
     replace H : (if t157 = true then (if (l0_2.length : Int) ≤ 30 then (some (decide (x3_1 ≤ a0_0))) else (some false)) else (some false)) = some r := H
     have A58 := Aside0.mk A580
     clear A580
     by_cases c59 : t157 = true
     ·subst c59
      have H1 : (if (l0_2.length : Int) ≤ 30 then (some (decide (x3_1 ≤ a0_0))) else (some false)) = some r := by rw [if_pos rfl] at H; exact H
      clear H
      have H := H1
      clear H1
      by_cases c60 : (l0_2.length : Int) ≤ 30
      ·rw [if_pos c60] at H
       have c60b0 : decide ((l0_2.length : Int) ≤ 30) = true := decide_eq_true c60
       have c60b1 : decide (l0_2.length ≤ 30) = true := decide_eq_true (by omega)
       clear c60
       obtain rfl := Option.some.inj H
       have hcz61_0 : wr.cell? ⟨gb155, 0, none⟩ = some (.int .i64 a0_0) := (blk_cell BK155.out 0).trans rfl
       have hcz61_1 : wr.cell? ⟨gb155, 1, none⟩ = some (.int .i64 a0_1) := (blk_cell BK155.out 1).trans rfl
       have hcz61_2 : wr.cell? ⟨gb155, 2, none⟩ = some (.slice A0_2 l0_2.length c0_2) := (blk_cell BK155.out 2).trans rfl
       have hfz61_0 := blk_frozen BK155.out 0
       have hfz61_1 := blk_frozen BK155.out 1
       have hfz61_2 := blk_frozen BK155.out 2
       go_wp2_with (first | ((with_reducible refine gate_callee (f := 47) rfl ?_); refine goesL_ (some 72) rfl rfl Try.func47 (by kernel_rfl) rfl #[.int .i64 a0_0, .int .i64 1, .int .i64 100000] rfl aE ?_; (with_reducible refine (impl_inRange.calls a0_0 1 100000 true _ A56.out).mono ?_); rintro e w' ⟨rfl, ⟨nd, rfl⟩⟩; refine ⟨_, rfl, ?_⟩) | (go_at_call 50; (with_reducible refine (impl_isTime.calls a0_1 true _ A58.out).mono ?_); rintro e w' ⟨rfl, ⟨nd, rfl⟩⟩))
       go_ret
       exact ⟨eE, lU1 GE155.out⟩
      ·rw [if_neg c60] at H
       have c60b0 : decide ((l0_2.length : Int) ≤ 30) = false := decide_eq_false c60
       have c60b1 : decide (l0_2.length ≤ 30) = false := decide_eq_false (by omega)
       clear c60
       obtain rfl := Option.some.inj H
       have hcz62_0 : wr.cell? ⟨gb155, 0, none⟩ = some (.int .i64 a0_0) := (blk_cell BK155.out 0).trans rfl
       have hcz62_1 : wr.cell? ⟨gb155, 1, none⟩ = some (.int .i64 a0_1) := (blk_cell BK155.out 1).trans rfl
       have hcz62_2 : wr.cell? ⟨gb155, 2, none⟩ = some (.slice A0_2 l0_2.length c0_2) := (blk_cell BK155.out 2).trans rfl
       have hfz62_0 := blk_frozen BK155.out 0
       have hfz62_1 := blk_frozen BK155.out 1
       have hfz62_2 := blk_frozen BK155.out 2
       go_wp2_with (first | ((with_reducible refine gate_callee (f := 47) rfl ?_); refine goesL_ (some 72) rfl rfl Try.func47 (by kernel_rfl) rfl #[.int .i64 a0_0, .int .i64 1, .int .i64 100000] rfl aE ?_; (with_reducible refine (impl_inRange.calls a0_0 1 100000 true _ A56.out).mono ?_); rintro e w' ⟨rfl, ⟨nd, rfl⟩⟩; refine ⟨_, rfl, ?_⟩) | (go_at_call 50; (with_reducible refine (impl_isTime.calls a0_1 true _ A58.out).mono ?_); rintro e w' ⟨rfl, ⟨nd, rfl⟩⟩))
       go_ret
       exact ⟨eE, lU1 GE155.out⟩
     ·replace c59 := Bool.eq_false_iff.mpr c59
      subst c59
      have H1 : (some false) = some r := by rw [if_neg (show ¬ (false = true) by decide)] at H; exact H
      clear H
      have H := H1
      clear H1
      obtain rfl := Option.some.inj H
      have hcz63_0 : wr.cell? ⟨gb155, 0, none⟩ = some (.int .i64 a0_0) := (blk_cell BK155.out 0).trans rfl
      have hcz63_1 : wr.cell? ⟨gb155, 1, none⟩ = some (.int .i64 a0_1) := (blk_cell BK155.out 1).trans rfl
      have hcz63_2 : wr.cell? ⟨gb155, 2, none⟩ = some (.slice A0_2 l0_2.length c0_2) := (blk_cell BK155.out 2).trans rfl
      have hfz63_0 := blk_frozen BK155.out 0
      have hfz63_1 := blk_frozen BK155.out 1
      have hfz63_2 := blk_frozen BK155.out 2
      go_wp2_with (first | ((with_reducible refine gate_callee (f := 47) rfl ?_); refine goesL_ (some 72) rfl rfl Try.func47 (by kernel_rfl) rfl #[.int .i64 a0_0, .int .i64 1, .int .i64 100000] rfl aE ?_; (with_reducible refine (impl_inRange.calls a0_0 1 100000 true _ A56.out).mono ?_); rintro e w' ⟨rfl, ⟨nd, rfl⟩⟩; refine ⟨_, rfl, ?_⟩) | (go_at_call 50; (with_reducible refine (impl_isTime.calls a0_1 false _ A58.out).mono ?_); rintro e w' ⟨rfl, ⟨nd, rfl⟩⟩))
      go_ret
      exact ⟨eE, lU1 GE155.out⟩
    ·replace c57 := Bool.eq_false_iff.mpr c57
     subst c57
     have H1 : (some false) = some r := by rw [if_neg (show ¬ (false = true) by decide)] at H; exact H
     clear H
     have H := H1
     clear H1
     obtain rfl := Option.some.inj H
     have hcz64_0 : wr.cell? ⟨gb155, 0, none⟩ = some (.int .i64 a0_0) := (blk_cell BK155.out 0).trans rfl
     have hcz64_1 : wr.cell? ⟨gb155, 1, none⟩ = some (.int .i64 a0_1) := (blk_cell BK155.out 1).trans rfl
     have hcz64_2 : wr.cell? ⟨gb155, 2, none⟩ = some (.slice A0_2 l0_2.length c0_2) := (blk_cell BK155.out 2).trans rfl
     have hfz64_0 := blk_frozen BK155.out 0
     have hfz64_1 := blk_frozen BK155.out 1
     have hfz64_2 := blk_frozen BK155.out 2
     go_wp2_with (first | ((with_reducible refine gate_callee (f := 47) rfl ?_); refine goesL_ (some 72) rfl rfl Try.func47 (by kernel_rfl) rfl #[.int .i64 a0_0, .int .i64 1, .int .i64 100000] rfl aE ?_; (with_reducible refine (impl_inRange.calls a0_0 1 100000 false _ A56.out).mono ?_); rintro e w' ⟨rfl, ⟨nd, rfl⟩⟩; refine ⟨_, rfl, ?_⟩))
     go_ret
     exact ⟨eE, lU1 GE155.out⟩
end Go.Proofs.Ytifejplilaefiaa.PFnExactGoodStore
namespace Go.Proofs.Ytifejplilaefiaa.PFnExactGoodStore
open Go.RowKit Go.Proofs.YtifejplilaefiaaW.PrintWords Go.Proofs.YtifejplilaefiaaW.PrintLast Go.Proofs.YtifejplilaefiaaW.PrintMore
attribute [local go_sem] max2_int min2_int max_two min_two max_three min_three max_four min_four   -- for this text's walks alone
set_option linter.unusedVariables false
set_option linter.unusedSimpArgs false
def laws_eqResident.f (a0_0 : ByteArray) (a0_1 : Int) (a0_2 : Int) (a0_3 : Int) (a1_0 : ByteArray) (a1_1 : Int) (a1_2 : Int) (a1_3 : Int) : Option (Bool) := if a0_0.toList = a1_0.toList then (if a0_1 = a1_1 then (if a0_2 = a1_2 then (if a0_3 = a1_3 then (some true) else (some false)) else (some false)) else (some false)) else (some false)
set_option maxHeartbeats 8000000 in
set_option maxRecDepth 100000 in
theorem laws_eqResident.calls (a0_0 : ByteArray) (a0_1 : Int) (a0_2 : Int) (a0_3 : Int) (a1_0 : ByteArray) (a1_1 : Int) (a1_2 : Int) (a1_3 : Int) (r : Bool) (w : World) (h : laws_eqResident.f a0_0 a0_1 a0_2 a0_3 a1_0 a1_1 a1_2 a1_3 = some r) :
  Calls Try.prog 85 #[.agg #[.string a0_0, .int .i64 a0_1, .int .i64 a0_2, .int .i64 a0_3], .agg #[.string a1_0, .int .i64 a1_1, .int .i64 a1_2, .int .i64 a1_3]] w fun e w' => e = .returned (.bool r) ∧ Below w.heap.size w w' := by
 have hu77 := Try.underlying77
 have HB := Aside0.mk (Below.refl w.heap.size w)
 have H : (if a0_0.toList = a1_0.toList then (if a0_1 = a1_1 then (if a0_2 = a1_2 then (if a0_3 = a1_3 then (some true) else (some false)) else (some false)) else (some false)) else (some false)) = some r := h
 clear h
 by_cases c3 : a0_0.toList = a1_0.toList
 ·rw [if_pos c3] at H
  have c3b0 : (a0_0.toList == a1_0.toList) = true := beq_iff_eq.mpr c3
  have c3b1 : (a0_0.toList != a1_0.toList) = false := bne_eq_false_iff_eq.mpr c3
  clear c3
  by_cases c4 : a0_1 = a1_1
  ·rw [if_pos c4] at H
   have c4b0 : (a0_1 == a1_1) = true := beq_iff_eq.mpr c4
   have c4b1 : (a0_1 != a1_1) = false := bne_eq_false_iff_eq.mpr c4
   clear c4
   by_cases c5 : a0_2 = a1_2
   ·rw [if_pos c5] at H
    have c5b0 : (a0_2 == a1_2) = true := beq_iff_eq.mpr c5
    have c5b1 : (a0_2 != a1_2) = false := bne_eq_false_iff_eq.mpr c5
    clear c5
    by_cases c6 : a0_3 = a1_3
    ·rw [if_pos c6] at H
     have c6b0 : (a0_3 == a1_3) = true := beq_iff_eq.mpr c6
     have c6b1 : (a0_3 != a1_3) = false := bne_eq_false_iff_eq.mpr c6
     clear c6
     obtain rfl := Option.some.inj H
     go_enter Try.func85, Try.ntmps85
     go_wp2_with (first | ((with_reducible refine gate_dst (N := 2) rfl ?_); refine box_event rfl (N := 2) rfl (cs := #[.string a0_0, .int .i64 a0_1, .int .i64 a0_2, .int .i64 a0_3]) (t := 77) sE ?_; intro gb173 hg w7 hbox hb; have BK173 := Aside0.mk hbox; have GW173 := gS w hg (lU); have GE173 := gS w hg (lU); replace HB := Aside0.mk (below_step (lU) hb); clear hb hbox hg) | ((with_reducible refine gate_dst (N := 3) rfl ?_); refine box_event rfl (N := 3) rfl (cs := #[.string a1_0, .int .i64 a1_1, .int .i64 a1_2, .int .i64 a1_3]) (t := 77) sE ?_; intro gb174 hg w8 hbox hb; have BK174 := Aside0.mk hbox; have GW174 := gS w hg (lU1 GE173.out); have GE174 := gS w hg (lU1 GE173.out); replace HB := Aside0.mk (below_step (lU1 GE173.out) hb); have NB173_174 := nL hg (bU BK173.out); have NB174_173 := nG hg (bU BK173.out); replace BK173 := Aside0.mk (blk_below (bU BK173.out) hb); clear hb hbox hg; have hnb9 := NB173_174.out; have hnc9 := NB174_173.out; have hcz10_0 : w8.cell? ⟨gb173, 0, none⟩ = some (.string a0_0) := (blk_cell BK173.out 0).trans rfl; have hcz10_1 : w8.cell? ⟨gb173, 1, none⟩ = some (.int .i64 a0_1) := (blk_cell BK173.out 1).trans rfl; have hcz10_2 : w8.cell? ⟨gb173, 2, none⟩ = some (.int .i64 a0_2) := (blk_cell BK173.out 2).trans rfl; have hcz10_3 : w8.cell? ⟨gb173, 3, none⟩ = some (.int .i64 a0_3) := (blk_cell BK173.out 3).trans rfl; have hfz10_0 := blk_frozen BK173.out 0; have hfz10_1 := blk_frozen BK173.out 1; have hfz10_2 := blk_frozen BK173.out 2; have hfz10_3 := blk_frozen BK173.out 3; have hcz11_0 : w8.cell? ⟨gb174, 0, none⟩ = some (.string a1_0) := (blk_cell BK174.out 0).trans rfl; have hcz11_1 : w8.cell? ⟨gb174, 1, none⟩ = some (.int .i64 a1_1) := (blk_cell BK174.out 1).trans rfl; have hcz11_2 : w8.cell? ⟨gb174, 2, none⟩ = some (.int .i64 a1_2) := (blk_cell BK174.out 2).trans rfl; have hcz11_3 : w8.cell? ⟨gb174, 3, none⟩ = some (.int .i64 a1_3) := (blk_cell BK174.out 3).trans rfl; have hfz11_0 := blk_frozen BK174.out 0; have hfz11_1 := blk_frozen BK174.out 1; have hfz11_2 := blk_frozen BK174.out 2; have hfz11_3 := blk_frozen BK174.out 3))
     go_ret
     exact ⟨eE, lU2 GE173.out GE174.out⟩
    ·rw [if_neg c6] at H
     have c6b0 : (a0_3 == a1_3) = false := beq_eq_false_iff_ne.mpr c6
     have c6b1 : (a0_3 != a1_3) = true := bne_iff_ne.mpr c6
     obtain rfl := Option.some.inj H
     go_enter Try.func85, Try.ntmps85
     go_wp2_with (first | ((with_reducible refine gate_dst (N := 2) rfl ?_); refine box_event rfl (N := 2) rfl (cs := #[.string a0_0, .int .i64 a0_1, .int .i64 a0_2, .int .i64 a0_3]) (t := 77) sE ?_; intro gb173 hg w12 hbox hb; have BK173 := Aside0.mk hbox; have GW173 := gS w hg (lU); have GE173 := gS w hg (lU); replace HB := Aside0.mk (below_step (lU) hb); clear hb hbox hg) | ((with_reducible refine gate_dst (N := 3) rfl ?_); refine box_event rfl (N := 3) rfl (cs := #[.string a1_0, .int .i64 a1_1, .int .i64 a1_2, .int .i64 a1_3]) (t := 77) sE ?_; intro gb174 hg w13 hbox hb; have BK174 := Aside0.mk hbox; have GW174 := gS w hg (lU1 GE173.out); have GE174 := gS w hg (lU1 GE173.out); replace HB := Aside0.mk (below_step (lU1 GE173.out) hb); have NB173_174 := nL hg (bU BK173.out); have NB174_173 := nG hg (bU BK173.out); replace BK173 := Aside0.mk (blk_below (bU BK173.out) hb); clear hb hbox hg; have hnb14 := NB173_174.out; have hnc14 := NB174_173.out; have hcz15_0 : w13.cell? ⟨gb173, 0, none⟩ = some (.string a0_0) := (blk_cell BK173.out 0).trans rfl; have hcz15_1 : w13.cell? ⟨gb173, 1, none⟩ = some (.int .i64 a0_1) := (blk_cell BK173.out 1).trans rfl; have hcz15_2 : w13.cell? ⟨gb173, 2, none⟩ = some (.int .i64 a0_2) := (blk_cell BK173.out 2).trans rfl; have hcz15_3 : w13.cell? ⟨gb173, 3, none⟩ = some (.int .i64 a0_3) := (blk_cell BK173.out 3).trans rfl; have hfz15_0 := blk_frozen BK173.out 0; have hfz15_1 := blk_frozen BK173.out 1; have hfz15_2 := blk_frozen BK173.out 2; have hfz15_3 := blk_frozen BK173.out 3; have hcz16_0 : w13.cell? ⟨gb174, 0, none⟩ = some (.string a1_0) := (blk_cell BK174.out 0).trans rfl; have hcz16_1 : w13.cell? ⟨gb174, 1, none⟩ = some (.int .i64 a1_1) := (blk_cell BK174.out 1).trans rfl; have hcz16_2 : w13.cell? ⟨gb174, 2, none⟩ = some (.int .i64 a1_2) := (blk_cell BK174.out 2).trans rfl; have hcz16_3 : w13.cell? ⟨gb174, 3, none⟩ = some (.int .i64 a1_3) := (blk_cell BK174.out 3).trans rfl; have hfz16_0 := blk_frozen BK174.out 0; have hfz16_1 := blk_frozen BK174.out 1; have hfz16_2 := blk_frozen BK174.out 2; have hfz16_3 := blk_frozen BK174.out 3))
     go_ret
     exact ⟨eE, lU2 GE173.out GE174.out⟩
   ·rw [if_neg c5] at H
    have c5b0 : (a0_2 == a1_2) = false := beq_eq_false_iff_ne.mpr c5
    have c5b1 : (a0_2 != a1_2) = true := bne_iff_ne.mpr c5
    obtain rfl := Option.some.inj H
    go_enter Try.func85, Try.ntmps85
    go_wp2_with (first | ((with_reducible refine gate_dst (N := 2) rfl ?_); refine box_event rfl (N := 2) rfl (cs := #[.string a0_0, .int .i64 a0_1, .int .i64 a0_2, .int .i64 a0_3]) (t := 77) sE ?_; intro gb173 hg w17 hbox hb; have BK173 := Aside0.mk hbox; have GW173 := gS w hg (lU); have GE173 := gS w hg (lU); replace HB := Aside0.mk (below_step (lU) hb); clear hb hbox hg) | ((with_reducible refine gate_dst (N := 3) rfl ?_); refine box_event rfl (N := 3) rfl (cs := #[.string a1_0, .int .i64 a1_1, .int .i64 a1_2, .int .i64 a1_3]) (t := 77) sE ?_; intro gb174 hg w18 hbox hb; have BK174 := Aside0.mk hbox; have GW174 := gS w hg (lU1 GE173.out); have GE174 := gS w hg (lU1 GE173.out); replace HB := Aside0.mk (below_step (lU1 GE173.out) hb); have NB173_174 := nL hg (bU BK173.out); have NB174_173 := nG hg (bU BK173.out); replace BK173 := Aside0.mk (blk_below (bU BK173.out) hb); clear hb hbox hg; have hnb19 := NB173_174.out; have hnc19 := NB174_173.out; have hcz20_0 : w18.cell? ⟨gb173, 0, none⟩ = some (.string a0_0) := (blk_cell BK173.out 0).trans rfl; have hcz20_1 : w18.cell? ⟨gb173, 1, none⟩ = some (.int .i64 a0_1) := (blk_cell BK173.out 1).trans rfl; have hcz20_2 : w18.cell? ⟨gb173, 2, none⟩ = some (.int .i64 a0_2) := (blk_cell BK173.out 2).trans rfl; have hcz20_3 : w18.cell? ⟨gb173, 3, none⟩ = some (.int .i64 a0_3) := (blk_cell BK173.out 3).trans rfl; have hfz20_0 := blk_frozen BK173.out 0; have hfz20_1 := blk_frozen BK173.out 1; have hfz20_2 := blk_frozen BK173.out 2; have hfz20_3 := blk_frozen BK173.out 3; have hcz21_0 : w18.cell? ⟨gb174, 0, none⟩ = some (.string a1_0) := (blk_cell BK174.out 0).trans rfl; have hcz21_1 : w18.cell? ⟨gb174, 1, none⟩ = some (.int .i64 a1_1) := (blk_cell BK174.out 1).trans rfl; have hcz21_2 : w18.cell? ⟨gb174, 2, none⟩ = some (.int .i64 a1_2) := (blk_cell BK174.out 2).trans rfl; have hcz21_3 : w18.cell? ⟨gb174, 3, none⟩ = some (.int .i64 a1_3) := (blk_cell BK174.out 3).trans rfl; have hfz21_0 := blk_frozen BK174.out 0; have hfz21_1 := blk_frozen BK174.out 1; have hfz21_2 := blk_frozen BK174.out 2; have hfz21_3 := blk_frozen BK174.out 3))
    go_ret
    exact ⟨eE, lU2 GE173.out GE174.out⟩
  ·rw [if_neg c4] at H
   have c4b0 : (a0_1 == a1_1) = false := beq_eq_false_iff_ne.mpr c4
   have c4b1 : (a0_1 != a1_1) = true := bne_iff_ne.mpr c4
   obtain rfl := Option.some.inj H
   go_enter Try.func85, Try.ntmps85
   go_wp2_with (first | ((with_reducible refine gate_dst (N := 2) rfl ?_); refine box_event rfl (N := 2) rfl (cs := #[.string a0_0, .int .i64 a0_1, .int .i64 a0_2, .int .i64 a0_3]) (t := 77) sE ?_; intro gb173 hg w22 hbox hb; have BK173 := Aside0.mk hbox; have GW173 := gS w hg (lU); have GE173 := gS w hg (lU); replace HB := Aside0.mk (below_step (lU) hb); clear hb hbox hg) | ((with_reducible refine gate_dst (N := 3) rfl ?_); refine box_event rfl (N := 3) rfl (cs := #[.string a1_0, .int .i64 a1_1, .int .i64 a1_2, .int .i64 a1_3]) (t := 77) sE ?_; intro gb174 hg w23 hbox hb; have BK174 := Aside0.mk hbox; have GW174 := gS w hg (lU1 GE173.out); have GE174 := gS w hg (lU1 GE173.out); replace HB := Aside0.mk (below_step (lU1 GE173.out) hb); have NB173_174 := nL hg (bU BK173.out); have NB174_173 := nG hg (bU BK173.out); replace BK173 := Aside0.mk (blk_below (bU BK173.out) hb); clear hb hbox hg; have hnb24 := NB173_174.out; have hnc24 := NB174_173.out; have hcz25_0 : w23.cell? ⟨gb173, 0, none⟩ = some (.string a0_0) := (blk_cell BK173.out 0).trans rfl; have hcz25_1 : w23.cell? ⟨gb173, 1, none⟩ = some (.int .i64 a0_1) := (blk_cell BK173.out 1).trans rfl; have hcz25_2 : w23.cell? ⟨gb173, 2, none⟩ = some (.int .i64 a0_2) := (blk_cell BK173.out 2).trans rfl; have hcz25_3 : w23.cell? ⟨gb173, 3, none⟩ = some (.int .i64 a0_3) := (blk_cell BK173.out 3).trans rfl; have hfz25_0 := blk_frozen BK173.out 0; have hfz25_1 := blk_frozen BK173.out 1; have hfz25_2 := blk_frozen BK173.out 2; have hfz25_3 := blk_frozen BK173.out 3; have hcz26_0 : w23.cell? ⟨gb174, 0, none⟩ = some (.string a1_0) := (blk_cell BK174.out 0).trans rfl; have hcz26_1 : w23.cell? ⟨gb174, 1, none⟩ = some (.int .i64 a1_1) := (blk_cell BK174.out 1).trans rfl; have hcz26_2 : w23.cell? ⟨gb174, 2, none⟩ = some (.int .i64 a1_2) := (blk_cell BK174.out 2).trans rfl; have hcz26_3 : w23.cell? ⟨gb174, 3, none⟩ = some (.int .i64 a1_3) := (blk_cell BK174.out 3).trans rfl; have hfz26_0 := blk_frozen BK174.out 0; have hfz26_1 := blk_frozen BK174.out 1; have hfz26_2 := blk_frozen BK174.out 2; have hfz26_3 := blk_frozen BK174.out 3))
   go_ret
   exact ⟨eE, lU2 GE173.out GE174.out⟩
 ·rw [if_neg c3] at H
  have c3b0 : (a0_0.toList == a1_0.toList) = false := beq_eq_false_iff_ne.mpr c3
  have c3b1 : (a0_0.toList != a1_0.toList) = true := bne_iff_ne.mpr c3
  obtain rfl := Option.some.inj H
  go_enter Try.func85, Try.ntmps85
  go_wp2_with (first | ((with_reducible refine gate_dst (N := 2) rfl ?_); refine box_event rfl (N := 2) rfl (cs := #[.string a0_0, .int .i64 a0_1, .int .i64 a0_2, .int .i64 a0_3]) (t := 77) sE ?_; intro gb173 hg w27 hbox hb; have BK173 := Aside0.mk hbox; have GW173 := gS w hg (lU); have GE173 := gS w hg (lU); replace HB := Aside0.mk (below_step (lU) hb); clear hb hbox hg) | ((with_reducible refine gate_dst (N := 3) rfl ?_); refine box_event rfl (N := 3) rfl (cs := #[.string a1_0, .int .i64 a1_1, .int .i64 a1_2, .int .i64 a1_3]) (t := 77) sE ?_; intro gb174 hg w28 hbox hb; have BK174 := Aside0.mk hbox; have GW174 := gS w hg (lU1 GE173.out); have GE174 := gS w hg (lU1 GE173.out); replace HB := Aside0.mk (below_step (lU1 GE173.out) hb); have NB173_174 := nL hg (bU BK173.out); have NB174_173 := nG hg (bU BK173.out); replace BK173 := Aside0.mk (blk_below (bU BK173.out) hb); clear hb hbox hg; have hnb29 := NB173_174.out; have hnc29 := NB174_173.out; have hcz30_0 : w28.cell? ⟨gb173, 0, none⟩ = some (.string a0_0) := (blk_cell BK173.out 0).trans rfl; have hcz30_1 : w28.cell? ⟨gb173, 1, none⟩ = some (.int .i64 a0_1) := (blk_cell BK173.out 1).trans rfl; have hcz30_2 : w28.cell? ⟨gb173, 2, none⟩ = some (.int .i64 a0_2) := (blk_cell BK173.out 2).trans rfl; have hcz30_3 : w28.cell? ⟨gb173, 3, none⟩ = some (.int .i64 a0_3) := (blk_cell BK173.out 3).trans rfl; have hfz30_0 := blk_frozen BK173.out 0; have hfz30_1 := blk_frozen BK173.out 1; have hfz30_2 := blk_frozen BK173.out 2; have hfz30_3 := blk_frozen BK173.out 3; have hcz31_0 : w28.cell? ⟨gb174, 0, none⟩ = some (.string a1_0) := (blk_cell BK174.out 0).trans rfl; have hcz31_1 : w28.cell? ⟨gb174, 1, none⟩ = some (.int .i64 a1_1) := (blk_cell BK174.out 1).trans rfl; have hcz31_2 : w28.cell? ⟨gb174, 2, none⟩ = some (.int .i64 a1_2) := (blk_cell BK174.out 2).trans rfl; have hcz31_3 : w28.cell? ⟨gb174, 3, none⟩ = some (.int .i64 a1_3) := (blk_cell BK174.out 3).trans rfl; have hfz31_0 := blk_frozen BK174.out 0; have hfz31_1 := blk_frozen BK174.out 1; have hfz31_2 := blk_frozen BK174.out 2; have hfz31_3 := blk_frozen BK174.out 3))
  go_ret
  exact ⟨eE, lU2 GE173.out GE174.out⟩
def laws_eqResidentS.l0 : Nat → List (S77) → List (S77) → Int → Option (Bool)
 | 0, _, _, _ => none
 | k + 1, x0, x1, x5 => if x5 < (x0.length : Int) then (if 0 ≤ x5 then (if x5 < (x1.length : Int) then ((laws_eqResident.f ((rd_T77 x0 x5).f0) ((rd_T77 x0 x5).f1) ((rd_T77 x0 x5).f2) ((rd_T77 x0 x5).f3) ((rd_T77 x1 x5).f0) ((rd_T77 x1 x5).f1) ((rd_T77 x1 x5).f2) ((rd_T77 x1 x5).f3)).bind fun t177 => (if t177 = true then (laws_eqResidentS.l0 k x0 x1 (wrap64 (x5 + 1))) else (some false))) else (none)) else (none)) else (some true)
def laws_eqResidentS.f (k : Nat) (l0 : List (S77)) (l1 : List (S77)) : Option (Bool) := if (l0.length : Int) = (l1.length : Int) then (laws_eqResidentS.l0 k l0 l1 0) else (some false)
theorem laws_eqResidentS.mono_l : ∀ k, (∀ y0 y1 y2, LeO (laws_eqResidentS.l0 k y0 y1 y2) (laws_eqResidentS.l0 (k + 1) y0 y1 y2))
 | 0 => fun _ _ _ r h => by simp [laws_eqResidentS.l0] at h
 | k + 1 => by
  have ih0 := laws_eqResidentS.mono_l k
  ·intro y0 y1 y2
   unfold laws_eqResidentS.l0
   repeat' first
   | (with_reducible exact ih0 _ _ _)
   | (with_reducible exact LeO.refl _)
   | (with_reducible exact LeO.none _)
   | (with_reducible refine LeO.ite ?_ ?_)
   | (with_reducible refine LeO.bind ?_ (fun _ => ?_))
   | exact ih0 _ _ _
   | exact LeO.none _
   | refine LeO.ite ?_ ?_
   | refine LeO.bind ?_ (fun _ => ?_)
theorem laws_eqResidentS.mono : ∀ a0 a1 k, LeO (laws_eqResidentS.f k a0 a1) (laws_eqResidentS.f (k + 1) a0 a1) := by
 intro a0 a1 k
 have ih0 := laws_eqResidentS.mono_l k
 unfold laws_eqResidentS.f
 repeat' first
   | (with_reducible exact ih0 _ _ _)
   | (with_reducible exact LeO.refl _)
   | (with_reducible exact LeO.none _)
   | (with_reducible refine LeO.ite ?_ ?_)
   | (with_reducible refine LeO.bind ?_ (fun _ => ?_))
   | exact ih0 _ _ _
   | exact LeO.none _
   | refine LeO.ite ?_ ?_
   | refine LeO.bind ?_ (fun _ => ?_)
def laws_eqResidentS.T6 : Bool × List (List Nat × List Nat) := (true, [([], []), ([], []), ([0, 1], [0, 1]), ([2], [2]), ([], []), ([], []), ([4, 5], [4, 5]), ([6], [6]), ([3, 7], [3, 7]), ([8], [8])])
def laws_eqResidentS.B6 : List Nat := [0, 0, 3, 7, 0, 0, 48, 112, 255, 511]
theorem laws_eqResidentS.tab6 : rtab .any (opsOf Try.f51 6) = laws_eqResidentS.T6 := by kernel_rfl
theorem laws_eqResidentS.bits6 : waitsOk laws_eqResidentS.T6.2 laws_eqResidentS.B6 = true := by kernel_rfl
set_option maxHeartbeats 8000000 in
set_option maxRecDepth 100000 in
theorem laws_eqResidentS.calls (k : Nat) (A0 : Option Addr) (c0 : Nat) (l0 : List (S77)) (A1 : Option Addr) (c1 : Nat) (l1 : List (S77)) (r : Bool) (w : World) (hr0 : Kd.C k77 w A0 l0.length l0) (hc0 : l0.length ≤ c0) (hr1 : Kd.C k77 w A1 l1.length l1) (hc1 : l1.length ≤ c1) (h : laws_eqResidentS.f k l0 l1 = some r) :
  Calls Try.prog 51 #[.slice A0 l0.length c0, .slice A1 l1.length c1] w fun e w' => e = .returned (.bool r) ∧ Below w.heap.size w w' := by
 have hu77 := Try.underlying77
 have HR0 := Aside0.mk hr0
 have HC0 := Aside0.mk hc0
 clear hr0 hc0
 have HR1 := Aside0.mk hr1
 have HC1 := Aside0.mk hc1
 clear hr1 hc1
 have HB := Aside0.mk (Below.refl w.heap.size w)
 have H : (if (l0.length : Int) = (l1.length : Int) then (laws_eqResidentS.l0 k l0 l1 0) else (some false)) = some r := h
 clear h
 by_cases c3 : (l0.length : Int) = (l1.length : Int)
 ·rw [if_pos c3] at H
  have c3b0 : ((l0.length : Int) == (l1.length : Int)) = true := beq_iff_eq.mpr c3
  have c3b1 : ((l0.length : Int) != (l1.length : Int)) = false := bne_eq_false_iff_eq.mpr c3
  have c3b2 : (l0.length == l1.length) = true := by first | simpa using c3 | (simp at c3 ⊢; omega)
  clear c3
  have H' := Aside0.mk H
  clear H
  go_enter Try.func51, Try.ntmps51
  go_wp2
  go_loopg [5] k (fun kq v5 w' => ∃ (x5_1 : Int), v5 = .int .i64 x5_1 ∧ Aside0 (laws_eqResidentS.l0 kq l0 l1 x5_1 = some r) ∧ Aside0 (kq ≤ k) ∧ Aside0 (Below w.heap.size w w'))
  case atStart => exact ⟨(0), tE, H', ⟨Nat.le_refl _⟩, ⟨by repeat (first | (with_reducible first | exact HB.out | apply below_alloc | apply pw_below_drewN | apply below_drew1) | exact HB.out)⟩⟩
  case round =>
   clear H'
   try clear c1
   try clear p2
   try clear c3
   try clear c3b0
   try clear c3b1
   try clear c3b2
   obtain ⟨x5_1, rfl, HA, HK1, HB⟩ := hrel
   cases gk with
   | zero => exact absurd HA.out (by simp [laws_eqResidentS.l0])
   | succ k1 =>
    have H := HA.out
    clear HA
    simp only [laws_eqResidentS.l0] at H
    by_cases c4 : x5_1 < (l0.length : Int)
    ·rw [if_pos c4] at H
     have c4b0 : decide (x5_1 < (l0.length : Int)) = true := decide_eq_true c4
     clear c4
     by_cases c5 : 0 ≤ x5_1
     ·rw [if_pos c5] at H
      have c5b0 : decide (0 ≤ x5_1) = true := decide_eq_true c5
      clear c5
      by_cases c6 : x5_1 < (l1.length : Int)
      ·rw [if_pos c6] at H
       have c6b0 : decide (x5_1 < (l1.length : Int)) = true := decide_eq_true c6
       clear c6
       replace H := Option.bind_eq_some_iff.mp H
       obtain ⟨t177, A70, H⟩ := H
       replace H : (if t177 = true then (laws_eqResidentS.l0 k1 l0 l1 (wrap64 (x5_1 + 1))) else (some false)) = some r := H
       have A7 := Aside0.mk A70
       clear A70
       by_cases c8 : t177 = true
       ·subst c8
        have H1 : (laws_eqResidentS.l0 k1 l0 l1 (wrap64 (x5_1 + 1))) = some r := by rw [if_pos rfl] at H; exact H
        clear H
        have H := H1
        clear H1
        have H' := Aside0.mk H
        clear H
        try go_wp2
        replace HB := Aside0.mk (below_drew1 HB.out)
        have p175 : 0 ≤ (x5_1 : Int) := of_decide_eq_true hE
        have q175 : x5_1 < (l0.length : Int) := of_decide_eq_true hE
        obtain ⟨ad175, e175, hx175_0, hx175_1, hx175_2, hx175_3⟩ := at_T77 HR0.out x5_1 p175 q175
        have hw175_3 := hx175_3
        have hw175_2 := hx175_2
        have hw175_1 := hx175_1
        have hw175_0 := hx175_0
        cases e175
        replace hx175_0 := (HB.out.cell (World.block_lt_of_cell? w _ hx175_0)).trans hx175_0
        replace hx175_1 := (HB.out.cell (World.block_lt_of_cell? w _ hx175_1)).trans hx175_1
        replace hx175_2 := (HB.out.cell (World.block_lt_of_cell? w _ hx175_2)).trans hx175_2
        replace hx175_3 := (HB.out.cell (World.block_lt_of_cell? w _ hx175_3)).trans hx175_3
        replace p175 := eq_true p175
        replace q175 := eq_true q175
        have p176 : 0 ≤ (x5_1 : Int) := of_decide_eq_true hE
        have q176 : x5_1 < (l1.length : Int) := of_decide_eq_true hE
        obtain ⟨ad176, e176, hx176_0, hx176_1, hx176_2, hx176_3⟩ := at_T77 HR1.out x5_1 p176 q176
        have hw176_3 := hx176_3
        have hw176_2 := hx176_2
        have hw176_1 := hx176_1
        have hw176_0 := hx176_0
        cases e176
        replace hx176_0 := (HB.out.cell (World.block_lt_of_cell? w _ hx176_0)).trans hx176_0
        replace hx176_1 := (HB.out.cell (World.block_lt_of_cell? w _ hx176_1)).trans hx176_1
        replace hx176_2 := (HB.out.cell (World.block_lt_of_cell? w _ hx176_2)).trans hx176_2
        replace hx176_3 := (HB.out.cell (World.block_lt_of_cell? w _ hx176_3)).trans hx176_3
        replace p176 := eq_true p176
        replace q176 := eq_true q176
        refine start_ (n := 10) (S := fun w' => w'.cell? (ad175.add ((x5_1).toNat * 4)) = some (.string ((rd_T77 l0 x5_1).f0)) ∧ w'.cell? ⟨(ad175.add ((x5_1).toNat * 4)).block, (ad175.add ((x5_1).toNat * 4)).off + 1, none⟩ = some (.int .i64 ((rd_T77 l0 x5_1).f1)) ∧ w'.cell? ⟨(ad175.add ((x5_1).toNat * 4)).block, (ad175.add ((x5_1).toNat * 4)).off + 2, none⟩ = some (.int .i64 ((rd_T77 l0 x5_1).f2)) ∧ w'.cell? ⟨(ad175.add ((x5_1).toNat * 4)).block, (ad175.add ((x5_1).toNat * 4)).off + 3, none⟩ = some (.int .i64 ((rd_T77 l0 x5_1).f3)) ∧ w'.cell? (ad176.add ((x5_1).toNat * 4)) = some (.string ((rd_T77 l1 x5_1).f0)) ∧ w'.cell? ⟨(ad176.add ((x5_1).toNat * 4)).block, (ad176.add ((x5_1).toNat * 4)).off + 1, none⟩ = some (.int .i64 ((rd_T77 l1 x5_1).f1)) ∧ w'.cell? ⟨(ad176.add ((x5_1).toNat * 4)).block, (ad176.add ((x5_1).toNat * 4)).off + 2, none⟩ = some (.int .i64 ((rd_T77 l1 x5_1).f2)) ∧ w'.cell? ⟨(ad176.add ((x5_1).toNat * 4)).block, (ad176.add ((x5_1).toNat * 4)).off + 3, none⟩ = some (.int .i64 ((rd_T77 l1 x5_1).f3))) (ds := []) #[false, false, false, false, false, false, false, false, false, false] (by kernel_rfl) rfl rfl ⟨((HB.out.cell (World.block_lt_of_cell? w _ hw175_0)).trans hw175_0), ((HB.out.cell (World.block_lt_of_cell? w _ hw175_1)).trans hw175_1), ((HB.out.cell (World.block_lt_of_cell? w _ hw175_2)).trans hw175_2), ((HB.out.cell (World.block_lt_of_cell? w _ hw175_3)).trans hw175_3), ((HB.out.cell (World.block_lt_of_cell? w _ hw176_0)).trans hw176_0), ((HB.out.cell (World.block_lt_of_cell? w _ hw176_1)).trans hw176_1), ((HB.out.cell (World.block_lt_of_cell? w _ hw176_2)).trans hw176_2), ((HB.out.cell (World.block_lt_of_cell? w _ hw176_3)).trans hw176_3)⟩ (fun hHeld => ?_); refine with_tabW laws_eqResidentS.tab6 laws_eqResidentS.bits6 (fun HT_ HW_ => ?_)
        generalize wr.drew = w9 at HB hx175_0 hx175_1 hx175_2 hx175_3 hx176_0 hx176_1 hx176_2 hx176_3 hHeld ⊢
        refine pureA 0 17 (bz 10 1) rfl rfl (any_of HT_.out (by kernel_rfl)) ?_
        refine pureA 1 18 (bz 10 3) rfl rfl (any_of HT_.out (by kernel_rfl)) ?_
        refine pureA 2 19 (bz 10 7) rfl rfl (any_of HT_.out (by kernel_rfl)) ?_
        refine pureA 4 21 (bz 10 23) rfl rfl (any_of HT_.out (by kernel_rfl)) ?_
        refine pureA 5 22 (bz 10 55) rfl rfl (any_of HT_.out (by kernel_rfl)) ?_
        refine pureA 6 23 (bz 10 119) rfl rfl (any_of HT_.out (by kernel_rfl)) ?_
        refine takeA 3 20 (bz 10 127) rfl rfl (take_ofW HT_.out HW_.out (by kernel_rfl)) hHeld (by rintro w' ⟨s0, s1, s2, s3, s4, s5, s6, s7⟩; go_simp; with_reducible rfl) ?_
        refine takeA 7 24 (bz 10 255) rfl rfl (take_ofW HT_.out HW_.out (by kernel_rfl)) hHeld (by rintro w' ⟨s0, s1, s2, s3, s4, s5, s6, s7⟩; go_simp; with_reducible rfl) ?_
        refine one_ (i := 8) (N := some 25) (bz 10 511) rfl rfl (one_of HT_.out (by kernel_rfl)) (by decide) (fun K hK => ?_)
        refine goes_ Try.func85 (by kernel_rfl) rfl #[.agg #[.string ((rd_T77 l0 x5_1).f0), .int .i64 ((rd_T77 l0 x5_1).f1), .int .i64 ((rd_T77 l0 x5_1).f2), .int .i64 ((rd_T77 l0 x5_1).f3)], .agg #[.string ((rd_T77 l1 x5_1).f0), .int .i64 ((rd_T77 l1 x5_1).f1), .int .i64 ((rd_T77 l1 x5_1).f2), .int .i64 ((rd_T77 l1 x5_1).f3)]] (by rfl) rfl rfl aE ?_
        with_reducible refine (laws_eqResident.calls ((rd_T77 l0 x5_1).f0) ((rd_T77 l0 x5_1).f1) ((rd_T77 l0 x5_1).f2) ((rd_T77 l0 x5_1).f3) ((rd_T77 l1 x5_1).f0) ((rd_T77 l1 x5_1).f1) ((rd_T77 l1 x5_1).f2) ((rd_T77 l1 x5_1).f3) true _ A7.out).mono ?_
        rintro e w10 ⟨rfl, hb⟩
        refine ⟨_, rfl, ?_⟩
        replace HB := Aside0.mk (below_step (lU) hb)
        (try clear hb)
        (try clear hb2)
        (try clear hk)
        (try clear hi)
        refine hK.out _ _ ⟨((HB.out.cell (World.block_lt_of_cell? w _ hw175_0)).trans hw175_0), ((HB.out.cell (World.block_lt_of_cell? w _ hw175_1)).trans hw175_1), ((HB.out.cell (World.block_lt_of_cell? w _ hw175_2)).trans hw175_2), ((HB.out.cell (World.block_lt_of_cell? w _ hw175_3)).trans hw175_3), ((HB.out.cell (World.block_lt_of_cell? w _ hw176_0)).trans hw176_0), ((HB.out.cell (World.block_lt_of_cell? w _ hw176_1)).trans hw176_1), ((HB.out.cell (World.block_lt_of_cell? w _ hw176_2)).trans hw176_2), ((HB.out.cell (World.block_lt_of_cell? w _ hw176_3)).trans hw176_3)⟩ (fun hHeld => ?_)
        clear hK K
        refine norm_ (a' := ?_) ?_ ?_
        rotate_left
        ·show Act.put _ (some 25) _ = _
         simp only [Act.put, List.setIfInBounds_toArray, List.set_cons_zero, List.set_cons_succ, i64_w, i32_w]
         rfl
        refine pureA 9 26 (bz 10 1023) rfl rfl (any_of HT_.out (by kernel_rfl)) ?_
        refine done_ (done_of HT_.out (by kernel_rfl)) ?_
        try go_wp2
        go_roundg k1
        case measure => have := HK1.out; omega
        case rel => exact ⟨(wrap64 (x5_1 + 1)), tE, H', ⟨by have := HK1.out; omega⟩, ⟨by repeat (first | (with_reducible first | exact HB.out | apply below_alloc | apply pw_below_drewN | apply below_drew1) | exact HB.out)⟩⟩
       ·replace c8 := Bool.eq_false_iff.mpr c8
        subst c8
        have H1 : (some false) = some r := by rw [if_neg (show ¬ (false = true) by decide)] at H; exact H
        clear H
        have H := H1
        clear H1
        obtain rfl := Option.some.inj H
        try go_wp2
        replace HB := Aside0.mk (below_drew1 HB.out)
        have p175 : 0 ≤ (x5_1 : Int) := of_decide_eq_true hE
        have q175 : x5_1 < (l0.length : Int) := of_decide_eq_true hE
        obtain ⟨ad175, e175, hx175_0, hx175_1, hx175_2, hx175_3⟩ := at_T77 HR0.out x5_1 p175 q175
        have hw175_3 := hx175_3
        have hw175_2 := hx175_2
        have hw175_1 := hx175_1
        have hw175_0 := hx175_0
        cases e175
        replace hx175_0 := (HB.out.cell (World.block_lt_of_cell? w _ hx175_0)).trans hx175_0
        replace hx175_1 := (HB.out.cell (World.block_lt_of_cell? w _ hx175_1)).trans hx175_1
        replace hx175_2 := (HB.out.cell (World.block_lt_of_cell? w _ hx175_2)).trans hx175_2
        replace hx175_3 := (HB.out.cell (World.block_lt_of_cell? w _ hx175_3)).trans hx175_3
        replace p175 := eq_true p175
        replace q175 := eq_true q175
        have p176 : 0 ≤ (x5_1 : Int) := of_decide_eq_true hE
        have q176 : x5_1 < (l1.length : Int) := of_decide_eq_true hE
        obtain ⟨ad176, e176, hx176_0, hx176_1, hx176_2, hx176_3⟩ := at_T77 HR1.out x5_1 p176 q176
        have hw176_3 := hx176_3
        have hw176_2 := hx176_2
        have hw176_1 := hx176_1
        have hw176_0 := hx176_0
        cases e176
        replace hx176_0 := (HB.out.cell (World.block_lt_of_cell? w _ hx176_0)).trans hx176_0
        replace hx176_1 := (HB.out.cell (World.block_lt_of_cell? w _ hx176_1)).trans hx176_1
        replace hx176_2 := (HB.out.cell (World.block_lt_of_cell? w _ hx176_2)).trans hx176_2
        replace hx176_3 := (HB.out.cell (World.block_lt_of_cell? w _ hx176_3)).trans hx176_3
        replace p176 := eq_true p176
        replace q176 := eq_true q176
        refine start_ (n := 10) (S := fun w' => w'.cell? (ad175.add ((x5_1).toNat * 4)) = some (.string ((rd_T77 l0 x5_1).f0)) ∧ w'.cell? ⟨(ad175.add ((x5_1).toNat * 4)).block, (ad175.add ((x5_1).toNat * 4)).off + 1, none⟩ = some (.int .i64 ((rd_T77 l0 x5_1).f1)) ∧ w'.cell? ⟨(ad175.add ((x5_1).toNat * 4)).block, (ad175.add ((x5_1).toNat * 4)).off + 2, none⟩ = some (.int .i64 ((rd_T77 l0 x5_1).f2)) ∧ w'.cell? ⟨(ad175.add ((x5_1).toNat * 4)).block, (ad175.add ((x5_1).toNat * 4)).off + 3, none⟩ = some (.int .i64 ((rd_T77 l0 x5_1).f3)) ∧ w'.cell? (ad176.add ((x5_1).toNat * 4)) = some (.string ((rd_T77 l1 x5_1).f0)) ∧ w'.cell? ⟨(ad176.add ((x5_1).toNat * 4)).block, (ad176.add ((x5_1).toNat * 4)).off + 1, none⟩ = some (.int .i64 ((rd_T77 l1 x5_1).f1)) ∧ w'.cell? ⟨(ad176.add ((x5_1).toNat * 4)).block, (ad176.add ((x5_1).toNat * 4)).off + 2, none⟩ = some (.int .i64 ((rd_T77 l1 x5_1).f2)) ∧ w'.cell? ⟨(ad176.add ((x5_1).toNat * 4)).block, (ad176.add ((x5_1).toNat * 4)).off + 3, none⟩ = some (.int .i64 ((rd_T77 l1 x5_1).f3))) (ds := []) #[false, false, false, false, false, false, false, false, false, false] (by kernel_rfl) rfl rfl ⟨((HB.out.cell (World.block_lt_of_cell? w _ hw175_0)).trans hw175_0), ((HB.out.cell (World.block_lt_of_cell? w _ hw175_1)).trans hw175_1), ((HB.out.cell (World.block_lt_of_cell? w _ hw175_2)).trans hw175_2), ((HB.out.cell (World.block_lt_of_cell? w _ hw175_3)).trans hw175_3), ((HB.out.cell (World.block_lt_of_cell? w _ hw176_0)).trans hw176_0), ((HB.out.cell (World.block_lt_of_cell? w _ hw176_1)).trans hw176_1), ((HB.out.cell (World.block_lt_of_cell? w _ hw176_2)).trans hw176_2), ((HB.out.cell (World.block_lt_of_cell? w _ hw176_3)).trans hw176_3)⟩ (fun hHeld => ?_); refine with_tabW laws_eqResidentS.tab6 laws_eqResidentS.bits6 (fun HT_ HW_ => ?_)
        generalize wr.drew = w11 at HB hx175_0 hx175_1 hx175_2 hx175_3 hx176_0 hx176_1 hx176_2 hx176_3 hHeld ⊢
        refine pureA 0 17 (bz 10 1) rfl rfl (any_of HT_.out (by kernel_rfl)) ?_
        refine pureA 1 18 (bz 10 3) rfl rfl (any_of HT_.out (by kernel_rfl)) ?_
        refine pureA 2 19 (bz 10 7) rfl rfl (any_of HT_.out (by kernel_rfl)) ?_
        refine pureA 4 21 (bz 10 23) rfl rfl (any_of HT_.out (by kernel_rfl)) ?_
        refine pureA 5 22 (bz 10 55) rfl rfl (any_of HT_.out (by kernel_rfl)) ?_
        refine pureA 6 23 (bz 10 119) rfl rfl (any_of HT_.out (by kernel_rfl)) ?_
        refine takeA 3 20 (bz 10 127) rfl rfl (take_ofW HT_.out HW_.out (by kernel_rfl)) hHeld (by rintro w' ⟨s0, s1, s2, s3, s4, s5, s6, s7⟩; go_simp; with_reducible rfl) ?_
        refine takeA 7 24 (bz 10 255) rfl rfl (take_ofW HT_.out HW_.out (by kernel_rfl)) hHeld (by rintro w' ⟨s0, s1, s2, s3, s4, s5, s6, s7⟩; go_simp; with_reducible rfl) ?_
        refine one_ (i := 8) (N := some 25) (bz 10 511) rfl rfl (one_of HT_.out (by kernel_rfl)) (by decide) (fun K hK => ?_)
        refine goes_ Try.func85 (by kernel_rfl) rfl #[.agg #[.string ((rd_T77 l0 x5_1).f0), .int .i64 ((rd_T77 l0 x5_1).f1), .int .i64 ((rd_T77 l0 x5_1).f2), .int .i64 ((rd_T77 l0 x5_1).f3)], .agg #[.string ((rd_T77 l1 x5_1).f0), .int .i64 ((rd_T77 l1 x5_1).f1), .int .i64 ((rd_T77 l1 x5_1).f2), .int .i64 ((rd_T77 l1 x5_1).f3)]] (by rfl) rfl rfl aE ?_
        with_reducible refine (laws_eqResident.calls ((rd_T77 l0 x5_1).f0) ((rd_T77 l0 x5_1).f1) ((rd_T77 l0 x5_1).f2) ((rd_T77 l0 x5_1).f3) ((rd_T77 l1 x5_1).f0) ((rd_T77 l1 x5_1).f1) ((rd_T77 l1 x5_1).f2) ((rd_T77 l1 x5_1).f3) false _ A7.out).mono ?_
        rintro e w12 ⟨rfl, hb⟩
        refine ⟨_, rfl, ?_⟩
        replace HB := Aside0.mk (below_step (lU) hb)
        (try clear hb)
        (try clear hb2)
        (try clear hk)
        (try clear hi)
        refine hK.out _ _ ⟨((HB.out.cell (World.block_lt_of_cell? w _ hw175_0)).trans hw175_0), ((HB.out.cell (World.block_lt_of_cell? w _ hw175_1)).trans hw175_1), ((HB.out.cell (World.block_lt_of_cell? w _ hw175_2)).trans hw175_2), ((HB.out.cell (World.block_lt_of_cell? w _ hw175_3)).trans hw175_3), ((HB.out.cell (World.block_lt_of_cell? w _ hw176_0)).trans hw176_0), ((HB.out.cell (World.block_lt_of_cell? w _ hw176_1)).trans hw176_1), ((HB.out.cell (World.block_lt_of_cell? w _ hw176_2)).trans hw176_2), ((HB.out.cell (World.block_lt_of_cell? w _ hw176_3)).trans hw176_3)⟩ (fun hHeld => ?_)
        clear hK K
        refine norm_ (a' := ?_) ?_ ?_
        rotate_left
        ·show Act.put _ (some 25) _ = _
         simp only [Act.put, List.setIfInBounds_toArray, List.set_cons_zero, List.set_cons_succ, i64_w, i32_w]
         rfl
        refine pureA 9 26 (bz 10 1023) rfl rfl (any_of HT_.out (by kernel_rfl)) ?_
        refine done_ (done_of HT_.out (by kernel_rfl)) ?_
        try go_wp2
        go_ret
        exact ⟨eE, lU⟩
      ·rw [if_neg c6] at H
       exact absurd H (by simp)
     ·rw [if_neg c5] at H
      exact absurd H (by simp)
    ·rw [if_neg c4] at H
     have c4b0 : decide (x5_1 < (l0.length : Int)) = false := decide_eq_false c4
     clear c4
     obtain rfl := Option.some.inj H
     go_wp2
     go_ret
     exact ⟨eE, lU⟩
 ·rw [if_neg c3] at H
  have c3b0 : ((l0.length : Int) == (l1.length : Int)) = false := beq_eq_false_iff_ne.mpr c3
  have c3b1 : ((l0.length : Int) != (l1.length : Int)) = true := bne_iff_ne.mpr c3
  have c3b2 : (l0.length == l1.length) = false := by first | simpa using c3 | (simp at c3 ⊢; omega)
  obtain rfl := Option.some.inj H
  go_enter Try.func51, Try.ntmps51
  go_wp2
  go_ret
  exact ⟨eE, lU⟩
def laws_eqStore.f (k : Nat) (a0_0 : Int) (a0_1 : Int) (l0_2 : List (S77)) (a1_0 : Int) (a1_1 : Int) (l1_2 : List (S77)) : Option (Bool) := if a0_0 = a1_0 then (if a0_1 = a1_1 then ((laws_eqResidentS.f k l0_2 l1_2).bind fun t180 => (if t180 = true then (some true) else (some false))) else (some false)) else (some false)
theorem laws_eqStore.mono : ∀ a0 a1 a2 a3 a4 a5 k, LeO (laws_eqStore.f k a0 a1 a2 a3 a4 a5) (laws_eqStore.f (k + 1) a0 a1 a2 a3 a4 a5) := by
 intro a0 a1 a2 a3 a4 a5 k
 unfold laws_eqStore.f
 repeat' first
   | (with_reducible exact laws_eqResidentS.mono _ _ _)
   | (with_reducible exact LeO.refl _)
   | (with_reducible exact LeO.none _)
   | (with_reducible refine LeO.ite ?_ ?_)
   | (with_reducible refine LeO.bind ?_ (fun _ => ?_))
   | exact laws_eqResidentS.mono _ _ _
   | exact LeO.none _
   | refine LeO.ite ?_ ?_
   | refine LeO.bind ?_ (fun _ => ?_)
set_option maxHeartbeats 8000000 in
set_option maxRecDepth 100000 in
theorem laws_eqStore.calls (k : Nat) (a0_0 : Int) (a0_1 : Int) (A0_2 : Option Addr) (c0_2 : Nat) (l0_2 : List (S77)) (a1_0 : Int) (a1_1 : Int) (A1_2 : Option Addr) (c1_2 : Nat) (l1_2 : List (S77)) (r : Bool) (w : World) (hr0_2 : Kd.C k77 w A0_2 l0_2.length l0_2) (hc0_2 : l0_2.length ≤ c0_2) (hr1_2 : Kd.C k77 w A1_2 l1_2.length l1_2) (hc1_2 : l1_2.length ≤ c1_2) (h : laws_eqStore.f k a0_0 a0_1 l0_2 a1_0 a1_1 l1_2 = some r) :
  Calls Try.prog 22 #[.agg #[.int .i64 a0_0, .int .i64 a0_1, .slice A0_2 l0_2.length c0_2], .agg #[.int .i64 a1_0, .int .i64 a1_1, .slice A1_2 l1_2.length c1_2]] w fun e w' => e = .returned (.bool r) ∧ Below w.heap.size w w' := by
 have hu42 := Try.underlying42
 have HR0_2 := Aside0.mk hr0_2
 have HC0_2 := Aside0.mk hc0_2
 clear hr0_2 hc0_2
 have HR1_2 := Aside0.mk hr1_2
 have HC1_2 := Aside0.mk hc1_2
 clear hr1_2 hc1_2
 have HB := Aside0.mk (Below.refl w.heap.size w)
 have H : (if a0_0 = a1_0 then (if a0_1 = a1_1 then ((laws_eqResidentS.f k l0_2 l1_2).bind fun t180 => (if t180 = true then (some true) else (some false))) else (some false)) else (some false)) = some r := h
 clear h
 by_cases c3 : a0_0 = a1_0
 ·rw [if_pos c3] at H
  have c3b0 : (a0_0 == a1_0) = true := beq_iff_eq.mpr c3
  have c3b1 : (a0_0 != a1_0) = false := bne_eq_false_iff_eq.mpr c3
  clear c3
  by_cases c4 : a0_1 = a1_1
  ·rw [if_pos c4] at H
   have c4b0 : (a0_1 == a1_1) = true := beq_iff_eq.mpr c4
   have c4b1 : (a0_1 != a1_1) = false := bne_eq_false_iff_eq.mpr c4
   clear c4
   replace H := Option.bind_eq_some_iff.mp H
   obtain ⟨t180, A50, H⟩ := H
   replace H : (if t180 = true then (some true) else (some false)) = some r := H
   have A5 := Aside0.mk A50
   clear A50
   by_cases c6 : t180 = true
   ·subst c6
    have H1 : (some true) = some r := by rw [if_pos rfl] at H; exact H
    clear H
    have H := H1
    clear H1
    obtain rfl := Option.some.inj H
    go_enter Try.func22, Try.ntmps22
    go_wp2_with (first | ((with_reducible refine gate_dst (N := 2) rfl ?_); refine box_event rfl (N := 2) rfl (cs := #[.int .i64 a0_0, .int .i64 a0_1, .slice A0_2 l0_2.length c0_2]) (t := 42) sE ?_; intro gb178 hg w7 hbox hb; have BK178 := Aside0.mk hbox; have GW178 := gS w hg (lU); have GE178 := gS w hg (lU); replace HB := Aside0.mk (below_step (lU) hb); clear hb hbox hg) | ((with_reducible refine gate_dst (N := 3) rfl ?_); refine box_event rfl (N := 3) rfl (cs := #[.int .i64 a1_0, .int .i64 a1_1, .slice A1_2 l1_2.length c1_2]) (t := 42) sE ?_; intro gb179 hg w8 hbox hb; have BK179 := Aside0.mk hbox; have GW179 := gS w hg (lU1 GE178.out); have GE179 := gS w hg (lU1 GE178.out); replace HB := Aside0.mk (below_step (lU1 GE178.out) hb); have NB178_179 := nL hg (bU BK178.out); have NB179_178 := nG hg (bU BK178.out); replace BK178 := Aside0.mk (blk_below (bU BK178.out) hb); clear hb hbox hg; have hnb9 := NB178_179.out; have hnc9 := NB179_178.out; have hcz10_0 : w8.cell? ⟨gb178, 0, none⟩ = some (.int .i64 a0_0) := (blk_cell BK178.out 0).trans rfl; have hcz10_1 : w8.cell? ⟨gb178, 1, none⟩ = some (.int .i64 a0_1) := (blk_cell BK178.out 1).trans rfl; have hcz10_2 : w8.cell? ⟨gb178, 2, none⟩ = some (.slice A0_2 l0_2.length c0_2) := (blk_cell BK178.out 2).trans rfl; have hfz10_0 := blk_frozen BK178.out 0; have hfz10_1 := blk_frozen BK178.out 1; have hfz10_2 := blk_frozen BK178.out 2; have hcz11_0 : w8.cell? ⟨gb179, 0, none⟩ = some (.int .i64 a1_0) := (blk_cell BK179.out 0).trans rfl; have hcz11_1 : w8.cell? ⟨gb179, 1, none⟩ = some (.int .i64 a1_1) := (blk_cell BK179.out 1).trans rfl; have hcz11_2 : w8.cell? ⟨gb179, 2, none⟩ = some (.slice A1_2 l1_2.length c1_2) := (blk_cell BK179.out 2).trans rfl; have hfz11_0 := blk_frozen BK179.out 0; have hfz11_1 := blk_frozen BK179.out 1; have hfz11_2 := blk_frozen BK179.out 2) | ((with_reducible refine gate_callee (f := 51) rfl ?_); refine goesL_ (some 19) rfl rfl Try.func51 (by kernel_rfl) rfl #[.slice A0_2 l0_2.length c0_2, .slice A1_2 l1_2.length c1_2] rfl aE ?_; (with_reducible refine (laws_eqResidentS.calls k _ _ l0_2 _ _ l1_2 true _ ?side1 ?side2 ?side3 ?side4 A5.out).mono ?_); (case side1 => exact cU (Kd.C_below HR0_2.out HB.out)); (case side2 => exact HC0_2.out); (case side3 => exact cU (Kd.C_below HR1_2.out HB.out)); (case side4 => exact HC1_2.out); rintro e w12 ⟨rfl, hb⟩; refine ⟨_, rfl, ?_⟩; replace BK178 := Aside0.mk (blk_below (bU BK178.out) hb); replace BK179 := Aside0.mk (blk_below (bU BK179.out) hb); replace HB := Aside0.mk (below_step (lU2 GE178.out GE179.out) hb); (try clear hb); (try clear hb2); (try clear hk); (try clear hi)))
    go_ret
    exact ⟨eE, lU2 GE178.out GE179.out⟩
   ·replace c6 := Bool.eq_false_iff.mpr c6
    subst c6
    have H1 : (some false) = some r := by rw [if_neg (show ¬ (false = true) by decide)] at H; exact H
    clear H
    have H := H1
    clear H1
    obtain rfl := Option.some.inj H
    go_enter Try.func22, Try.ntmps22
    go_wp2_with (first | ((with_reducible refine gate_dst (N := 2) rfl ?_); refine box_event rfl (N := 2) rfl (cs := #[.int .i64 a0_0, .int .i64 a0_1, .slice A0_2 l0_2.length c0_2]) (t := 42) sE ?_; intro gb178 hg w13 hbox hb; have BK178 := Aside0.mk hbox; have GW178 := gS w hg (lU); have GE178 := gS w hg (lU); replace HB := Aside0.mk (below_step (lU) hb); clear hb hbox hg) | ((with_reducible refine gate_dst (N := 3) rfl ?_); refine box_event rfl (N := 3) rfl (cs := #[.int .i64 a1_0, .int .i64 a1_1, .slice A1_2 l1_2.length c1_2]) (t := 42) sE ?_; intro gb179 hg w14 hbox hb; have BK179 := Aside0.mk hbox; have GW179 := gS w hg (lU1 GE178.out); have GE179 := gS w hg (lU1 GE178.out); replace HB := Aside0.mk (below_step (lU1 GE178.out) hb); have NB178_179 := nL hg (bU BK178.out); have NB179_178 := nG hg (bU BK178.out); replace BK178 := Aside0.mk (blk_below (bU BK178.out) hb); clear hb hbox hg; have hnb15 := NB178_179.out; have hnc15 := NB179_178.out; have hcz16_0 : w14.cell? ⟨gb178, 0, none⟩ = some (.int .i64 a0_0) := (blk_cell BK178.out 0).trans rfl; have hcz16_1 : w14.cell? ⟨gb178, 1, none⟩ = some (.int .i64 a0_1) := (blk_cell BK178.out 1).trans rfl; have hcz16_2 : w14.cell? ⟨gb178, 2, none⟩ = some (.slice A0_2 l0_2.length c0_2) := (blk_cell BK178.out 2).trans rfl; have hfz16_0 := blk_frozen BK178.out 0; have hfz16_1 := blk_frozen BK178.out 1; have hfz16_2 := blk_frozen BK178.out 2; have hcz17_0 : w14.cell? ⟨gb179, 0, none⟩ = some (.int .i64 a1_0) := (blk_cell BK179.out 0).trans rfl; have hcz17_1 : w14.cell? ⟨gb179, 1, none⟩ = some (.int .i64 a1_1) := (blk_cell BK179.out 1).trans rfl; have hcz17_2 : w14.cell? ⟨gb179, 2, none⟩ = some (.slice A1_2 l1_2.length c1_2) := (blk_cell BK179.out 2).trans rfl; have hfz17_0 := blk_frozen BK179.out 0; have hfz17_1 := blk_frozen BK179.out 1; have hfz17_2 := blk_frozen BK179.out 2) | ((with_reducible refine gate_callee (f := 51) rfl ?_); refine goesL_ (some 19) rfl rfl Try.func51 (by kernel_rfl) rfl #[.slice A0_2 l0_2.length c0_2, .slice A1_2 l1_2.length c1_2] rfl aE ?_; (with_reducible refine (laws_eqResidentS.calls k _ _ l0_2 _ _ l1_2 false _ ?side1 ?side2 ?side3 ?side4 A5.out).mono ?_); (case side1 => exact cU (Kd.C_below HR0_2.out HB.out)); (case side2 => exact HC0_2.out); (case side3 => exact cU (Kd.C_below HR1_2.out HB.out)); (case side4 => exact HC1_2.out); rintro e w18 ⟨rfl, hb⟩; refine ⟨_, rfl, ?_⟩; replace BK178 := Aside0.mk (blk_below (bU BK178.out) hb); replace BK179 := Aside0.mk (blk_below (bU BK179.out) hb); replace HB := Aside0.mk (below_step (lU2 GE178.out GE179.out) hb); (try clear hb); (try clear hb2); (try clear hk); (try clear hi)))
    go_ret
    exact ⟨eE, lU2 GE178.out GE179.out⟩
  ·rw [if_neg c4] at H
   have c4b0 : (a0_1 == a1_1) = false := beq_eq_false_iff_ne.mpr c4
   have c4b1 : (a0_1 != a1_1) = true := bne_iff_ne.mpr c4
   obtain rfl := Option.some.inj H
   go_enter Try.func22, Try.ntmps22
   go_wp2_with (first | ((with_reducible refine gate_dst (N := 2) rfl ?_); refine box_event rfl (N := 2) rfl (cs := #[.int .i64 a0_0, .int .i64 a0_1, .slice A0_2 l0_2.length c0_2]) (t := 42) sE ?_; intro gb178 hg w19 hbox hb; have BK178 := Aside0.mk hbox; have GW178 := gS w hg (lU); have GE178 := gS w hg (lU); replace HB := Aside0.mk (below_step (lU) hb); clear hb hbox hg) | ((with_reducible refine gate_dst (N := 3) rfl ?_); refine box_event rfl (N := 3) rfl (cs := #[.int .i64 a1_0, .int .i64 a1_1, .slice A1_2 l1_2.length c1_2]) (t := 42) sE ?_; intro gb179 hg w20 hbox hb; have BK179 := Aside0.mk hbox; have GW179 := gS w hg (lU1 GE178.out); have GE179 := gS w hg (lU1 GE178.out); replace HB := Aside0.mk (below_step (lU1 GE178.out) hb); have NB178_179 := nL hg (bU BK178.out); have NB179_178 := nG hg (bU BK178.out); replace BK178 := Aside0.mk (blk_below (bU BK178.out) hb); clear hb hbox hg; have hnb21 := NB178_179.out; have hnc21 := NB179_178.out; have hcz22_0 : w20.cell? ⟨gb178, 0, none⟩ = some (.int .i64 a0_0) := (blk_cell BK178.out 0).trans rfl; have hcz22_1 : w20.cell? ⟨gb178, 1, none⟩ = some (.int .i64 a0_1) := (blk_cell BK178.out 1).trans rfl; have hcz22_2 : w20.cell? ⟨gb178, 2, none⟩ = some (.slice A0_2 l0_2.length c0_2) := (blk_cell BK178.out 2).trans rfl; have hfz22_0 := blk_frozen BK178.out 0; have hfz22_1 := blk_frozen BK178.out 1; have hfz22_2 := blk_frozen BK178.out 2; have hcz23_0 : w20.cell? ⟨gb179, 0, none⟩ = some (.int .i64 a1_0) := (blk_cell BK179.out 0).trans rfl; have hcz23_1 : w20.cell? ⟨gb179, 1, none⟩ = some (.int .i64 a1_1) := (blk_cell BK179.out 1).trans rfl; have hcz23_2 : w20.cell? ⟨gb179, 2, none⟩ = some (.slice A1_2 l1_2.length c1_2) := (blk_cell BK179.out 2).trans rfl; have hfz23_0 := blk_frozen BK179.out 0; have hfz23_1 := blk_frozen BK179.out 1; have hfz23_2 := blk_frozen BK179.out 2))
   go_ret
   exact ⟨eE, lU2 GE178.out GE179.out⟩
 ·rw [if_neg c3] at H
  have c3b0 : (a0_0 == a1_0) = false := beq_eq_false_iff_ne.mpr c3
  have c3b1 : (a0_0 != a1_0) = true := bne_iff_ne.mpr c3
  obtain rfl := Option.some.inj H
  go_enter Try.func22, Try.ntmps22
  go_wp2_with (first | ((with_reducible refine gate_dst (N := 2) rfl ?_); refine box_event rfl (N := 2) rfl (cs := #[.int .i64 a0_0, .int .i64 a0_1, .slice A0_2 l0_2.length c0_2]) (t := 42) sE ?_; intro gb178 hg w24 hbox hb; have BK178 := Aside0.mk hbox; have GW178 := gS w hg (lU); have GE178 := gS w hg (lU); replace HB := Aside0.mk (below_step (lU) hb); clear hb hbox hg) | ((with_reducible refine gate_dst (N := 3) rfl ?_); refine box_event rfl (N := 3) rfl (cs := #[.int .i64 a1_0, .int .i64 a1_1, .slice A1_2 l1_2.length c1_2]) (t := 42) sE ?_; intro gb179 hg w25 hbox hb; have BK179 := Aside0.mk hbox; have GW179 := gS w hg (lU1 GE178.out); have GE179 := gS w hg (lU1 GE178.out); replace HB := Aside0.mk (below_step (lU1 GE178.out) hb); have NB178_179 := nL hg (bU BK178.out); have NB179_178 := nG hg (bU BK178.out); replace BK178 := Aside0.mk (blk_below (bU BK178.out) hb); clear hb hbox hg; have hnb26 := NB178_179.out; have hnc26 := NB179_178.out; have hcz27_0 : w25.cell? ⟨gb178, 0, none⟩ = some (.int .i64 a0_0) := (blk_cell BK178.out 0).trans rfl; have hcz27_1 : w25.cell? ⟨gb178, 1, none⟩ = some (.int .i64 a0_1) := (blk_cell BK178.out 1).trans rfl; have hcz27_2 : w25.cell? ⟨gb178, 2, none⟩ = some (.slice A0_2 l0_2.length c0_2) := (blk_cell BK178.out 2).trans rfl; have hfz27_0 := blk_frozen BK178.out 0; have hfz27_1 := blk_frozen BK178.out 1; have hfz27_2 := blk_frozen BK178.out 2; have hcz28_0 : w25.cell? ⟨gb179, 0, none⟩ = some (.int .i64 a1_0) := (blk_cell BK179.out 0).trans rfl; have hcz28_1 : w25.cell? ⟨gb179, 1, none⟩ = some (.int .i64 a1_1) := (blk_cell BK179.out 1).trans rfl; have hcz28_2 : w25.cell? ⟨gb179, 2, none⟩ = some (.slice A1_2 l1_2.length c1_2) := (blk_cell BK179.out 2).trans rfl; have hfz28_0 := blk_frozen BK179.out 0; have hfz28_1 := blk_frozen BK179.out 1; have hfz28_2 := blk_frozen BK179.out 2))
  go_ret
  exact ⟨eE, lU2 GE178.out GE179.out⟩
end Go.Proofs.Ytifejplilaefiaa.PFnExactGoodStore
namespace Go.Proofs.Ytifejplilaefiaa.PFnExactGoodStore
open Go.RowKit Go.Proofs.YtifejplilaefiaaW.PrintWords Go.Proofs.YtifejplilaefiaaW.PrintLast Go.Proofs.YtifejplilaefiaaW.PrintMore
attribute [local go_sem] max2_int min2_int max_two min_two max_three min_three max_four min_four   -- for this text's walks alone
set_option linter.unusedVariables false
set_option linter.unusedSimpArgs false
def laws_FnExactGoodStore.f (k : Nat) (a0_0 : Int) (a0_1 : Int) (l0_2 : List (S105)) : Option (Bool) := (laws_szStore.f k a0_0 a0_1 l0_2 1048576).bind fun t182 => (if t182 < 0 then (some true) else ((laws_toStore.f k a0_0 a0_1 l0_2).bind fun bt183 => ((spec_GoodStore.f k bt183.1 bt183.2.1 bt183.2.2).bind fun t188 => ((laws_toStore.f k a0_0 a0_1 l0_2).bind fun bt189 => ((impl_GoodStore.f k bt189.1 bt189.2.1 bt189.2.2).bind fun t195 => (if (t195 != t188) = true then (some false) else ((laws_toStore.f k a0_0 a0_1 l0_2).bind fun bt196 => ((laws_eqStore.f k bt189.1 bt189.2.1 bt189.2.2 bt196.1 bt196.2.1 bt196.2.2).bind fun t201 => (if t201 = true then (some true) else (some false))))))))))
theorem laws_FnExactGoodStore.mono : ∀ a0 a1 a2 k, LeO (laws_FnExactGoodStore.f k a0 a1 a2) (laws_FnExactGoodStore.f (k + 1) a0 a1 a2) := by
 intro a0 a1 a2 k
 unfold laws_FnExactGoodStore.f
 repeat' first
   | (with_reducible exact impl_GoodStore.mono _ _ _ _)
   | (with_reducible exact laws_eqStore.mono _ _ _ _ _ _ _)
   | (with_reducible exact laws_szStore.mono _ _ _ _ _)
   | (with_reducible exact laws_toStore.mono _ _ _ _)
   | (with_reducible exact spec_GoodStore.mono _ _ _ _)
   | (with_reducible exact LeO.refl _)
   | (with_reducible exact LeO.none _)
   | (with_reducible refine LeO.ite ?_ ?_)
   | (with_reducible refine LeO.bind ?_ (fun _ => ?_))
   | exact impl_GoodStore.mono _ _ _ _
   | exact laws_eqStore.mono _ _ _ _ _ _ _
   | exact laws_szStore.mono _ _ _ _ _
   | exact laws_toStore.mono _ _ _ _
   | exact spec_GoodStore.mono _ _ _ _
   | exact LeO.none _
   | refine LeO.ite ?_ ?_
   | refine LeO.bind ?_ (fun _ => ?_)
set_option maxHeartbeats 8000000 in
set_option maxRecDepth 100000 in
theorem laws_FnExactGoodStore.calls (k : Nat) (a0_0 : Int) (a0_1 : Int) (A0_2 : Option Addr) (c0_2 : Nat) (l0_2 : List (S105)) (r : Bool) (w : World) (hr0_2 : Kd.C k105 w A0_2 l0_2.length l0_2) (hc0_2 : l0_2.length ≤ c0_2) (h : laws_FnExactGoodStore.f k a0_0 a0_1 l0_2 = some r) :
  Calls Try.prog 5 #[.agg #[.int .i64 a0_0, .int .i64 a0_1, .slice A0_2 l0_2.length c0_2]] w fun e w' => e = .returned (.bool r) ∧ Below w.heap.size w w' := by
 have hu37 := Try.underlying37
 have hu42 := Try.underlying42
 have HR0_2 := Aside0.mk hr0_2
 have HC0_2 := Aside0.mk hc0_2
 clear hr0_2 hc0_2
 have HB := Aside0.mk (Below.refl w.heap.size w)
 have H : ((laws_szStore.f k a0_0 a0_1 l0_2 1048576).bind fun t182 => (if t182 < 0 then (some true) else ((laws_toStore.f k a0_0 a0_1 l0_2).bind fun bt183 => ((spec_GoodStore.f k bt183.1 bt183.2.1 bt183.2.2).bind fun t188 => ((laws_toStore.f k a0_0 a0_1 l0_2).bind fun bt189 => ((impl_GoodStore.f k bt189.1 bt189.2.1 bt189.2.2).bind fun t195 => (if (t195 != t188) = true then (some false) else ((laws_toStore.f k a0_0 a0_1 l0_2).bind fun bt196 => ((laws_eqStore.f k bt189.1 bt189.2.1 bt189.2.2 bt196.1 bt196.2.1 bt196.2.2).bind fun t201 => (if t201 = true then (some true) else (some false))))))))))) = some r := h
 clear h
 replace H := Option.bind_eq_some_iff.mp H
 obtain ⟨t182, A20, H⟩ := H
 replace H : (if t182 < 0 then (some true) else ((laws_toStore.f k a0_0 a0_1 l0_2).bind fun bt183 => ((spec_GoodStore.f k bt183.1 bt183.2.1 bt183.2.2).bind fun t188 => ((laws_toStore.f k a0_0 a0_1 l0_2).bind fun bt189 => ((impl_GoodStore.f k bt189.1 bt189.2.1 bt189.2.2).bind fun t195 => (if (t195 != t188) = true then (some false) else ((laws_toStore.f k a0_0 a0_1 l0_2).bind fun bt196 => ((laws_eqStore.f k bt189.1 bt189.2.1 bt189.2.2 bt196.1 bt196.2.1 bt196.2.2).bind fun t201 => (if t201 = true then (some true) else (some false)))))))))) = some r := H
 have A2 := Aside0.mk A20
 clear A20
 by_cases c3 : t182 < 0
 ·rw [if_pos c3] at H
  have c3b0 : decide (t182 < 0) = true := decide_eq_true c3
  clear c3
  obtain rfl := Option.some.inj H
  go_enter Try.func5, Try.ntmps5
  go_wp2_with (first | ((with_reducible refine gate_dst (N := 1) rfl ?_); refine box_event rfl (N := 1) rfl (cs := #[.int .i64 a0_0, .int .i64 a0_1, .slice A0_2 l0_2.length c0_2]) (t := 37) sE ?_; intro gb181 hg w4 hbox hb; have BK181 := Aside0.mk hbox; have GW181 := gS w hg (lU); have GE181 := gS w hg (lU); replace HB := Aside0.mk (below_step (lU) hb); clear hb hbox hg; have hcz5_0 : w4.cell? ⟨gb181, 0, none⟩ = some (.int .i64 a0_0) := (blk_cell BK181.out 0).trans rfl; have hcz5_1 : w4.cell? ⟨gb181, 1, none⟩ = some (.int .i64 a0_1) := (blk_cell BK181.out 1).trans rfl; have hcz5_2 : w4.cell? ⟨gb181, 2, none⟩ = some (.slice A0_2 l0_2.length c0_2) := (blk_cell BK181.out 2).trans rfl; have hfz5_0 := blk_frozen BK181.out 0; have hfz5_1 := blk_frozen BK181.out 1; have hfz5_2 := blk_frozen BK181.out 2) | ((with_reducible refine gate_callee (f := 18) rfl ?_); refine goesL_ (some 9) rfl rfl Try.func18 (by kernel_rfl) rfl #[.agg #[.int .i64 a0_0, .int .i64 a0_1, .slice A0_2 l0_2.length c0_2], .int .i64 1048576] rfl aE ?_; (with_reducible refine (laws_szStore.calls k a0_0 a0_1 _ _ l0_2 1048576 t182 _ ?side1 ?side2 A2.out).mono ?_); (case side1 => exact cU (Kd.C_below HR0_2.out HB.out)); (case side2 => exact HC0_2.out); rintro e w6 ⟨rfl, hb⟩; refine ⟨_, rfl, ?_⟩; replace BK181 := Aside0.mk (blk_below (bU BK181.out) hb); replace HB := Aside0.mk (below_step (lU1 GE181.out) hb); (try clear hb); (try clear hb2); (try clear hk); (try clear hi)))
  go_ret
  exact ⟨eE, lU1 GE181.out⟩
 ·rw [if_neg c3] at H
  have c3b0 : decide (t182 < 0) = false := decide_eq_false c3
  clear c3
  replace H := Option.bind_eq_some_iff.mp H
  obtain ⟨⟨t183, t184, t185⟩, A70, H⟩ := H
  replace H : ((spec_GoodStore.f k t183 t184 t185).bind fun t188 => ((laws_toStore.f k a0_0 a0_1 l0_2).bind fun bt189 => ((impl_GoodStore.f k bt189.1 bt189.2.1 bt189.2.2).bind fun t195 => (if (t195 != t188) = true then (some false) else ((laws_toStore.f k a0_0 a0_1 l0_2).bind fun bt196 => ((laws_eqStore.f k bt189.1 bt189.2.1 bt189.2.2 bt196.1 bt196.2.1 bt196.2.2).bind fun t201 => (if t201 = true then (some true) else (some false)))))))) = some r := H
  have A7 := Aside0.mk A70
  clear A70
  replace H := Option.bind_eq_some_iff.mp H
  obtain ⟨t188, A80, H⟩ := H
  replace H : ((laws_toStore.f k a0_0 a0_1 l0_2).bind fun bt189 => ((impl_GoodStore.f k bt189.1 bt189.2.1 bt189.2.2).bind fun t195 => (if (t195 != t188) = true then (some false) else ((laws_toStore.f k a0_0 a0_1 l0_2).bind fun bt196 => ((laws_eqStore.f k bt189.1 bt189.2.1 bt189.2.2 bt196.1 bt196.2.1 bt196.2.2).bind fun t201 => (if t201 = true then (some true) else (some false))))))) = some r := H
  have A8 := Aside0.mk A80
  clear A80
  replace H := Option.bind_eq_some_iff.mp H
  obtain ⟨⟨t189, t190, t191⟩, A90, H⟩ := H
  replace H : ((impl_GoodStore.f k t189 t190 t191).bind fun t195 => (if (t195 != t188) = true then (some false) else ((laws_toStore.f k a0_0 a0_1 l0_2).bind fun bt196 => ((laws_eqStore.f k t189 t190 t191 bt196.1 bt196.2.1 bt196.2.2).bind fun t201 => (if t201 = true then (some true) else (some false)))))) = some r := H
  have A9 := Aside0.mk A90
  clear A90
  replace H := Option.bind_eq_some_iff.mp H
  obtain ⟨t195, A100, H⟩ := H
  replace H : (if (t195 != t188) = true then (some false) else ((laws_toStore.f k a0_0 a0_1 l0_2).bind fun bt196 => ((laws_eqStore.f k t189 t190 t191 bt196.1 bt196.2.1 bt196.2.2).bind fun t201 => (if t201 = true then (some true) else (some false))))) = some r := H
  have A10 := Aside0.mk A100
  clear A100
  by_cases c11 : (t195 != t188) = true
  ·rw [if_pos c11] at H
   have c11b0 : (t195 != t188) = true := c11
   (try (have c11b1 : decide (t195 = t188) = false := by simpa using c11))
   (try (have c11b2 : (t195 == t188) = false := by simpa using c11))
   (try (have c11b3 : ¬ (t195 = t188) := by simpa using c11))
   clear c11
   obtain rfl := Option.some.inj H
   go_enter Try.func5, Try.ntmps5
   go_wp2_with (first | ((with_reducible refine gate_dst (N := 1) rfl ?_); refine box_event rfl (N := 1) rfl (cs := #[.int .i64 a0_0, .int .i64 a0_1, .slice A0_2 l0_2.length c0_2]) (t := 37) sE ?_; intro gb181 hg w12 hbox hb; have BK181 := Aside0.mk hbox; have GW181 := gS w hg (lU); have GE181 := gS w hg (lU); replace HB := Aside0.mk (below_step (lU) hb); clear hb hbox hg; have hcz13_0 : w12.cell? ⟨gb181, 0, none⟩ = some (.int .i64 a0_0) := (blk_cell BK181.out 0).trans rfl; have hcz13_1 : w12.cell? ⟨gb181, 1, none⟩ = some (.int .i64 a0_1) := (blk_cell BK181.out 1).trans rfl; have hcz13_2 : w12.cell? ⟨gb181, 2, none⟩ = some (.slice A0_2 l0_2.length c0_2) := (blk_cell BK181.out 2).trans rfl; have hfz13_0 := blk_frozen BK181.out 0; have hfz13_1 := blk_frozen BK181.out 1; have hfz13_2 := blk_frozen BK181.out 2) | ((with_reducible refine gate_callee (f := 18) rfl ?_); refine goesL_ (some 9) rfl rfl Try.func18 (by kernel_rfl) rfl #[.agg #[.int .i64 a0_0, .int .i64 a0_1, .slice A0_2 l0_2.length c0_2], .int .i64 1048576] rfl aE ?_; (with_reducible refine (laws_szStore.calls k a0_0 a0_1 _ _ l0_2 1048576 t182 _ ?side1 ?side2 A2.out).mono ?_); (case side1 => exact cU (Kd.C_below HR0_2.out HB.out)); (case side2 => exact HC0_2.out); rintro e w14 ⟨rfl, hb⟩; refine ⟨_, rfl, ?_⟩; replace BK181 := Aside0.mk (blk_below (bU BK181.out) hb); replace HB := Aside0.mk (below_step (lU1 GE181.out) hb); (try clear hb); (try clear hb2); (try clear hk); (try clear hi); have hcz15_0 : w14.cell? ⟨gb181, 0, none⟩ = some (.int .i64 a0_0) := (blk_cell BK181.out 0).trans rfl; have hcz15_1 : w14.cell? ⟨gb181, 1, none⟩ = some (.int .i64 a0_1) := (blk_cell BK181.out 1).trans rfl; have hcz15_2 : w14.cell? ⟨gb181, 2, none⟩ = some (.slice A0_2 l0_2.length c0_2) := (blk_cell BK181.out 2).trans rfl; have hfz15_0 := blk_frozen BK181.out 0; have hfz15_1 := blk_frozen BK181.out 1; have hfz15_2 := blk_frozen BK181.out 2) | ((with_reducible refine gate_callee (f := 20) rfl ?_); refine goesL_ (some 13) rfl rfl Try.func20 (by kernel_rfl) rfl #[.agg #[.int .i64 a0_0, .int .i64 a0_1, .slice A0_2 l0_2.length c0_2]] rfl aE ?_; (with_reducible refine (laws_toStore.calls k a0_0 a0_1 _ _ l0_2 t183 t184 t185 _ ?side1 ?side2 A7.out).mono ?_); (case side1 => exact cU (Kd.C_below HR0_2.out HB.out)); (case side2 => exact HC0_2.out); rintro e w16 ⟨v186, rfl, ho0, hb⟩; refine ⟨_, rfl, ?_⟩; have HO187 := Aside0.mk (Kd.R_lower ho0 (below_size (lU1 GE181.out))); replace BK181 := Aside0.mk (blk_below (bU BK181.out) hb); replace HB := Aside0.mk (below_step (lU1 GE181.out) hb); (try clear hb); (try clear hb2); (try clear hk); (try clear hi); (try clear ho0); obtain ⟨Ao17, co17, eo17⟩ := Kd.R_slice HO187.out; subst eo17) | ((with_reducible refine gate_callee (f := 19) rfl ?_); refine goesL_ (some 14) rfl rfl Try.func19 (by kernel_rfl) rfl #[.agg #[.int .i64 t183, .int .i64 t184, .slice Ao17 t185.length co17]] rfl aE ?_; (with_reducible refine (spec_GoodStore.calls k t183 t184 _ _ t185 t188 _ ?side1 ?side2 A8.out).mono ?_); (case side1 => exact cU (Kd.R_reads' HO187.out).2.2); (case side2 => exact (Kd.R_reads' HO187.out).2.1); rintro e w18 ⟨rfl, hb⟩; refine ⟨_, rfl, ?_⟩; replace HO187 := Aside0.mk (Kd.R_below (rU HO187.out) hb); replace BK181 := Aside0.mk (blk_below (bU BK181.out) hb); replace HB := Aside0.mk (below_step (lU1 GE181.out) hb); (try clear hb); (try clear hb2); (try clear hk); (try clear hi); have hcz19_0 : w18.cell? ⟨gb181, 0, none⟩ = some (.int .i64 a0_0) := (blk_cell BK181.out 0).trans rfl; have hcz19_1 : w18.cell? ⟨gb181, 1, none⟩ = some (.int .i64 a0_1) := (blk_cell BK181.out 1).trans rfl; have hcz19_2 : w18.cell? ⟨gb181, 2, none⟩ = some (.slice A0_2 l0_2.length c0_2) := (blk_cell BK181.out 2).trans rfl; have hfz19_0 := blk_frozen BK181.out 0; have hfz19_1 := blk_frozen BK181.out 1; have hfz19_2 := blk_frozen BK181.out 2) | ((with_reducible refine gate_callee (f := 20) rfl ?_); refine goesL_ (some 16) rfl rfl Try.func20 (by kernel_rfl) rfl #[.agg #[.int .i64 a0_0, .int .i64 a0_1, .slice A0_2 l0_2.length c0_2]] rfl aE ?_; (with_reducible refine (laws_toStore.calls k a0_0 a0_1 _ _ l0_2 t189 t190 t191 _ ?side1 ?side2 A9.out).mono ?_); (case side1 => exact cU (Kd.C_below HR0_2.out HB.out)); (case side2 => exact HC0_2.out); rintro e w20 ⟨v192, rfl, ho0, hb⟩; refine ⟨_, rfl, ?_⟩; have HO193 := Aside0.mk (Kd.R_lower (Kd.R_new' ho0 (Kd.R_lt (rU HO187.out))) (below_size (lU1 GE181.out))); replace HO187 := Aside0.mk (Kd.R_elder' (rU HO187.out) (Kd.R_base ho0) hb); replace BK181 := Aside0.mk (blk_below (bU BK181.out) hb); replace HB := Aside0.mk (below_step (lU1 GE181.out) hb); (try clear hb); (try clear hb2); (try clear hk); (try clear hi); (try clear ho0)) | ((with_reducible refine gate_dst (N := 5) rfl ?_); refine box_event rfl (N := 5) rfl (cs := #[.int .i64 0, .int .i64 0, .slice none 0 0]) (t := 42) sE ?_; intro gb194 hg w21 hbox hb; replace HO187 := Aside0.mk (Kd.R_below (rU HO187.out) hb); replace HO193 := Aside0.mk (Kd.R_below (rU HO193.out) hb); have BK194 := Aside0.mk hbox; have GW194 := gS w hg (lU1 GE181.out); have GE194 := gS w hg (lU1 GE181.out); replace HB := Aside0.mk (below_step (lU1 GE181.out) hb); have NB181_194 := nL hg (bU BK181.out); have NB194_181 := nG hg (bU BK181.out); replace BK181 := Aside0.mk (blk_below (bU BK181.out) hb); clear hb hbox hg; have hnb22 := NB194_181.out; have hnc22 := NB181_194.out; have hcz23_0 : w21.cell? ⟨gb194, 0, none⟩ = some (.int .i64 0) := (blk_cell BK194.out 0).trans rfl; have hcz23_1 : w21.cell? ⟨gb194, 1, none⟩ = some (.int .i64 0) := (blk_cell BK194.out 1).trans rfl; have hcz23_2 : w21.cell? ⟨gb194, 2, none⟩ = some (.slice none 0 0) := (blk_cell BK194.out 2).trans rfl; have hfz23_0 := blk_frozen BK194.out 0; have hfz23_1 := blk_frozen BK194.out 1; have hfz23_2 := blk_frozen BK194.out 2; obtain ⟨Ao24, co24, eo24⟩ := Kd.R_slice HO193.out; subst eo24) | ((with_reducible refine gate_store (t := 42) (p := 5) rfl ?_); refine store_event (t := 42) (p := 5) (v := ?vo_w25) (w1 := (((w21.setCell ⟨gb194, 0, none⟩ (.int .i64 t189)).setCell ⟨gb194, 1, none⟩ (.int .i64 t190)).setCell ⟨gb194, 2, none⟩ (.slice Ao24 t191.length co24))) ?hg ?ho ?hn ?hr ?_; (case ho => rfl); (case hg => rfl); (case hn => rfl); (case hr => first | (go_simp; done) | (go_simp; rfl) | (have hq0_ := (blk_cell BK194.out 0).trans (show _ = some _ from rfl); have hf0_ := blk_frozen BK194.out 0; have hq1_ := (blk_cell BK194.out 1).trans (show _ = some _ from rfl); have hf1_ := blk_frozen BK194.out 1; have hq2_ := (blk_cell BK194.out 2).trans (show _ = some _ from rfl); have hf2_ := blk_frozen BK194.out 2; first | (go_simp; done) | (go_simp; rfl))); intro w25 hw; replace HO187 : Aside0 (Kd.R k77 77 w25 w.heap.size (fun k_ => some k_ ≠ (.slice Ao24 t191.length co24 : Value).ownBlock) (.slice Ao17 t185.length co17) t185) := ⟨(by rw [hw]; exact (by (with_reducible repeat (first | apply Kd.R_alloc | apply Kd.R_drewN | apply Kd.R_drew)); exact Kd.R_mono (Kd.R_far (p := ⟨gb194, 2, none⟩) (Kd.R_far (p := ⟨gb194, 1, none⟩) (Kd.R_far (p := ⟨gb194, 0, none⟩) (Kd.R_types HO187.out BK194.out (by decide)) (fun _ hk => hk.2) (.int .i64 t189)) (fun _ hk => hk.2) (.int .i64 t190)) (fun _ hk => hk.2) (.slice Ao24 t191.length co24)) (fun _ hk => hk.1.2)))⟩; replace HO193 : Aside0 (Kd.R k77 77 w25 w.heap.size (fun k_ => some k_ ≠ (.slice Ao17 t185.length co17 : Value).ownBlock) (.slice Ao24 t191.length co24) t191) := ⟨(by rw [hw]; exact (by (with_reducible repeat (first | apply Kd.R_alloc | apply Kd.R_drewN | apply Kd.R_drew)); exact Kd.R_mono (Kd.R_far (p := ⟨gb194, 2, none⟩) (Kd.R_far (p := ⟨gb194, 1, none⟩) (Kd.R_far (p := ⟨gb194, 0, none⟩) (Kd.R_types HO193.out BK194.out (by decide)) (fun _ hk => hk.2) (.int .i64 t189)) (fun _ hk => hk.2) (.int .i64 t190)) (fun _ hk => hk.2) (.slice Ao24 t191.length co24)) (fun _ hk => hk.1.2)))⟩; replace BK181 : Aside0 (w25.heap[gb181]? = some (.cells #[.int .i64 a0_0, .int .i64 a0_1, .slice A0_2 l0_2.length c0_2] 37 (0, 0))) := ⟨(by rw [hw]; exact (bF NB181_194.out BK181.out))⟩; replace BK194 : Aside0 (w25.heap[gb194]? = some (.cells #[.int .i64 t189, .int .i64 t190, .slice Ao24 t191.length co24] 42 (0, 0))) := ⟨(by rw [hw]; exact (by refine bU ?_; refine blk_put (cs := #[.int .i64 t189, .int .i64 t190, .slice none 0 0]) ?_ 2 _ rfl; refine bU ?_; refine blk_put (cs := #[.int .i64 t189, .int .i64 0, .slice none 0 0]) ?_ 1 _ rfl; refine bU ?_; refine blk_put (cs := #[.int .i64 0, .int .i64 0, .slice none 0 0]) ?_ 0 _ rfl; refine bU ?_; exact BK194.out))⟩; replace HB : Aside0 (Below w.heap.size w w25) := ⟨(by rw [hw]; exact (lU2 GE181.out GE194.out))⟩; clear hw; have hcz26_0 : w25.cell? ⟨gb194, 0, none⟩ = some (.int .i64 t189) := (blk_cell BK194.out 0).trans rfl; have hcz26_1 : w25.cell? ⟨gb194, 1, none⟩ = some (.int .i64 t190) := (blk_cell BK194.out 1).trans rfl; have hcz26_2 : w25.cell? ⟨gb194, 2, none⟩ = some (.slice Ao24 t191.length co24) := (blk_cell BK194.out 2).trans rfl; have hfz26_0 := blk_frozen BK194.out 0; have hfz26_1 := blk_frozen BK194.out 1; have hfz26_2 := blk_frozen BK194.out 2) | ((with_reducible refine gate_callee (f := 21) rfl ?_); refine goesL_ (some 18) rfl rfl Try.func21 (by kernel_rfl) rfl #[.agg #[.int .i64 t189, .int .i64 t190, .slice Ao24 t191.length co24]] rfl aE ?_; (with_reducible refine (impl_GoodStore.calls k t189 t190 _ _ t191 t195 _ ?side1 ?side2 A10.out).mono ?_); (case side1 => exact cU (Kd.R_reads' HO193.out).2.2); (case side2 => exact (Kd.R_reads' HO193.out).2.1); rintro e w27 ⟨rfl, hb⟩; refine ⟨_, rfl, ?_⟩; replace HO187 := Aside0.mk (Kd.R_below (rU HO187.out) hb); replace HO193 := Aside0.mk (Kd.R_below (rU HO193.out) hb); replace BK181 := Aside0.mk (blk_below (bU BK181.out) hb); replace BK194 := Aside0.mk (blk_below (bU BK194.out) hb); replace HB := Aside0.mk (below_step (lU2 GE181.out GE194.out) hb); (try clear hb); (try clear hb2); (try clear hk); (try clear hi)))
   go_ret
   exact ⟨eE, lU2 GE181.out GE194.out⟩
  ·rw [if_neg c11] at H
   have c11b0 : (t195 != t188) = false := by simpa using c11
   (try (have c11b1 : decide (t195 = t188) = true := by simpa using c11))
   (try (have c11b2 : (t195 == t188) = true := by simpa using c11))
   clear c11
   replace H := Option.bind_eq_some_iff.mp H
   obtain ⟨⟨t196, t197, t198⟩, A280, H⟩ := H
   replace H : ((laws_eqStore.f k t189 t190 t191 t196 t197 t198).bind fun t201 => (if t201 = true then (some true) else (some false))) = some r := H
   have A28 := Aside0.mk A280
   clear A280
   replace H := Option.bind_eq_some_iff.mp H
   obtain ⟨t201, A290, H⟩ := H
   replace H : (if t201 = true then (some true) else (some false)) = some r := H
   have A29 := Aside0.mk A290
   clear A290
   by_cases c30 : t201 = true
   ·subst c30
    have H1 : (some true) = some r := by rw [if_pos rfl] at H; exact H
    clear H
    have H := H1
    clear H1
    obtain rfl := Option.some.inj H
    go_enter Try.func5, Try.ntmps5
    try go_wp2_with (first | ((with_reducible refine gate_dst (N := 1) rfl ?_); refine box_event rfl (N := 1) rfl (cs := #[.int .i64 a0_0, .int .i64 a0_1, .slice A0_2 l0_2.length c0_2]) (t := 37) sE ?_; intro gb181 hg w31 hbox hb; have BK181 := Aside0.mk hbox; have GW181 := gS w hg (lU); have GE181 := gS w hg (lU); replace HB := Aside0.mk (below_step (lU) hb); clear hb hbox hg; have hcz32_0 : w31.cell? ⟨gb181, 0, none⟩ = some (.int .i64 a0_0) := (blk_cell BK181.out 0).trans rfl; have hcz32_1 : w31.cell? ⟨gb181, 1, none⟩ = some (.int .i64 a0_1) := (blk_cell BK181.out 1).trans rfl; have hcz32_2 : w31.cell? ⟨gb181, 2, none⟩ = some (.slice A0_2 l0_2.length c0_2) := (blk_cell BK181.out 2).trans rfl; have hfz32_0 := blk_frozen BK181.out 0; have hfz32_1 := blk_frozen BK181.out 1; have hfz32_2 := blk_frozen BK181.out 2) | ((with_reducible refine gate_callee (f := 18) rfl ?_); refine goesL_ (some 9) rfl rfl Try.func18 (by kernel_rfl) rfl #[.agg #[.int .i64 a0_0, .int .i64 a0_1, .slice A0_2 l0_2.length c0_2], .int .i64 1048576] rfl aE ?_; (with_reducible refine (laws_szStore.calls k a0_0 a0_1 _ _ l0_2 1048576 t182 _ ?side1 ?side2 A2.out).mono ?_); (case side1 => exact cU (Kd.C_below HR0_2.out HB.out)); (case side2 => exact HC0_2.out); rintro e w33 ⟨rfl, hb⟩; refine ⟨_, rfl, ?_⟩; replace BK181 := Aside0.mk (blk_below (bU BK181.out) hb); replace HB := Aside0.mk (below_step (lU1 GE181.out) hb); (try clear hb); (try clear hb2); (try clear hk); (try clear hi); have hcz34_0 : w33.cell? ⟨gb181, 0, none⟩ = some (.int .i64 a0_0) := (blk_cell BK181.out 0).trans rfl; have hcz34_1 : w33.cell? ⟨gb181, 1, none⟩ = some (.int .i64 a0_1) := (blk_cell BK181.out 1).trans rfl; have hcz34_2 : w33.cell? ⟨gb181, 2, none⟩ = some (.slice A0_2 l0_2.length c0_2) := (blk_cell BK181.out 2).trans rfl; have hfz34_0 := blk_frozen BK181.out 0; have hfz34_1 := blk_frozen BK181.out 1; have hfz34_2 := blk_frozen BK181.out 2) | ((with_reducible refine gate_callee (f := 20) rfl ?_); refine goesL_ (some 13) rfl rfl Try.func20 (by kernel_rfl) rfl #[.agg #[.int .i64 a0_0, .int .i64 a0_1, .slice A0_2 l0_2.length c0_2]] rfl aE ?_; (with_reducible refine (laws_toStore.calls k a0_0 a0_1 _ _ l0_2 t183 t184 t185 _ ?side1 ?side2 A7.out).mono ?_); (case side1 => exact cU (Kd.C_below HR0_2.out HB.out)); (case side2 => exact HC0_2.out); rintro e w35 ⟨v186, rfl, ho0, hb⟩; refine ⟨_, rfl, ?_⟩; have HO187 := Aside0.mk (Kd.R_lower ho0 (below_size (lU1 GE181.out))); replace BK181 := Aside0.mk (blk_below (bU BK181.out) hb); replace HB := Aside0.mk (below_step (lU1 GE181.out) hb); (try clear hb); (try clear hb2); (try clear hk); (try clear hi); (try clear ho0); obtain ⟨Ao36, co36, eo36⟩ := Kd.R_slice HO187.out; subst eo36) | ((with_reducible refine gate_callee (f := 19) rfl ?_); refine goesL_ (some 14) rfl rfl Try.func19 (by kernel_rfl) rfl #[.agg #[.int .i64 t183, .int .i64 t184, .slice Ao36 t185.length co36]] rfl aE ?_; (with_reducible refine (spec_GoodStore.calls k t183 t184 _ _ t185 t188 _ ?side1 ?side2 A8.out).mono ?_); (case side1 => exact cU (Kd.R_reads' HO187.out).2.2); (case side2 => exact (Kd.R_reads' HO187.out).2.1); rintro e w37 ⟨rfl, hb⟩; refine ⟨_, rfl, ?_⟩; replace HO187 := Aside0.mk (Kd.R_below (rU HO187.out) hb); replace BK181 := Aside0.mk (blk_below (bU BK181.out) hb); replace HB := Aside0.mk (below_step (lU1 GE181.out) hb); (try clear hb); (try clear hb2); (try clear hk); (try clear hi); have hcz38_0 : w37.cell? ⟨gb181, 0, none⟩ = some (.int .i64 a0_0) := (blk_cell BK181.out 0).trans rfl; have hcz38_1 : w37.cell? ⟨gb181, 1, none⟩ = some (.int .i64 a0_1) := (blk_cell BK181.out 1).trans rfl; have hcz38_2 : w37.cell? ⟨gb181, 2, none⟩ = some (.slice A0_2 l0_2.length c0_2) := (blk_cell BK181.out 2).trans rfl; have hfz38_0 := blk_frozen BK181.out 0; have hfz38_1 := blk_frozen BK181.out 1; have hfz38_2 := blk_frozen BK181.out 2) | ((with_reducible refine gate_callee (f := 20) rfl ?_); refine goesL_ (some 16) rfl rfl Try.func20 (by kernel_rfl) rfl #[.agg #[.int .i64 a0_0, .int .i64 a0_1, .slice A0_2 l0_2.length c0_2]] rfl aE ?_; (with_reducible refine (laws_toStore.calls k a0_0 a0_1 _ _ l0_2 t189 t190 t191 _ ?side1 ?side2 A9.out).mono ?_); (case side1 => exact cU (Kd.C_below HR0_2.out HB.out)); (case side2 => exact HC0_2.out); rintro e w39 ⟨v192, rfl, ho0, hb⟩; refine ⟨_, rfl, ?_⟩; have HO193 := Aside0.mk (Kd.R_lower (Kd.R_new' ho0 (Kd.R_lt (rU HO187.out))) (below_size (lU1 GE181.out))); replace HO187 := Aside0.mk (Kd.R_elder' (rU HO187.out) (Kd.R_base ho0) hb); replace BK181 := Aside0.mk (blk_below (bU BK181.out) hb); replace HB := Aside0.mk (below_step (lU1 GE181.out) hb); (try clear hb); (try clear hb2); (try clear hk); (try clear hi); (try clear ho0)) | ((with_reducible refine gate_dst (N := 5) rfl ?_); refine box_event rfl (N := 5) rfl (cs := #[.int .i64 0, .int .i64 0, .slice none 0 0]) (t := 42) sE ?_; intro gb194 hg w40 hbox hb; replace HO187 := Aside0.mk (Kd.R_below (rU HO187.out) hb); replace HO193 := Aside0.mk (Kd.R_below (rU HO193.out) hb); have BK194 := Aside0.mk hbox; have GW194 := gS w hg (lU1 GE181.out); have GE194 := gS w hg (lU1 GE181.out); replace HB := Aside0.mk (below_step (lU1 GE181.out) hb); have NB181_194 := nL hg (bU BK181.out); have NB194_181 := nG hg (bU BK181.out); replace BK181 := Aside0.mk (blk_below (bU BK181.out) hb); clear hb hbox hg; have hnb41 := NB194_181.out; have hnc41 := NB181_194.out; have hcz42_0 : w40.cell? ⟨gb194, 0, none⟩ = some (.int .i64 0) := (blk_cell BK194.out 0).trans rfl; have hcz42_1 : w40.cell? ⟨gb194, 1, none⟩ = some (.int .i64 0) := (blk_cell BK194.out 1).trans rfl; have hcz42_2 : w40.cell? ⟨gb194, 2, none⟩ = some (.slice none 0 0) := (blk_cell BK194.out 2).trans rfl; have hfz42_0 := blk_frozen BK194.out 0; have hfz42_1 := blk_frozen BK194.out 1; have hfz42_2 := blk_frozen BK194.out 2; obtain ⟨Ao43, co43, eo43⟩ := Kd.R_slice HO193.out; subst eo43) | ((with_reducible refine gate_store (t := 42) (p := 5) rfl ?_); refine store_event (t := 42) (p := 5) (v := ?vo_w44) (w1 := (((w40.setCell ⟨gb194, 0, none⟩ (.int .i64 t189)).setCell ⟨gb194, 1, none⟩ (.int .i64 t190)).setCell ⟨gb194, 2, none⟩ (.slice Ao43 t191.length co43))) ?hg ?ho ?hn ?hr ?_; (case ho => rfl); (case hg => rfl); (case hn => rfl); (case hr => first | (go_simp; done) | (go_simp; rfl) | (have hq0_ := (blk_cell BK194.out 0).trans (show _ = some _ from rfl); have hf0_ := blk_frozen BK194.out 0; have hq1_ := (blk_cell BK194.out 1).trans (show _ = some _ from rfl); have hf1_ := blk_frozen BK194.out 1; have hq2_ := (blk_cell BK194.out 2).trans (show _ = some _ from rfl); have hf2_ := blk_frozen BK194.out 2; first | (go_simp; done) | (go_simp; rfl))); intro w44 hw; replace HO187 : Aside0 (Kd.R k77 77 w44 w.heap.size (fun k_ => some k_ ≠ (.slice Ao43 t191.length co43 : Value).ownBlock) (.slice Ao36 t185.length co36) t185) := ⟨(by rw [hw]; exact (by (with_reducible repeat (first | apply Kd.R_alloc | apply Kd.R_drewN | apply Kd.R_drew)); exact Kd.R_mono (Kd.R_far (p := ⟨gb194, 2, none⟩) (Kd.R_far (p := ⟨gb194, 1, none⟩) (Kd.R_far (p := ⟨gb194, 0, none⟩) (Kd.R_types HO187.out BK194.out (by decide)) (fun _ hk => hk.2) (.int .i64 t189)) (fun _ hk => hk.2) (.int .i64 t190)) (fun _ hk => hk.2) (.slice Ao43 t191.length co43)) (fun _ hk => hk.1.2)))⟩; replace HO193 : Aside0 (Kd.R k77 77 w44 w.heap.size (fun k_ => some k_ ≠ (.slice Ao36 t185.length co36 : Value).ownBlock) (.slice Ao43 t191.length co43) t191) := ⟨(by rw [hw]; exact (by (with_reducible repeat (first | apply Kd.R_alloc | apply Kd.R_drewN | apply Kd.R_drew)); exact Kd.R_mono (Kd.R_far (p := ⟨gb194, 2, none⟩) (Kd.R_far (p := ⟨gb194, 1, none⟩) (Kd.R_far (p := ⟨gb194, 0, none⟩) (Kd.R_types HO193.out BK194.out (by decide)) (fun _ hk => hk.2) (.int .i64 t189)) (fun _ hk => hk.2) (.int .i64 t190)) (fun _ hk => hk.2) (.slice Ao43 t191.length co43)) (fun _ hk => hk.1.2)))⟩; replace BK181 : Aside0 (w44.heap[gb181]? = some (.cells #[.int .i64 a0_0, .int .i64 a0_1, .slice A0_2 l0_2.length c0_2] 37 (0, 0))) := ⟨(by rw [hw]; exact (bF NB181_194.out BK181.out))⟩; replace BK194 : Aside0 (w44.heap[gb194]? = some (.cells #[.int .i64 t189, .int .i64 t190, .slice Ao43 t191.length co43] 42 (0, 0))) := ⟨(by rw [hw]; exact (by refine bU ?_; refine blk_put (cs := #[.int .i64 t189, .int .i64 t190, .slice none 0 0]) ?_ 2 _ rfl; refine bU ?_; refine blk_put (cs := #[.int .i64 t189, .int .i64 0, .slice none 0 0]) ?_ 1 _ rfl; refine bU ?_; refine blk_put (cs := #[.int .i64 0, .int .i64 0, .slice none 0 0]) ?_ 0 _ rfl; refine bU ?_; exact BK194.out))⟩; replace HB : Aside0 (Below w.heap.size w w44) := ⟨(by rw [hw]; exact (lU2 GE181.out GE194.out))⟩; clear hw; have hcz45_0 : w44.cell? ⟨gb194, 0, none⟩ = some (.int .i64 t189) := (blk_cell BK194.out 0).trans rfl; have hcz45_1 : w44.cell? ⟨gb194, 1, none⟩ = some (.int .i64 t190) := (blk_cell BK194.out 1).trans rfl; have hcz45_2 : w44.cell? ⟨gb194, 2, none⟩ = some (.slice Ao43 t191.length co43) := (blk_cell BK194.out 2).trans rfl; have hfz45_0 := blk_frozen BK194.out 0; have hfz45_1 := blk_frozen BK194.out 1; have hfz45_2 := blk_frozen BK194.out 2) | ((with_reducible refine gate_callee (f := 21) rfl ?_); refine goesL_ (some 18) rfl rfl Try.func21 (by kernel_rfl) rfl #[.agg #[.int .i64 t189, .int .i64 t190, .slice Ao43 t191.length co43]] rfl aE ?_; (with_reducible refine (impl_GoodStore.calls k t189 t190 _ _ t191 t195 _ ?side1 ?side2 A10.out).mono ?_); (case side1 => exact cU (Kd.R_reads' HO193.out).2.2); (case side2 => exact (Kd.R_reads' HO193.out).2.1); rintro e w46 ⟨rfl, hb⟩; refine ⟨_, rfl, ?_⟩; replace HO187 := Aside0.mk (Kd.R_below (rU HO187.out) hb); replace HO193 := Aside0.mk (Kd.R_below (rU HO193.out) hb); replace BK181 := Aside0.mk (blk_below (bU BK181.out) hb); replace BK194 := Aside0.mk (blk_below (bU BK194.out) hb); replace HB := Aside0.mk (below_step (lU2 GE181.out GE194.out) hb); (try clear hb); (try clear hb2); (try clear hk); (try clear hi)))
    replace HO187 := Aside0.mk (Kd.R_drew HO187.out)
    replace HO193 := Aside0.mk (Kd.R_drew HO193.out)
    replace BK181 := Aside0.mk (blk_drew BK181.out)
    replace BK194 := Aside0.mk (blk_drew BK194.out)
    replace HB := Aside0.mk (below_drew1 HB.out)
    refine start_ (n := 5) (S := fun w' => w'.cell? ⟨gb194, 0, none⟩ = some (.int .i64 t189) ∧ w'.cell? ⟨gb194, 1, none⟩ = some (.int .i64 t190) ∧ w'.cell? ⟨gb194, 2, none⟩ = some (.slice Ao43 t191.length co43) ∧ w'.cell? ⟨gb181, 0, none⟩ = some (.int .i64 a0_0) ∧ w'.cell? ⟨gb181, 1, none⟩ = some (.int .i64 a0_1) ∧ w'.cell? ⟨gb181, 2, none⟩ = some (.slice A0_2 l0_2.length c0_2)) (ds := []) #[false, false, false, false, false] (by kernel_rfl) rfl rfl ⟨(blk_cell BK194.out 0).trans rfl, (blk_cell BK194.out 1).trans rfl, (blk_cell BK194.out 2).trans rfl, (blk_cell BK181.out 0).trans rfl, (blk_cell BK181.out 1).trans rfl, (blk_cell BK181.out 2).trans rfl⟩ (fun hHeld => ?_)
    generalize w46.drew = w47 at HO187 HO193 BK181 BK194 HB hHeld ⊢
    refine take_ (i := 0) (N := some 22) (v := ?_) (a' := ?_) (bz 5 1) rfl rfl (by kernel_rfl) (fun _ _ _ h => h) (Or.inl ⟨by rfl, ?_⟩) hHeld ?_ ?_
    rotate_left
    ·rintro w' ⟨s0, s1, s2, s3, s4, s5⟩
     go_simp
     with_reducible rfl
    rotate_left
    ·simp only [Act.put, List.setIfInBounds_toArray, List.set_cons_zero, List.set_cons_succ, i64_w, i32_w]
     rfl
    refine take_ (i := 1) (N := some 23) (v := ?_) (a' := ?_) (bz 5 3) rfl rfl (by kernel_rfl) (fun _ _ _ h => h) (Or.inl ⟨by rfl, ?_⟩) hHeld ?_ ?_
    rotate_left
    ·rintro w' ⟨s0, s1, s2, s3, s4, s5⟩
     go_simp
     with_reducible rfl
    rotate_left
    ·simp only [Act.put, List.setIfInBounds_toArray, List.set_cons_zero, List.set_cons_succ, i64_w, i32_w]
     rfl
    refine one_ (i := 2) (N := some 24) (bz 5 7) rfl rfl (by kernel_rfl) (by decide) (fun K hK => ?_)
    refine goes_ Try.func20 (by kernel_rfl) rfl #[.agg #[.int .i64 a0_0, .int .i64 a0_1, .slice A0_2 l0_2.length c0_2]] (by rfl) rfl rfl aE ?_
    with_reducible refine (laws_toStore.calls k a0_0 a0_1 _ _ l0_2 t196 t197 t198 _ ?side1 ?side2 A28.out).mono ?_
    (case side1 => exact cU (Kd.C_below HR0_2.out HB.out))
    (case side2 => exact HC0_2.out)
    rintro e w48 ⟨v199, rfl, ho0, hb⟩
    refine ⟨_, rfl, ?_⟩
    have HO200 := Aside0.mk (Kd.R_lower (Kd.R_new' (Kd.R_new' ho0 (Kd.R_lt (rU HO187.out))) (Kd.R_lt (rU HO193.out))) (below_size (lU2 GE181.out GE194.out)))
    replace HO187 := Aside0.mk (Kd.R_elder' (rU HO187.out) (Kd.R_base ho0) hb)
    replace HO193 := Aside0.mk (Kd.R_elder' (rU HO193.out) (Kd.R_base ho0) hb)
    replace BK181 := Aside0.mk (blk_below (bU BK181.out) hb)
    replace BK194 := Aside0.mk (blk_below (bU BK194.out) hb)
    replace HB := Aside0.mk (below_step (lU2 GE181.out GE194.out) hb)
    (try clear hb)
    (try clear hb2)
    (try clear hk)
    (try clear hi)
    (try clear ho0)
    obtain ⟨Ao49, co49, eo49⟩ := Kd.R_slice HO200.out
    (first | subst eo49 | (injection eo49 with f1_ f2_ f3_; have f4_ := f1_.symm; have f5_ := f3_.symm; clear f1_ f2_ f3_; subst f4_; subst f5_))
    refine hK.out _ _ ⟨(blk_cell BK194.out 0).trans rfl, (blk_cell BK194.out 1).trans rfl, (blk_cell BK194.out 2).trans rfl, (blk_cell BK181.out 0).trans rfl, (blk_cell BK181.out 1).trans rfl, (blk_cell BK181.out 2).trans rfl⟩ (fun hHeld => ?_)
    clear hK K
    refine norm_ (a' := ?_) ?_ ?_
    rotate_left
    ·show Act.put _ (some 24) _ = _
     simp only [Act.put, List.setIfInBounds_toArray, List.set_cons_zero, List.set_cons_succ, i64_w, i32_w]
     rfl
    refine one_ (i := 3) (N := some 25) (bz 5 15) rfl rfl (by kernel_rfl) (by decide) (fun K hK => ?_)
    refine goes_ Try.func22 (by kernel_rfl) rfl #[.agg #[.int .i64 t189, .int .i64 t190, .slice Ao43 t191.length co43], .agg #[.int .i64 t196, .int .i64 t197, .slice Ao49 t198.length co49]] (by rfl) rfl rfl aE ?_
    with_reducible refine (laws_eqStore.calls k t189 t190 _ _ t191 t196 t197 _ _ t198 true _ ?side1 ?side2 ?side3 ?side4 A29.out).mono ?_
    (case side1 => exact cU (Kd.R_reads' HO193.out).2.2)
    (case side2 => exact (Kd.R_reads' HO193.out).2.1)
    (case side3 => exact cU (Kd.R_reads' HO200.out).2.2)
    (case side4 => exact (Kd.R_reads' HO200.out).2.1)
    rintro e w50 ⟨rfl, hb⟩
    refine ⟨_, rfl, ?_⟩
    replace HO187 := Aside0.mk (Kd.R_below (rU HO187.out) hb)
    replace HO193 := Aside0.mk (Kd.R_below (rU HO193.out) hb)
    replace HO200 := Aside0.mk (Kd.R_below (rU HO200.out) hb)
    replace BK181 := Aside0.mk (blk_below (bU BK181.out) hb)
    replace BK194 := Aside0.mk (blk_below (bU BK194.out) hb)
    replace HB := Aside0.mk (below_step (lU2 GE181.out GE194.out) hb)
    (try clear hb)
    (try clear hb2)
    (try clear hk)
    (try clear hi)
    refine hK.out _ _ ⟨(blk_cell BK194.out 0).trans rfl, (blk_cell BK194.out 1).trans rfl, (blk_cell BK194.out 2).trans rfl, (blk_cell BK181.out 0).trans rfl, (blk_cell BK181.out 1).trans rfl, (blk_cell BK181.out 2).trans rfl⟩ (fun hHeld => ?_)
    clear hK K
    refine norm_ (a' := ?_) ?_ ?_
    rotate_left
    ·show Act.put _ (some 25) _ = _
     simp only [Act.put, List.setIfInBounds_toArray, List.set_cons_zero, List.set_cons_succ, i64_w, i32_w]
     rfl
    refine pure_ (i := 4) (N := some 26) (v := ?_) (a' := ?_) (bz 5 31) rfl rfl (by kernel_rfl) (fun _ _ _ h => h) (Or.inl ⟨by rfl, ?_⟩) ?_ ?_
    rotate_left
    ·intro w'
     go_simp
     with_reducible rfl
    rotate_left
    ·simp only [Act.put, List.setIfInBounds_toArray, List.set_cons_zero, List.set_cons_succ, i64_w, i32_w]
     rfl
    refine done_ (by kernel_rfl) ?_
    try go_wp2
    go_ret
    exact ⟨eE, lU2 GE181.out GE194.out⟩
   ·replace c30 := Bool.eq_false_iff.mpr c30
    subst c30
    have H1 : (some false) = some r := by rw [if_neg (show ¬ (false = true) by decide)] at H; exact H
    clear H
    have H := H1
    clear H1
    obtain rfl := Option.some.inj H
    go_enter Try.func5, Try.ntmps5
    try go_wp2_with (first | ((with_reducible refine gate_dst (N := 1) rfl ?_); refine box_event rfl (N := 1) rfl (cs := #[.int .i64 a0_0, .int .i64 a0_1, .slice A0_2 l0_2.length c0_2]) (t := 37) sE ?_; intro gb181 hg w51 hbox hb; have BK181 := Aside0.mk hbox; have GW181 := gS w hg (lU); have GE181 := gS w hg (lU); replace HB := Aside0.mk (below_step (lU) hb); clear hb hbox hg; have hcz52_0 : w51.cell? ⟨gb181, 0, none⟩ = some (.int .i64 a0_0) := (blk_cell BK181.out 0).trans rfl; have hcz52_1 : w51.cell? ⟨gb181, 1, none⟩ = some (.int .i64 a0_1) := (blk_cell BK181.out 1).trans rfl; have hcz52_2 : w51.cell? ⟨gb181, 2, none⟩ = some (.slice A0_2 l0_2.length c0_2) := (blk_cell BK181.out 2).trans rfl; have hfz52_0 := blk_frozen BK181.out 0; have hfz52_1 := blk_frozen BK181.out 1; have hfz52_2 := blk_frozen BK181.out 2) | ((with_reducible refine gate_callee (f := 18) rfl ?_); refine goesL_ (some 9) rfl rfl Try.func18 (by kernel_rfl) rfl #[.agg #[.int .i64 a0_0, .int .i64 a0_1, .slice A0_2 l0_2.length c0_2], .int .i64 1048576] rfl aE ?_; (with_reducible refine (laws_szStore.calls k a0_0 a0_1 _ _ l0_2 1048576 t182 _ ?side1 ?side2 A2.out).mono ?_); (case side1 => exact cU (Kd.C_below HR0_2.out HB.out)); (case side2 => exact HC0_2.out); rintro e w53 ⟨rfl, hb⟩; refine ⟨_, rfl, ?_⟩; replace BK181 := Aside0.mk (blk_below (bU BK181.out) hb); replace HB := Aside0.mk (below_step (lU1 GE181.out) hb); (try clear hb); (try clear hb2); (try clear hk); (try clear hi); have hcz54_0 : w53.cell? ⟨gb181, 0, none⟩ = some (.int .i64 a0_0) := (blk_cell BK181.out 0).trans rfl; have hcz54_1 : w53.cell? ⟨gb181, 1, none⟩ = some (.int .i64 a0_1) := (blk_cell BK181.out 1).trans rfl; have hcz54_2 : w53.cell? ⟨gb181, 2, none⟩ = some (.slice A0_2 l0_2.length c0_2) := (blk_cell BK181.out 2).trans rfl; have hfz54_0 := blk_frozen BK181.out 0; have hfz54_1 := blk_frozen BK181.out 1; have hfz54_2 := blk_frozen BK181.out 2) | ((with_reducible refine gate_callee (f := 20) rfl ?_); refine goesL_ (some 13) rfl rfl Try.func20 (by kernel_rfl) rfl #[.agg #[.int .i64 a0_0, .int .i64 a0_1, .slice A0_2 l0_2.length c0_2]] rfl aE ?_; (with_reducible refine (laws_toStore.calls k a0_0 a0_1 _ _ l0_2 t183 t184 t185 _ ?side1 ?side2 A7.out).mono ?_); (case side1 => exact cU (Kd.C_below HR0_2.out HB.out)); (case side2 => exact HC0_2.out); rintro e w55 ⟨v186, rfl, ho0, hb⟩; refine ⟨_, rfl, ?_⟩; have HO187 := Aside0.mk (Kd.R_lower ho0 (below_size (lU1 GE181.out))); replace BK181 := Aside0.mk (blk_below (bU BK181.out) hb); replace HB := Aside0.mk (below_step (lU1 GE181.out) hb); (try clear hb); (try clear hb2); (try clear hk); (try clear hi); (try clear ho0); obtain ⟨Ao56, co56, eo56⟩ := Kd.R_slice HO187.out; subst eo56) | ((with_reducible refine gate_callee (f := 19) rfl ?_); refine goesL_ (some 14) rfl rfl Try.func19 (by kernel_rfl) rfl #[.agg #[.int .i64 t183, .int .i64 t184, .slice Ao56 t185.length co56]] rfl aE ?_; (with_reducible refine (spec_GoodStore.calls k t183 t184 _ _ t185 t188 _ ?side1 ?side2 A8.out).mono ?_); (case side1 => exact cU (Kd.R_reads' HO187.out).2.2); (case side2 => exact (Kd.R_reads' HO187.out).2.1); rintro e w57 ⟨rfl, hb⟩; refine ⟨_, rfl, ?_⟩; replace HO187 := Aside0.mk (Kd.R_below (rU HO187.out) hb); replace BK181 := Aside0.mk (blk_below (bU BK181.out) hb); replace HB := Aside0.mk (below_step (lU1 GE181.out) hb); (try clear hb); (try clear hb2); (try clear hk); (try clear hi); have hcz58_0 : w57.cell? ⟨gb181, 0, none⟩ = some (.int .i64 a0_0) := (blk_cell BK181.out 0).trans rfl; have hcz58_1 : w57.cell? ⟨gb181, 1, none⟩ = some (.int .i64 a0_1) := (blk_cell BK181.out 1).trans rfl; have hcz58_2 : w57.cell? ⟨gb181, 2, none⟩ = some (.slice A0_2 l0_2.length c0_2) := (blk_cell BK181.out 2).trans rfl; have hfz58_0 := blk_frozen BK181.out 0; have hfz58_1 := blk_frozen BK181.out 1; have hfz58_2 := blk_frozen BK181.out 2) | ((with_reducible refine gate_callee (f := 20) rfl ?_); refine goesL_ (some 16) rfl rfl Try.func20 (by kernel_rfl) rfl #[.agg #[.int .i64 a0_0, .int .i64 a0_1, .slice A0_2 l0_2.length c0_2]] rfl aE ?_; (with_reducible refine (laws_toStore.calls k a0_0 a0_1 _ _ l0_2 t189 t190 t191 _ ?side1 ?side2 A9.out).mono ?_); (case side1 => exact cU (Kd.C_below HR0_2.out HB.out)); (case side2 => exact HC0_2.out); rintro e w59 ⟨v192, rfl, ho0, hb⟩; refine ⟨_, rfl, ?_⟩; have HO193 := Aside0.mk (Kd.R_lower (Kd.R_new' ho0 (Kd.R_lt (rU HO187.out))) (below_size (lU1 GE181.out))); replace HO187 := Aside0.mk (Kd.R_elder' (rU HO187.out) (Kd.R_base ho0) hb); replace BK181 := Aside0.mk (blk_below (bU BK181.out) hb); replace HB := Aside0.mk (below_step (lU1 GE181.out) hb); (try clear hb); (try clear hb2); (try clear hk); (try clear hi); (try clear ho0)) | ((with_reducible refine gate_dst (N := 5) rfl ?_); refine box_event rfl (N := 5) rfl (cs := #[.int .i64 0, .int .i64 0, .slice none 0 0]) (t := 42) sE ?_; intro gb194 hg w60 hbox hb; replace HO187 := Aside0.mk (Kd.R_below (rU HO187.out) hb); replace HO193 := Aside0.mk (Kd.R_below (rU HO193.out) hb); have BK194 := Aside0.mk hbox; have GW194 := gS w hg (lU1 GE181.out); have GE194 := gS w hg (lU1 GE181.out); replace HB := Aside0.mk (below_step (lU1 GE181.out) hb); have NB181_194 := nL hg (bU BK181.out); have NB194_181 := nG hg (bU BK181.out); replace BK181 := Aside0.mk (blk_below (bU BK181.out) hb); clear hb hbox hg; have hnb61 := NB194_181.out; have hnc61 := NB181_194.out; have hcz62_0 : w60.cell? ⟨gb194, 0, none⟩ = some (.int .i64 0) := (blk_cell BK194.out 0).trans rfl; have hcz62_1 : w60.cell? ⟨gb194, 1, none⟩ = some (.int .i64 0) := (blk_cell BK194.out 1).trans rfl; have hcz62_2 : w60.cell? ⟨gb194, 2, none⟩ = some (.slice none 0 0) := (blk_cell BK194.out 2).trans rfl; have hfz62_0 := blk_frozen BK194.out 0; have hfz62_1 := blk_frozen BK194.out 1; have hfz62_2 := blk_frozen BK194.out 2; obtain ⟨Ao63, co63, eo63⟩ := Kd.R_slice HO193.out; subst eo63) | ((with_reducible refine gate_store (t := 42) (p := 5) rfl ?_); refine store_event (t := 42) (p := 5) (v := ?vo_w64) (w1 := (((w60.setCell ⟨gb194, 0, none⟩ (.int .i64 t189)).setCell ⟨gb194, 1, none⟩ (.int .i64 t190)).setCell ⟨gb194, 2, none⟩ (.slice Ao63 t191.length co63))) ?hg ?ho ?hn ?hr ?_; (case ho => rfl); (case hg => rfl); (case hn => rfl); (case hr => first | (go_simp; done) | (go_simp; rfl) | (have hq0_ := (blk_cell BK194.out 0).trans (show _ = some _ from rfl); have hf0_ := blk_frozen BK194.out 0; have hq1_ := (blk_cell BK194.out 1).trans (show _ = some _ from rfl); have hf1_ := blk_frozen BK194.out 1; have hq2_ := (blk_cell BK194.out 2).trans (show _ = some _ from rfl); have hf2_ := blk_frozen BK194.out 2; first | (go_simp; done) | (go_simp; rfl))); intro w64 hw; replace HO187 : Aside0 (Kd.R k77 77 w64 w.heap.size (fun k_ => some k_ ≠ (.slice Ao63 t191.length co63 : Value).ownBlock) (.slice Ao56 t185.length co56) t185) := ⟨(by rw [hw]; exact (by (with_reducible repeat (first | apply Kd.R_alloc | apply Kd.R_drewN | apply Kd.R_drew)); exact Kd.R_mono (Kd.R_far (p := ⟨gb194, 2, none⟩) (Kd.R_far (p := ⟨gb194, 1, none⟩) (Kd.R_far (p := ⟨gb194, 0, none⟩) (Kd.R_types HO187.out BK194.out (by decide)) (fun _ hk => hk.2) (.int .i64 t189)) (fun _ hk => hk.2) (.int .i64 t190)) (fun _ hk => hk.2) (.slice Ao63 t191.length co63)) (fun _ hk => hk.1.2)))⟩; replace HO193 : Aside0 (Kd.R k77 77 w64 w.heap.size (fun k_ => some k_ ≠ (.slice Ao56 t185.length co56 : Value).ownBlock) (.slice Ao63 t191.length co63) t191) := ⟨(by rw [hw]; exact (by (with_reducible repeat (first | apply Kd.R_alloc | apply Kd.R_drewN | apply Kd.R_drew)); exact Kd.R_mono (Kd.R_far (p := ⟨gb194, 2, none⟩) (Kd.R_far (p := ⟨gb194, 1, none⟩) (Kd.R_far (p := ⟨gb194, 0, none⟩) (Kd.R_types HO193.out BK194.out (by decide)) (fun _ hk => hk.2) (.int .i64 t189)) (fun _ hk => hk.2) (.int .i64 t190)) (fun _ hk => hk.2) (.slice Ao63 t191.length co63)) (fun _ hk => hk.1.2)))⟩; replace BK181 : Aside0 (w64.heap[gb181]? = some (.cells #[.int .i64 a0_0, .int .i64 a0_1, .slice A0_2 l0_2.length c0_2] 37 (0, 0))) := ⟨(by rw [hw]; exact (bF NB181_194.out BK181.out))⟩; replace BK194 : Aside0 (w64.heap[gb194]? = some (.cells #[.int .i64 t189, .int .i64 t190, .slice Ao63 t191.length co63] 42 (0, 0))) := ⟨(by rw [hw]; exact (by refine bU ?_; refine blk_put (cs := #[.int .i64 t189, .int .i64 t190, .slice none 0 0]) ?_ 2 _ rfl; refine bU ?_; refine blk_put (cs := #[.int .i64 t189, .int .i64 0, .slice none 0 0]) ?_ 1 _ rfl; refine bU ?_; refine blk_put (cs := #[.int .i64 0, .int .i64 0, .slice none 0 0]) ?_ 0 _ rfl; refine bU ?_; exact BK194.out))⟩; replace HB : Aside0 (Below w.heap.size w w64) := ⟨(by rw [hw]; exact (lU2 GE181.out GE194.out))⟩; clear hw; have hcz65_0 : w64.cell? ⟨gb194, 0, none⟩ = some (.int .i64 t189) := (blk_cell BK194.out 0).trans rfl; have hcz65_1 : w64.cell? ⟨gb194, 1, none⟩ = some (.int .i64 t190) := (blk_cell BK194.out 1).trans rfl; have hcz65_2 : w64.cell? ⟨gb194, 2, none⟩ = some (.slice Ao63 t191.length co63) := (blk_cell BK194.out 2).trans rfl; have hfz65_0 := blk_frozen BK194.out 0; have hfz65_1 := blk_frozen BK194.out 1; have hfz65_2 := blk_frozen BK194.out 2) | ((with_reducible refine gate_callee (f := 21) rfl ?_); refine goesL_ (some 18) rfl rfl Try.func21 (by kernel_rfl) rfl #[.agg #[.int .i64 t189, .int .i64 t190, .slice Ao63 t191.length co63]] rfl aE ?_; (with_reducible refine (impl_GoodStore.calls k t189 t190 _ _ t191 t195 _ ?side1 ?side2 A10.out).mono ?_); (case side1 => exact cU (Kd.R_reads' HO193.out).2.2); (case side2 => exact (Kd.R_reads' HO193.out).2.1); rintro e w66 ⟨rfl, hb⟩; refine ⟨_, rfl, ?_⟩; replace HO187 := Aside0.mk (Kd.R_below (rU HO187.out) hb); replace HO193 := Aside0.mk (Kd.R_below (rU HO193.out) hb); replace BK181 := Aside0.mk (blk_below (bU BK181.out) hb); replace BK194 := Aside0.mk (blk_below (bU BK194.out) hb); replace HB := Aside0.mk (below_step (lU2 GE181.out GE194.out) hb); (try clear hb); (try clear hb2); (try clear hk); (try clear hi)))
    replace HO187 := Aside0.mk (Kd.R_drew HO187.out)
    replace HO193 := Aside0.mk (Kd.R_drew HO193.out)
    replace BK181 := Aside0.mk (blk_drew BK181.out)
    replace BK194 := Aside0.mk (blk_drew BK194.out)
    replace HB := Aside0.mk (below_drew1 HB.out)
    refine start_ (n := 5) (S := fun w' => w'.cell? ⟨gb194, 0, none⟩ = some (.int .i64 t189) ∧ w'.cell? ⟨gb194, 1, none⟩ = some (.int .i64 t190) ∧ w'.cell? ⟨gb194, 2, none⟩ = some (.slice Ao63 t191.length co63) ∧ w'.cell? ⟨gb181, 0, none⟩ = some (.int .i64 a0_0) ∧ w'.cell? ⟨gb181, 1, none⟩ = some (.int .i64 a0_1) ∧ w'.cell? ⟨gb181, 2, none⟩ = some (.slice A0_2 l0_2.length c0_2)) (ds := []) #[false, false, false, false, false] (by kernel_rfl) rfl rfl ⟨(blk_cell BK194.out 0).trans rfl, (blk_cell BK194.out 1).trans rfl, (blk_cell BK194.out 2).trans rfl, (blk_cell BK181.out 0).trans rfl, (blk_cell BK181.out 1).trans rfl, (blk_cell BK181.out 2).trans rfl⟩ (fun hHeld => ?_)
    generalize w66.drew = w67 at HO187 HO193 BK181 BK194 HB hHeld ⊢
    refine take_ (i := 0) (N := some 22) (v := ?_) (a' := ?_) (bz 5 1) rfl rfl (by kernel_rfl) (fun _ _ _ h => h) (Or.inl ⟨by rfl, ?_⟩) hHeld ?_ ?_
    rotate_left
    ·rintro w' ⟨s0, s1, s2, s3, s4, s5⟩
     go_simp
     with_reducible rfl
    rotate_left
    ·simp only [Act.put, List.setIfInBounds_toArray, List.set_cons_zero, List.set_cons_succ, i64_w, i32_w]
     rfl
    refine take_ (i := 1) (N := some 23) (v := ?_) (a' := ?_) (bz 5 3) rfl rfl (by kernel_rfl) (fun _ _ _ h => h) (Or.inl ⟨by rfl, ?_⟩) hHeld ?_ ?_
    rotate_left
    ·rintro w' ⟨s0, s1, s2, s3, s4, s5⟩
     go_simp
     with_reducible rfl
    rotate_left
    ·simp only [Act.put, List.setIfInBounds_toArray, List.set_cons_zero, List.set_cons_succ, i64_w, i32_w]
     rfl
    refine one_ (i := 2) (N := some 24) (bz 5 7) rfl rfl (by kernel_rfl) (by decide) (fun K hK => ?_)
    refine goes_ Try.func20 (by kernel_rfl) rfl #[.agg #[.int .i64 a0_0, .int .i64 a0_1, .slice A0_2 l0_2.length c0_2]] (by rfl) rfl rfl aE ?_
    with_reducible refine (laws_toStore.calls k a0_0 a0_1 _ _ l0_2 t196 t197 t198 _ ?side1 ?side2 A28.out).mono ?_
    (case side1 => exact cU (Kd.C_below HR0_2.out HB.out))
    (case side2 => exact HC0_2.out)
    rintro e w68 ⟨v199, rfl, ho0, hb⟩
    refine ⟨_, rfl, ?_⟩
    have HO200 := Aside0.mk (Kd.R_lower (Kd.R_new' (Kd.R_new' ho0 (Kd.R_lt (rU HO187.out))) (Kd.R_lt (rU HO193.out))) (below_size (lU2 GE181.out GE194.out)))
    replace HO187 := Aside0.mk (Kd.R_elder' (rU HO187.out) (Kd.R_base ho0) hb)
    replace HO193 := Aside0.mk (Kd.R_elder' (rU HO193.out) (Kd.R_base ho0) hb)
    replace BK181 := Aside0.mk (blk_below (bU BK181.out) hb)
    replace BK194 := Aside0.mk (blk_below (bU BK194.out) hb)
    replace HB := Aside0.mk (below_step (lU2 GE181.out GE194.out) hb)
    (try clear hb)
    (try clear hb2)
    (try clear hk)
    (try clear hi)
    (try clear ho0)
    obtain ⟨Ao69, co69, eo69⟩ := Kd.R_slice HO200.out
    (first | subst eo69 | (injection eo69 with f1_ f2_ f3_; have f4_ := f1_.symm; have f5_ := f3_.symm; clear f1_ f2_ f3_; subst f4_; subst f5_))
    refine hK.out _ _ ⟨(blk_cell BK194.out 0).trans rfl, (blk_cell BK194.out 1).trans rfl, (blk_cell BK194.out 2).trans rfl, (blk_cell BK181.out 0).trans rfl, (blk_cell BK181.out 1).trans rfl, (blk_cell BK181.out 2).trans rfl⟩ (fun hHeld => ?_)
    clear hK K
    refine norm_ (a' := ?_) ?_ ?_
    rotate_left
    ·show Act.put _ (some 24) _ = _
     simp only [Act.put, List.setIfInBounds_toArray, List.set_cons_zero, List.set_cons_succ, i64_w, i32_w]
     rfl
    refine one_ (i := 3) (N := some 25) (bz 5 15) rfl rfl (by kernel_rfl) (by decide) (fun K hK => ?_)
    refine goes_ Try.func22 (by kernel_rfl) rfl #[.agg #[.int .i64 t189, .int .i64 t190, .slice Ao63 t191.length co63], .agg #[.int .i64 t196, .int .i64 t197, .slice Ao69 t198.length co69]] (by rfl) rfl rfl aE ?_
    with_reducible refine (laws_eqStore.calls k t189 t190 _ _ t191 t196 t197 _ _ t198 false _ ?side1 ?side2 ?side3 ?side4 A29.out).mono ?_
    (case side1 => exact cU (Kd.R_reads' HO193.out).2.2)
    (case side2 => exact (Kd.R_reads' HO193.out).2.1)
    (case side3 => exact cU (Kd.R_reads' HO200.out).2.2)
    (case side4 => exact (Kd.R_reads' HO200.out).2.1)
    rintro e w70 ⟨rfl, hb⟩
    refine ⟨_, rfl, ?_⟩
    replace HO187 := Aside0.mk (Kd.R_below (rU HO187.out) hb)
    replace HO193 := Aside0.mk (Kd.R_below (rU HO193.out) hb)
    replace HO200 := Aside0.mk (Kd.R_below (rU HO200.out) hb)
    replace BK181 := Aside0.mk (blk_below (bU BK181.out) hb)
    replace BK194 := Aside0.mk (blk_below (bU BK194.out) hb)
    replace HB := Aside0.mk (below_step (lU2 GE181.out GE194.out) hb)
    (try clear hb)
    (try clear hb2)
    (try clear hk)
    (try clear hi)
    refine hK.out _ _ ⟨(blk_cell BK194.out 0).trans rfl, (blk_cell BK194.out 1).trans rfl, (blk_cell BK194.out 2).trans rfl, (blk_cell BK181.out 0).trans rfl, (blk_cell BK181.out 1).trans rfl, (blk_cell BK181.out 2).trans rfl⟩ (fun hHeld => ?_)
    clear hK K
    refine norm_ (a' := ?_) ?_ ?_
    rotate_left
    ·show Act.put _ (some 25) _ = _
     simp only [Act.put, List.setIfInBounds_toArray, List.set_cons_zero, List.set_cons_succ, i64_w, i32_w]
     rfl
    refine pure_ (i := 4) (N := some 26) (v := ?_) (a' := ?_) (bz 5 31) rfl rfl (by kernel_rfl) (fun _ _ _ h => h) (Or.inl ⟨by rfl, ?_⟩) ?_ ?_
    rotate_left
    ·intro w'
     go_simp
     with_reducible rfl
    rotate_left
    ·simp only [Act.put, List.setIfInBounds_toArray, List.set_cons_zero, List.set_cons_succ, i64_w, i32_w]
     rfl
    refine done_ (by kernel_rfl) ?_
    try go_wp2
    go_ret
    exact ⟨eE, lU2 GE181.out GE194.out⟩
end Go.Proofs.Ytifejplilaefiaa.PFnExactGoodStore
namespace Go.Proofs.YtifejplilaefiaaO
open Go.ChangeShapes Go.WideShapes Go.Proofs.YtifejplilaefiaaW.PrintWords Go.RowKit
def In64 (n : Int) : Prop := -9223372036854775808 ≤ n ∧ n ≤ 9223372036854775807
def Opens {α : Type} (P : Program) (t : TypeId) (d : Kd α) (g : α → Prop) : Prop :=
  ∀ {H : Type} (enc : TypeId × Value → H) (w : World) (fuel : Nat) (cs : List Value) (y : DataW H) (ps : List MemPlace),
    DataW.trod enc P w 0 (fun _ => true) true fuel t cs = some (y, ps) → (∀ n ∈ y.weights P t, n ≤ reachBytes) → ∃ x, d.K w x cs ∧ g x
theorem Opens.imp {α : Type} {P : Program} {t : TypeId} {d : Kd α} {g g' : α → Prop} (h : Opens P t d g) (k : ∀ x, g x → g' x) : Opens P t d g' := by
  intro H enc w fuel cs y ps ht hw
  obtain ⟨x, hx, hg⟩ := h enc w fuel cs y ps ht hw
  exact ⟨x, hx, k x hg⟩
theorem opens_int {P : Program} {t : TypeId} {k : IntKind} (ht : P.underlying t = some (.int k)) : Opens P t (Kd.int k) (fun n => (Lit.int k n).wf = true) := by
  intro H enc w fuel cs y ps h _
  obtain ⟨n, rfl, _, hw⟩ := DataW.trod_int ht h
  exact ⟨n, rfl, hw⟩
theorem wf_i64 {n : Int} (h : (Lit.int .i64 n).wf = true) : In64 n := bounds_i64 h
theorem opens_i64 {P : Program} {t : TypeId} (ht : P.underlying t = some (.int .i64)) : Opens P t (Kd.int .i64) In64 := Opens.imp (opens_int ht) fun _ h => wf_i64 h
theorem opens_string {P : Program} {t : TypeId} (ht : P.underlying t = some .string) : Opens P t Kd.string (fun s => s.size ≤ 140737488351232) := by
  intro H enc w fuel cs y ps h hw
  obtain ⟨s, rfl, hx, _⟩ := DataW.trod_string ht h
  obtain ⟨rfl, _⟩ := Prod.mk.inj hx
  refine ⟨s, rfl, ?_⟩
  have := hw s.data.toList.length (by simp [DataW.weights])
  rw [Array.length_toList] at this
  exact this
theorem exists_list {α : Type} (p : Nat → α → Prop) : ∀ n : Nat, (∀ i, i < n → ∃ x, p i x) → ∃ xs : List α, xs.length = n ∧ ∀ i x, xs[i]? = some x → p i x
  | 0, _ => ⟨[], rfl, fun i x h => by simp at h⟩
  | n + 1, h => by
    obtain ⟨xs, hl, hx⟩ := exists_list p n (fun i hi => h i (by omega))
    obtain ⟨x, hp⟩ := h n (by omega)
    refine ⟨xs ++ [x], by simp [hl], fun i y hy => ?_⟩
    rcases Nat.lt_or_ge i xs.length with hi | hi
    · rw [List.getElem?_append_left hi] at hy
      exact hx i y hy
    · have : i = n := by
        have := (List.getElem?_eq_some_iff.1 hy).1
        rw [List.length_append, List.length_singleton] at this
        omega
      subst this
      rw [List.getElem?_append_right hi] at hy
      rw [hl] at hy
      simp at hy
      subst hy
      exact hp
theorem add_add (ad : Addr) (i j : Nat) : (ad.add i).add j = ad.add (i + j) := by
  unfold Addr.add
  by_cases h1 : i = 0 <;> by_cases h2 : j = 0 <;> simp [h1, h2, Nat.add_assoc]
theorem weightsAll_mem {H : Type} {P : Program} {e : TypeId} : ∀ {l : List (DataW H)} {d : DataW H}, d ∈ l → ∀ n ∈ d.weights P e, n ∈ DataW.weightsAll P e l
  | [], d, h, _, _ => by simp at h
  | x :: r, d, h, n, hn => by
    simp only [DataW.weightsAll, List.mem_append]
    rcases List.mem_cons.1 h with rfl | h
    · exact .inl hn
    · exact .inr (weightsAll_mem h n hn)
theorem opens_slice {α : Type} {P : Program} {t e : TypeId} {d : Kd α} {g : α → Prop} {B : Nat} (ht : P.underlying t = some (.slice e)) (hs : P.cellsOf e = d.sz) (hB : P.bytesOf e = B) (h : Opens P e d g) :
    Opens P t (Kd.slice e d) (fun xs => xs.length * B ≤ 140737488351232 ∧ ∀ x ∈ xs, g x) := by
  intro H enc w fuel cs y ps hy hw
  rcases DataW.trod_slice ht hy with ⟨rfl, _⟩ | ⟨a, len, cap, elems, rest, n, rfl, rfl, hx, _, hlc, hcm, hel, hget, _, _⟩
  · exact ⟨[], ⟨none, 0, rfl, Nat.le_refl _, Kd.C_nil d w⟩, by simp⟩
  · obtain ⟨rfl, _⟩ := Prod.mk.inj hx
    simp only [DataW.weights, ht] at hw
    have hlen : len * B ≤ 140737488351232 := by
      have := hw _ List.mem_cons_self
      simp only [List.length_map, hB] at this
      have h2 : len * B ≤ (elems.length + rest.length) * B := Nat.mul_le_mul_right _ (by omega)
      exact Nat.le_trans h2 this
    have key : ∀ i, i < len → ∃ x, (∃ c, c.length = d.sz ∧ d.K w x c ∧ ∀ j u, c[j]? = some u → w.cell? (a.add (i * d.sz + j)) = some u) ∧ g x := by
      intro i hi
      have hg := hget i hi
      rw [List.getElem?_eq_getElem (by omega), Option.bind_eq_some_iff] at hg
      obtain ⟨c, hc, hd⟩ := hg
      obtain ⟨_, hcl, hcell⟩ := World.cells?_some hc
      obtain ⟨x, hK, hgx⟩ := h enc w n c _ _ hd (fun m hm => hw m (List.mem_cons_of_mem _ (List.mem_append_left _ (weightsAll_mem (List.mem_map_of_mem (List.getElem_mem _)) m hm))))
      refine ⟨x, ⟨c, hcl.trans hs, hK, fun j u hj => ?_⟩, hgx⟩
      have hjl : j < P.cellsOf e := by
        have := (List.getElem?_eq_some_iff.1 hj).1
        omega
      have := hcell j hjl
      rw [add_add, hj, hs] at this
      exact this
    obtain ⟨xs, hxl, hxs⟩ := exists_list _ len key
    refine ⟨xs, ⟨some a, cap, by rw [hxl], by omega, hxl ▸ ⟨hxl, by simp only [maxLen] at hcm; omega, fun _ => ⟨a, rfl, fun j p hp => (hxs j p hp).1⟩⟩⟩, by rw [hxl]; exact hlen, fun x hx => ?_⟩
    obtain ⟨i, hi, rfl⟩ := List.getElem_of_mem hx
    exact (hxs i _ (List.getElem?_eq_getElem hi)).2
theorem opens_iso {α β : Type} {P : Program} {t : TypeId} {d : Kd α} {g : α → Prop} (f : β → α) (inv : α → β) (hi : ∀ x, f (inv x) = x) (h : Opens P t d g) : Opens P t (Kd.iso d f) (fun x => g (f x)) := by
  intro H enc w fuel cs y ps hy hw
  obtain ⟨x, hK, hg⟩ := h enc w fuel cs y ps hy hw
  refine ⟨inv x, ?_, ?_⟩
  · show d.K w (f (inv x)) cs
    rw [hi]; exact hK
  · show g (f (inv x))
    rw [hi]; exact hg
def OpensL {α : Type} (P : Program) (fs : List Field) (off : Nat) (d : Kd α) (g : α → Prop) : Prop :=
  ∀ {H : Type} (enc : TypeId × Value → H) (w : World) (n : Nat) (cs : List Value) (ys : List (DataW H × List MemPlace)), ys.length = fs.length →
    (∀ (i : Nat) (f : Field), fs[i]? = some f → DataW.trod enc P w 0 (fun _ => true) true n f.type ((cs.drop f.offset).take (P.cellsOf f.type)) = ys[i]?) →
    (∀ m ∈ DataW.weightsEach P (fs.map (·.type)) (ys.map (·.1)), m ≤ reachBytes) → ∃ x, d.K w x ((cs.drop off).take d.sz) ∧ g x
theorem opensL_one {α : Type} {P : Program} {f : Field} {off : Nat} {d : Kd α} {g : α → Prop} (ho : f.offset = off) (hs : P.cellsOf f.type = d.sz) (h : Opens P f.type d g) : OpensL P [f] off d g := by
  intro H enc w n cs ys hl hf hw
  match ys, hl with
  | [y], _ =>
    have h0 := hf 0 f rfl
    rw [ho, hs] at h0
    exact h enc w n _ y.1 y.2 h0 (fun m hm => hw m (by simp only [List.map_cons, DataW.weightsEach, List.mem_append]; exact .inl hm))
theorem opensL_cons {α β : Type} {P : Program} {f : Field} {fs : List Field} {off : Nat} {a : Kd α} {b : Kd β} {ga : α → Prop} {gb : β → Prop} (ho : f.offset = off) (hs : P.cellsOf f.type = a.sz) (h : Opens P f.type a ga) (hr : OpensL P fs (off + a.sz) b gb) :
    OpensL P (f :: fs) off (Kd.pair a b) (fun x => ga x.1 ∧ gb x.2) := by
  intro H enc w n cs ys hl hf hw
  match ys, hl with
  | y :: ys, hl =>
    have h0 := hf 0 f rfl
    rw [ho, hs] at h0
    obtain ⟨x, hx, hgx⟩ := h enc w n _ y.1 y.2 h0 (fun m hm => hw m (by simp only [List.map_cons, DataW.weightsEach, List.mem_append]; exact .inl hm))
    obtain ⟨x', hx', hgx'⟩ := hr enc w n cs ys (by simpa using hl) (fun i f' hf' => by have := hf (i + 1) f' (by simpa using hf'); simpa using this) (fun m hm => hw m (by simp only [List.map_cons, DataW.weightsEach, List.mem_append]; exact .inr hm))
    refine ⟨(x, x'), ⟨_, _, ?_, hx, hx'⟩, hgx, hgx'⟩
    show (cs.drop off).take (a.sz + b.sz) = _
    rw [List.take_add, List.drop_drop]
theorem opens_struct {α : Type} {P : Program} {t : TypeId} {fs : Array Field} {d : Kd α} {g : α → Prop} (ht : P.underlying t = some (.struct fs)) (hs : P.cellsOf t = d.sz) (h : OpensL P fs.toList 0 d g) : Opens P t d g := by
  intro H enc w fuel cs y ps hy hw
  obtain ⟨xs, n, rfl, hx, hl, hxl, hget⟩ := DataW.trod_struct ht hy
  obtain ⟨rfl, _⟩ := Prod.mk.inj hx
  simp only [DataW.weights, ht] at hw
  obtain ⟨x, hK, hg⟩ := h enc w n cs xs (by simpa using hxl) (fun i f hf => hget i f (by simpa using hf)) (by simpa using hw)
  rw [List.drop_zero, List.take_of_length_le (by omega)] at hK
  exact ⟨x, hK, hg⟩
theorem weights_of {H : Type} {P : Program} {ts : List TypeId} {ds : List (DataW H)} {j : Nat} {t : TypeId} {d : DataW H} (hsz : (DataW.weightsEach P ts ds).all (· ≤ reachBytes) = true) (ht : ts[j]? = some t) (hd : ds[j]? = some d) : ∀ n ∈ d.weights P t, n ≤ reachBytes := by
  intro n hn
  have := List.all_eq_true.1 hsz n (DataW.weights_mem_each ht hd n hn)
  simpa using this
theorem open_agg {α H : Type} {enc : TypeId × Value → H} {P : Program} {W : World} {t : TypeId} {d : Kd α} {g : α → Prop} {cs : Array Value} {y : DataW H} {ps : List MemPlace} (h : Opens P t d g)
    (hy : DataW.Trod enc P W 0 (fun _ => true) true t (.agg cs) y ps) (hw : ∀ n ∈ y.weights P t, n ≤ reachBytes) : ∃ x : α, d.K W x cs.toList ∧ g x := by
  obtain ⟨fuel, hf⟩ := hy
  exact h enc W fuel _ y ps (by simpa [Value.cells] using hf) hw
end Go.Proofs.YtifejplilaefiaaO
namespace Go.Proofs.Ytifejplilaefiaa.OFnExactGoodStore
open Go.RowKit Go.Proofs.Ytifejplilaefiaa.PFnExactGoodStore Go.Proofs.YtifejplilaefiaaW.PrintWords Go.Proofs.YtifejplilaefiaaO
def Ok105 (x : S105) : Prop := (x.f0.size ≤ 140737488351232) ∧ (In64 x.f1) ∧ (In64 x.f2) ∧ (In64 x.f3)
theorem opens105 : Opens Try.prog 105 k105 Ok105 :=
  Opens.imp (opens_iso _ (fun x => (⟨x.1, x.2.1, x.2.2.1, x.2.2.2⟩ : S105)) (fun _ => rfl) (opens_struct Try.underlying105 (by kernel_rfl) (opensL_cons rfl (by kernel_rfl) (opens_string Try.underlying9) (opensL_cons rfl (by kernel_rfl) (opens_i64 Try.underlying3) (opensL_cons rfl (by kernel_rfl) (opens_i64 Try.underlying3) (opensL_one rfl (by kernel_rfl) (opens_i64 Try.underlying3))))))) fun x h => by
    obtain ⟨h0, h1, h2, h3⟩ := h
    exact ⟨h0, h1, h2, h3⟩
end Go.Proofs.Ytifejplilaefiaa.OFnExactGoodStore
namespace Go.Proofs.YtifejplilaefiaaO
open Go.RowKit Go.Proofs.YtifejplilaefiaaW.PrintWords Go.Proofs.YtifejplilaefiaaW.PrintLast Go.Proofs.YtifejplilaefiaaW.PrintMore
theorem w64 {n : Int} (h : -9223372036854775808 ≤ n) (k : n ≤ 9223372036854775807) : wrap64 n = n := by unfold wrap64; omega
theorem w64s (i : Nat) (h : i < 4611686018427387904) : wrap64 ((i : Int) + 1) = ((i + 1 : Nat) : Int) := by unfold wrap64; omega
theorem ev_eq {α : Type} {x : Option α} {r : α} (h : x = some r) : Ev (fun _ => x) r := ⟨0, fun _ _ => h⟩
theorem ev_some {α : Type} {x r : α} (h : x = r) : Ev (fun _ => some x) r := ⟨0, fun _ _ => by rw [h]⟩
theorem ev_pos {α : Type} {c : Prop} [Decidable c] {f g : Nat → Option α} {r : α} (h : c) (k : Ev f r) : Ev (fun n => if c then f n else g n) r := by
  obtain ⟨K, hK⟩ := k
  exact ⟨K, fun n hn => (if_pos h).trans (hK n hn)⟩
theorem ev_neg {α : Type} {c : Prop} [Decidable c] {f g : Nat → Option α} {r : α} (h : ¬ c) (k : Ev g r) : Ev (fun n => if c then f n else g n) r := by
  obtain ⟨K, hK⟩ := k
  exact ⟨K, fun n hn => (if_neg h).trans (hK n hn)⟩
theorem ev_ite {α : Type} {c : Prop} [Decidable c] {f g : Nat → Option α} {r : α} (h : c → Ev f r) (k : ¬ c → Ev g r) : Ev (fun n => if c then f n else g n) r := by
  by_cases hc : c
  · exact ev_pos hc (h hc)
  · exact ev_neg hc (k hc)
theorem ev_bindc {α β : Type} {x : Option α} {f : Nat → α → Option β} {a : α} {r : β} (h : x = some a) (k : Ev (fun n => f n a) r) : Ev (fun n => x.bind (f n)) r := by
  subst h; exact k
theorem ev_for {σ ρ : Type} (n : Nat) (L : Nat → Nat → σ → Option ρ) (I : Nat → σ → Prop) (Q : ρ → Prop)
    (hend : ∀ s, I n s → ∃ r, Ev (fun k => L k n s) r ∧ Q r)
    (hstep : ∀ i s, i < n → I i s → (∃ r, Ev (fun k => L k i s) r ∧ Q r) ∨ ∃ s', I (i + 1) s' ∧ ∀ r, Ev (fun k => L k (i + 1) s') r → Ev (fun k => L k i s) r) :
    ∀ i s, i ≤ n → I i s → ∃ r, Ev (fun k => L k i s) r ∧ Q r := by
  have key : ∀ d i s, i + d = n → I i s → ∃ r, Ev (fun k => L k i s) r ∧ Q r := by
    intro d
    induction d with
    | zero => intro i s hi h; obtain rfl : i = n := by omega
              exact hend s h
    | succ d ih =>
      intro i s hi h
      rcases hstep i s (by omega) h with h' | ⟨s', hI, hr⟩
      · exact h'
      · obtain ⟨r, hr', hQ⟩ := ih (i + 1) s' (by omega) hI
        exact ⟨r, hr r hr', hQ⟩
  intro i s hi h
  exact key (n - i) i s (by omega) h
theorem ev_for1 {σ ρ : Type} (n : Nat) (L : Nat → Nat → σ → Option ρ) (I : Nat → σ → Prop) (a : ρ)
    (hend : ∀ s, I n s → Ev (fun k => L k n s) a)
    (hstep : ∀ i s, i < n → I i s → Ev (fun k => L k i s) a ∨ ∃ s', I (i + 1) s' ∧ ∀ r, Ev (fun k => L k (i + 1) s') r → Ev (fun k => L k i s) r) :
    ∀ i s, i ≤ n → I i s → Ev (fun k => L k i s) a := by
  intro i s hi h
  obtain ⟨r, hr, rfl⟩ := ev_for n L I (fun r => r = a) (fun s hs => ⟨a, hend s hs, rfl⟩) (fun i s hi hs => (hstep i s hi hs).imp (fun h => ⟨a, h, rfl⟩) id) i s hi h
  exact hr
theorem getD_get {α : Type} {d : α} {xs : List α} {i : Nat} (h : i < xs.length) : xs.getD (i : Int).toNat d = xs[i] := by simp [List.getD_eq_getElem?_getD, h]
theorem ev_alike {α β : Type} (L : Nat → List α → List β → Int → Option Bool) (e : Nat → List α → List β → Int → Option Bool) (g : α → β → Bool)
    (hL : ∀ k xs ys i, L (k + 1) xs ys i = if i < (xs.length : Int) then (if 0 ≤ i then (if i < (ys.length : Int) then ((e k xs ys i).bind fun v => if v = true then L k xs ys (wrap64 (i + 1)) else some false) else none) else none) else some true)
    (xs : List α) (ys : List β) (hx : xs.length < 4611686018427387904) (hy : ys.length = xs.length) (he : ∀ i : Nat, ∀ (h : i < xs.length) (h' : i < ys.length), Ev (fun k => e k xs ys (i : Int)) (g xs[i] ys[i]))
    (b : Bool) (hb : b = true ↔ ∀ i : Nat, ∀ (h : i < xs.length) (h' : i < ys.length), g xs[i] ys[i] = true) :
    Ev (fun k => L k xs ys 0) b := by
  refine ev_for1 xs.length (fun k i (_ : Unit) => L k xs ys (i : Int)) (fun i _ => ∀ j, j < i → ∀ (h : j < xs.length) (h' : j < ys.length), g xs[j] ys[j] = true) b ?_ ?_ 0 () (Nat.zero_le _) (fun j hj => by omega)
  · intro _ h
    refine Ev.step (fun k => hL k xs ys _) (ev_neg (by omega) (ev_some ?_))
    exact (hb.2 fun i hi hi' => h i hi hi hi').symm
  · intro i _ hi h
    have hi' : i < ys.length := by omega
    by_cases hg : g xs[i] ys[i] = true
    · refine .inr ⟨(), fun j hj h1 h2 => ?_, fun r hr => ?_⟩
      · rcases Nat.lt_or_ge j i with hji | hji
        · exact h j hji h1 h2
        · obtain rfl : j = i := by omega
          exact hg
      · refine Ev.step (fun k => hL k xs ys _) (ev_pos (by omega) (ev_pos (by omega) (ev_pos (by omega) (Ev.bind (he i hi hi') (ev_pos hg ?_)))))
        rw [w64s i (by omega)]
        exact hr
    · refine .inl (Ev.step (fun k => hL k xs ys _) (ev_pos (by omega) (ev_pos (by omega) (ev_pos (by omega) (Ev.bind (he i hi hi') (ev_neg hg (ev_some ?_)))))))
      cases b with
      | false => rfl
      | true => exact absurd (hb.1 rfl i hi hi') hg
theorem ev_alike_self {α : Type} (L : Nat → List α → List α → Int → Option Bool) (e : Nat → List α → List α → Int → Option Bool)
    (hL : ∀ k xs ys i, L (k + 1) xs ys i = if i < (xs.length : Int) then (if 0 ≤ i then (if i < (ys.length : Int) then ((e k xs ys i).bind fun v => if v = true then L k xs ys (wrap64 (i + 1)) else some false) else none) else none) else some true)
    (xs : List α) (hx : xs.length < 4611686018427387904) (he : ∀ i : Nat, ∀ (_ : i < xs.length), Ev (fun k => e k xs xs (i : Int)) true) :
    Ev (fun k => L k xs xs 0) true :=
  ev_alike L e (fun _ _ => true) hL xs xs hx rfl (fun i h _ => he i h) true ⟨fun _ _ _ _ => rfl, fun _ => rfl⟩
theorem bool_of (P : Prop) : ∃ b : Bool, b = true ↔ P := ⟨@decide P (Classical.propDecidable P), by simp⟩
theorem bool_false {P : Prop} {b : Bool} (h : b = true ↔ P) (k : ¬ P) : b = false := by
  cases b with
  | false => rfl
  | true => exact absurd (h.1 rfl) k
theorem ev_all (n : Nat) (L : Nat → Nat → Option Bool) (ok : Nat → Prop) (e b : Bool) (hb : b = true ↔ e = true ∧ ∀ i, i < n → ok i) (hend : Ev (fun k => L k n) e)
    (hyes : ∀ i, i < n → (∀ j, j < i → ok j) → ok i → ∀ r, Ev (fun k => L k (i + 1)) r → Ev (fun k => L k i) r) (hno : ∀ i, i < n → (∀ j, j < i → ok j) → ¬ ok i → Ev (fun k => L k i) false) : Ev (fun k => L k 0) b := by
  refine ev_for1 n (fun k i (_ : Unit) => L k i) (fun i _ => ∀ j, j < i → ok j) b ?_ ?_ 0 () (Nat.zero_le _) (fun j hj => by omega)
  · intro _ h
    have : b = e := by
      cases e with
      | false => exact bool_false hb (fun h => by simp at h)
      | true => exact hb.2 ⟨rfl, h⟩
    rw [this]
    exact hend
  · intro i _ hi h
    by_cases ho : ok i
    · refine .inr ⟨(), fun j hj => ?_, hyes i hi h ho⟩
      rcases Nat.lt_or_ge j i with h1 | h1
      · exact h j h1
      · obtain rfl : j = i := by omega
        exact ho
    · have : b = false := bool_false hb (fun h => ho (h.2 i hi))
      rw [this]
      exact .inl (hno i hi h ho)
theorem ev_index {α : Type} (L : Nat → List α → Int → Int → Option Int) (p : Nat → List α → Int → Option Bool)
    (hL : ∀ k xs n i, L (k + 1) xs n i = if i < n then (if 0 ≤ i then (if i < (xs.length : Int) then ((p k xs i).bind fun t => if t = true then some i else L k xs n (wrap64 (i + 1))) else none) else none) else some (-1))
    (xs : List α) (hx : xs.length < 4611686018427387904) (P : Nat → Bool) (he : ∀ i : Nat, i < xs.length → Ev (fun k => p k xs (i : Int)) (P i)) :
    ∃ r, Ev (fun k => L k xs (xs.length : Int) 0) r ∧ ((r = -1 ∧ ∀ i, i < xs.length → P i = false) ∨ ∃ i : Nat, i < xs.length ∧ r = (i : Int) ∧ P i = true ∧ ∀ j, j < i → P j = false) := by
  refine ev_for xs.length (fun k i (_ : Unit) => L k xs (xs.length : Int) (i : Int)) (fun i _ => ∀ j, j < i → P j = false) (fun r => (r = -1 ∧ ∀ i, i < xs.length → P i = false) ∨ ∃ i : Nat, i < xs.length ∧ r = (i : Int) ∧ P i = true ∧ ∀ j, j < i → P j = false) ?_ ?_ 0 () (Nat.zero_le _) (fun j hj => by omega)
  · intro _ h
    exact ⟨-1, Ev.step (fun k => hL k xs _ _) (ev_neg (by omega) (ev_some rfl)), .inl ⟨rfl, h⟩⟩
  · intro i _ hi h
    cases hP : P i with
    | true =>
      refine .inl ⟨(i : Int), Ev.step (fun k => hL k xs _ _) (ev_pos (by omega) (ev_pos (by omega) (ev_pos (by omega) (Ev.bind (he i hi) (ev_pos hP (ev_some rfl)))))), .inr ⟨i, hi, rfl, hP, h⟩⟩
    | false =>
      refine .inr ⟨(), fun j hj => ?_, fun r hr => Ev.step (fun k => hL k xs _ _) (ev_pos (by omega) (ev_pos (by omega) (ev_pos (by omega) (Ev.bind (he i hi) (ev_neg (by rw [hP]; decide) ?_)))))⟩
      · rcases Nat.lt_or_ge j i with h1 | h1
        · exact h j h1
        · obtain rfl : j = i := by omega
          exact hP
      · rw [w64s i (by omega)]
        exact hr
theorem ev_contains {α : Type} (L : Nat → List α → Int → Int → Option Int) (p : Nat → List α → Int → Option Bool)
    (hL : ∀ k xs n i, L (k + 1) xs n i = if i < n then (if 0 ≤ i then (if i < (xs.length : Int) then ((p k xs i).bind fun t => if t = true then some i else L k xs n (wrap64 (i + 1))) else none) else none) else some (-1))
    (xs : List α) (hx : xs.length < 4611686018427387904) (P : Nat → Bool) (he : ∀ i : Nat, i < xs.length → Ev (fun k => p k xs (i : Int)) (P i)) (b : Bool) (hb : b = true ↔ ∃ i, i < xs.length ∧ P i = true) :
    Ev (fun k => (L k xs (xs.length : Int) 0).bind fun t => some (decide (t ≥ 0))) b := by
  obtain ⟨r, hr, h⟩ := ev_index L p hL xs hx P he
  refine Ev.bind hr (ev_some ?_)
  rw [Bool.eq_iff_iff, decide_eq_true_eq, hb]
  rcases h with ⟨rfl, h⟩ | ⟨i, hi, rfl, hP, _⟩
  · constructor
    · intro h'; omega
    · rintro ⟨i, hi, hP⟩; rw [h i hi] at hP; cases hP
  · exact ⟨fun _ => ⟨i, hi, hP⟩, fun _ => by omega⟩
theorem exev_bind {α β : Type} {g : Nat → Option α} {f : Nat → α → Option β} {a : α} {Q : β → Prop} (h : Ev g a) (k : ∃ r, Ev (fun n => f n a) r ∧ Q r) : ∃ r, Ev (fun n => (g n).bind (f n)) r ∧ Q r := by
  obtain ⟨r, hr, hq⟩ := k
  exact ⟨r, Ev.bind h hr, hq⟩
theorem exev_pos {α : Type} {c : Prop} [Decidable c] {f g : Nat → Option α} {Q : α → Prop} (h : c) (k : ∃ r, Ev f r ∧ Q r) : ∃ r, Ev (fun n => if c then f n else g n) r ∧ Q r := by
  obtain ⟨r, hr, hq⟩ := k
  exact ⟨r, ev_pos h hr, hq⟩
theorem exev_neg {α : Type} {c : Prop} [Decidable c] {f g : Nat → Option α} {Q : α → Prop} (h : ¬ c) (k : ∃ r, Ev g r ∧ Q r) : ∃ r, Ev (fun n => if c then f n else g n) r ∧ Q r := by
  obtain ⟨r, hr, hq⟩ := k
  exact ⟨r, ev_neg h hr, hq⟩
theorem exev_ite {α : Type} {c : Prop} [Decidable c] {f g : Nat → Option α} {Q : α → Prop} (h : c → ∃ r, Ev f r ∧ Q r) (k : ¬ c → ∃ r, Ev g r ∧ Q r) : ∃ r, Ev (fun n => if c then f n else g n) r ∧ Q r := by
  by_cases hc : c
  · exact exev_pos hc (h hc)
  · exact exev_neg hc (k hc)
theorem exev_some {α : Type} {x : α} {Q : α → Prop} (h : Q x) : ∃ r, Ev (fun _ => some x) r ∧ Q r := ⟨x, ev_some rfl, h⟩
theorem ev_copy2 {α β τ : Type} (L : Nat → List α → List β → Int → Option (List β)) (e : Nat → List α → Int → Option τ) (mk : τ → β) (g : α → β)
    (hL : ∀ k xs ys i, L (k + 1) xs ys i = if i < (xs.length : Int) then (if 0 ≤ i then ((e k xs i).bind fun v => if i < (ys.length : Int) then L k xs (ys.set (i : Int).toNat (mk v)) (wrap64 (i + 1)) else none) else none) else some ys)
    (xs : List α) (hx : xs.length < 4611686018427387904) (he : ∀ i : Nat, ∀ h : i < xs.length, ∃ t, Ev (fun k => e k xs (i : Int)) t ∧ mk t = g xs[i]) (ys : List β) (hy : ys.length = xs.length) :
    Ev (fun k => L k xs ys 0) (xs.map g) := by
  refine ev_for1 xs.length (fun k i ys => L k xs ys (i : Int)) (fun i ys => ys.length = xs.length ∧ ∀ j, j < i → ys[j]? = (xs.map g)[j]?) (xs.map g) ?_ ?_ 0 ys (Nat.zero_le _) ⟨hy, fun j hj => by omega⟩
  · intro ys ⟨hl, h⟩
    refine Ev.step (fun k => hL k xs ys _) (ev_neg (by omega) (ev_some ?_))
    apply List.ext_getElem?
    intro j
    rcases Nat.lt_or_ge j xs.length with hj | hj
    · exact h j hj
    · rw [List.getElem?_eq_none (by omega), List.getElem?_eq_none (by simpa using hj)]
  · intro i ys hi ⟨hl, h⟩
    obtain ⟨t, ht, hmk⟩ := he i hi
    refine .inr ⟨ys.set i (g xs[i]), ⟨by simpa using hl, fun j hj => ?_⟩, fun r hr => ?_⟩
    · rcases Nat.lt_or_ge j i with hji | hji
      · rw [List.getElem?_set_ne (by omega)]
        exact h j hji
      · obtain rfl : j = i := by omega
        rw [List.getElem?_set_self (by omega), List.getElem?_map, List.getElem?_eq_getElem hi]
        rfl
    · refine Ev.step (fun k => hL k xs ys _) (ev_pos (by omega) (ev_pos (by omega) (Ev.bind ht (ev_pos (by omega) ?_))))
      rw [w64s i (by omega), hmk]
      exact hr
theorem ev_size {α : Type} (L : Nat → List α → Int → Int → Option Int) (e : Nat → List α → Int → Int → Option Int) (C : α → Prop)
    (hL : ∀ k xs c i, L (k + 1) xs c i = if i < (xs.length : Int) then (if 0 ≤ i then ((e k xs c i).bind fun t => if t < 0 then some (-1) else L k xs t (wrap64 (i + 1))) else none) else some c)
    (xs : List α) (hx : xs.length < 4611686018427387904) (left : Int) (h0 : 0 ≤ left)
    (he : ∀ i : Nat, ∀ h : i < xs.length, ∀ c, 0 ≤ c → c ≤ left → ∃ r, Ev (fun k => e k xs c (i : Int)) r ∧ (r < 0 ∨ 0 ≤ r ∧ r ≤ c ∧ C xs[i])) :
    ∃ r, Ev (fun k => L k xs left 0) r ∧ (r < 0 ∨ 0 ≤ r ∧ r ≤ left ∧ ∀ x ∈ xs, C x) := by
  refine ev_for xs.length (fun k i c => L k xs c (i : Int)) (fun i c => 0 ≤ c ∧ c ≤ left ∧ ∀ j, ∀ h : j < xs.length, j < i → C xs[j]) (fun r => r < 0 ∨ 0 ≤ r ∧ r ≤ left ∧ ∀ x ∈ xs, C x) ?_ ?_ 0 left (Nat.zero_le _) ⟨h0, Int.le_refl _, fun j _ hj => by omega⟩
  · intro c ⟨hc0, hc1, h⟩
    refine ⟨c, Ev.step (fun k => hL k xs c _) (ev_neg (by omega) (ev_some rfl)), .inr ⟨hc0, hc1, fun x hx => ?_⟩⟩
    obtain ⟨j, hj, rfl⟩ := List.getElem_of_mem hx
    exact h j hj hj
  · intro i c hi ⟨hc0, hc1, h⟩
    obtain ⟨r, hr, hq⟩ := he i hi c hc0 hc1
    rcases hq with hq | ⟨q0, q1, q2⟩
    · exact .inl ⟨-1, Ev.step (fun k => hL k xs c _) (ev_pos (by omega) (ev_pos (by omega) (Ev.bind hr (ev_pos hq (ev_some rfl))))), .inl (by omega)⟩
    · refine .inr ⟨r, ⟨q0, by omega, fun j hj hji => ?_⟩, fun r' hr' => Ev.step (fun k => hL k xs c _) (ev_pos (by omega) (ev_pos (by omega) (Ev.bind hr (ev_neg (by omega) ?_))))⟩
      · rcases Nat.lt_or_ge j i with h1 | h1
        · exact h j hj h1
        · obtain rfl : j = i := by omega
          exact q2
      · rw [w64s i (by omega)]
        exact hr'
end Go.Proofs.YtifejplilaefiaaO
namespace Go.Proofs.Ytifejplilaefiaa.Pure
open Go.RowKit Go.Proofs.Ytifejplilaefiaa.PFnExactGoodStore Go.Proofs.Ytifejplilaefiaa.OFnExactGoodStore Go.Proofs.YtifejplilaefiaaW.PrintWords Go.Proofs.YtifejplilaefiaaW.PrintLast Go.Proofs.YtifejplilaefiaaW.PrintMore Go.Proofs.YtifejplilaefiaaO
set_option linter.unusedVariables false
set_option linter.unusedSimpArgs false
theorem st_spec_GoodName_j0 {r : (Bool)} {x0 : ByteArray} {x16 : Bool} (h : Ev (fun k => if x16 = true then (some false) else (spec_GoodName.l0 k x0 0)) r) : Ev (fun k => spec_GoodName.j0 k x0 x16) r := Ev.step (fun k => by rw [spec_GoodName.j0]) h
theorem st_spec_GoodName_l0 {r : (Bool)} {x0 : ByteArray} {x3 : Int} (h : Ev (fun k => if x3 < (x0.size : Int) then (if 0 ≤ x3 then ((spec_l1Letter.f (bt x0 x3)).bind fun t107 => (if t107 = true then (spec_GoodName.l0 k x0 (wrap64 (x3 + 1))) else ((spec_l1Digit.f (bt x0 x3)).bind fun t108 => (if t108 = true then (spec_GoodName.l0 k x0 (wrap64 (x3 + 1))) else (some false))))) else (none)) else (some true)) r) : Ev (fun k => spec_GoodName.l0 k x0 x3) r := Ev.step (fun k => by rw [spec_GoodName.l0]) h
theorem st_spec_l21Sizes_l0 {r : (Int)} {x3 : Int} {x7 : List (S77)} {x8 : Int} {x9 : Int} (h : Ev (fun k => if x9 < x8 then (if 0 ≤ x9 then (if x9 < (x7.length : Int) then (spec_l21Sizes.l0 k (wrap64 (x3 + ((rd_T77 x7 x9).f1))) x7 x8 (wrap64 (x9 + 1))) else (none)) else (none)) else (some x3)) r) : Ev (fun k => spec_l21Sizes.l0 k x3 x7 x8 x9) r := Ev.step (fun k => by rw [spec_l21Sizes.l0]) h
theorem st_spec_GoodStore_j0 {r : (Bool)} {x22 : Bool} {x113000 : Int} {x113001 : Int} {x113002 : List (S77)} (h : Ev (fun k => if x22 = true then (some false) else (spec_GoodStore.l0 k x113002 (x113002.length : Int) 0 x113000 x113001 x113002)) r) : Ev (fun k => spec_GoodStore.j0 k x22 x113000 x113001 x113002) r := Ev.step (fun k => by rw [spec_GoodStore.j0]) h
theorem st_spec_GoodStore_l0 {r : (Bool)} {x24 : List (S77)} {x25 : Int} {x26 : Int} {x113000 : Int} {x113001 : Int} {x113002 : List (S77)} (h : Ev (fun k => if x26 < x25 then (if 0 ≤ x26 then (if x26 < (x24.length : Int) then ((spec_GoodName.f k ((rd_T77 x24 x26).f0)).bind fun t118 => (if t118 = true then ((spec_l1In.f ((rd_T77 x24 x26).f1) 1 100000).bind fun t119 => (if t119 = true then ((spec_l1In.f ((rd_T77 x24 x26).f2) 0 1000).bind fun t120 => (if t120 = true then ((spec_l1In.f ((rd_T77 x24 x26).f3) 0 x113001).bind fun t121 => (if t121 = true then (if x26 > 0 then (if 0 ≤ (wrap64 (x26 - 1)) then (if (wrap64 (x26 - 1)) < (x113002.length : Int) then (spec_GoodStore.j2 k x26 x24 x25 x26 (!(Op.bytesLess (((rd_T77 x113002 (wrap64 (x26 - 1))).f0).toList) (((rd_T77 x24 x26).f0).toList))) x113000 x113001 x113002 ((rd_T77 x24 x26).f0) ((rd_T77 x24 x26).f1) ((rd_T77 x24 x26).f2) ((rd_T77 x24 x26).f3)) else (none)) else (none)) else (spec_GoodStore.j2 k x26 x24 x25 x26 false x113000 x113001 x113002 ((rd_T77 x24 x26).f0) ((rd_T77 x24 x26).f1) ((rd_T77 x24 x26).f2) ((rd_T77 x24 x26).f3))) else (spec_GoodStore.j2 k x26 x24 x25 x26 true x113000 x113001 x113002 ((rd_T77 x24 x26).f0) ((rd_T77 x24 x26).f1) ((rd_T77 x24 x26).f2) ((rd_T77 x24 x26).f3)))) else (spec_GoodStore.j2 k x26 x24 x25 x26 true x113000 x113001 x113002 ((rd_T77 x24 x26).f0) ((rd_T77 x24 x26).f1) ((rd_T77 x24 x26).f2) ((rd_T77 x24 x26).f3)))) else (spec_GoodStore.j2 k x26 x24 x25 x26 true x113000 x113001 x113002 ((rd_T77 x24 x26).f0) ((rd_T77 x24 x26).f1) ((rd_T77 x24 x26).f2) ((rd_T77 x24 x26).f3)))) else (spec_GoodStore.j2 k x26 x24 x25 x26 true x113000 x113001 x113002 ((rd_T77 x24 x26).f0) ((rd_T77 x24 x26).f1) ((rd_T77 x24 x26).f2) ((rd_T77 x24 x26).f3)))) else (none)) else (none)) else ((spec_l21Sizes.f k x113000 x113001 x113002).bind fun t115 => (some (decide (t115 ≤ x113000))))) r) : Ev (fun k => spec_GoodStore.l0 k x24 x25 x26 x113000 x113001 x113002) r := Ev.step (fun k => by rw [spec_GoodStore.l0]) h
theorem st_spec_GoodStore_j2 {r : (Bool)} {x3 : Int} {x24 : List (S77)} {x25 : Int} {x26 : Int} {x70 : Bool} {x113000 : Int} {x113001 : Int} {x113002 : List (S77)} {x118000 : ByteArray} {x118001 : Int} {x118002 : Int} {x118003 : Int} (h : Ev (fun k => if x70 = true then (some false) else (if 0 ≤ x3 then (if x3 ≤ (x113002.length : Int) then ((some (x113002.take (x3 : Int).toNat : List (S77))).bind fun y123 => (spec_GoodStore.l1 k x24 x25 x26 y123 (y123.length : Int) 0 x113000 x113001 x113002 x118000 x118001 x118002 x118003)) else (none)) else (none))) r) : Ev (fun k => spec_GoodStore.j2 k x3 x24 x25 x26 x70 x113000 x113001 x113002 x118000 x118001 x118002 x118003) r := Ev.step (fun k => by rw [spec_GoodStore.j2]) h
theorem st_spec_GoodStore_l1 {r : (Bool)} {x24 : List (S77)} {x25 : Int} {x26 : Int} {x74 : List (S77)} {x75 : Int} {x76 : Int} {x113000 : Int} {x113001 : Int} {x113002 : List (S77)} {x118000 : ByteArray} {x118001 : Int} {x118002 : Int} {x118003 : Int} (h : Ev (fun k => if x76 < x75 then (if 0 ≤ x76 then (if x76 < (x74.length : Int) then (if x118003 > 0 then (if ((rd_T77 x74 x76).f3) = x118003 then (some false) else (spec_GoodStore.l1 k x24 x25 x26 x74 x75 (wrap64 (x76 + 1)) x113000 x113001 x113002 x118000 x118001 x118002 x118003)) else (spec_GoodStore.l1 k x24 x25 x26 x74 x75 (wrap64 (x76 + 1)) x113000 x113001 x113002 x118000 x118001 x118002 x118003)) else (none)) else (none)) else (spec_GoodStore.l0 k x24 x25 (wrap64 (x26 + 1)) x113000 x113001 x113002)) r) : Ev (fun k => spec_GoodStore.l1 k x24 x25 x26 x74 x75 x76 x113000 x113001 x113002 x118000 x118001 x118002 x118003) r := Ev.step (fun k => by rw [spec_GoodStore.l1]) h
theorem st_impl_GoodName_l0 {r : (Bool)} {x0 : ByteArray} {x5 : Int} {x6 : Int} (h : Ev (fun k => if x6 < x5 then (if 0 ≤ x6 then (if x6 < (x0.size : Int) then ((impl_isLetter.f (bt x0 x6)).bind fun t148 => (if t148 = true then (impl_GoodName.l0 k x0 x5 (wrap64 (x6 + 1))) else (if (bt x0 x6) = 95 then (impl_GoodName.l0 k x0 x5 (wrap64 (x6 + 1))) else (if x6 = 0 then (some false) else ((impl_isDigit.f (bt x0 x6)).bind fun t149 => (if t149 = true then (impl_GoodName.l0 k x0 x5 (wrap64 (x6 + 1))) else (some false))))))) else (none)) else (none)) else ((impl_inRange.f (x0.size : Int) 1 20).bind fun t147 => (some t147))) r) : Ev (fun k => impl_GoodName.l0 k x0 x5 x6) r := Ev.step (fun k => by rw [impl_GoodName.l0]) h
theorem st_impl_GoodStore_l0 {r : (Bool)} {x3 : Int} {x7 : List (S77)} {x8 : Int} {x9 : Int} {x156000 : Int} {x156001 : Int} {x156002 : List (S77)} (h : Ev (fun k => if x9 < x8 then (if 0 ≤ x9 then (if x9 < (x7.length : Int) then ((impl_GoodName.f k ((rd_T77 x7 x9).f0)).bind fun t160 => (if t160 = true then (if x9 > 0 then (if 0 ≤ (wrap64 (x9 - 1)) then (if (wrap64 (x9 - 1)) < (x156002.length : Int) then (if ((Op.bytesLess (((rd_T77 x156002 (wrap64 (x9 - 1))).f0).toList) (((rd_T77 x7 x9).f0).toList)) = true) then ((impl_inRange.f ((rd_T77 x7 x9).f1) 1 100000).bind fun t162 => (if t162 = true then ((impl_inRange.f ((rd_T77 x7 x9).f2) 0 1000).bind fun t163 => (if t163 = true then ((impl_inRange.f ((rd_T77 x7 x9).f3) 0 x156001).bind fun t164 => (impl_GoodStore.j1 k x3 x9 x7 x8 x9 (!t164) x156000 x156001 x156002 ((rd_T77 x7 x9).f0) ((rd_T77 x7 x9).f1) ((rd_T77 x7 x9).f2) ((rd_T77 x7 x9).f3))) else (impl_GoodStore.j1 k x3 x9 x7 x8 x9 true x156000 x156001 x156002 ((rd_T77 x7 x9).f0) ((rd_T77 x7 x9).f1) ((rd_T77 x7 x9).f2) ((rd_T77 x7 x9).f3)))) else (impl_GoodStore.j1 k x3 x9 x7 x8 x9 true x156000 x156001 x156002 ((rd_T77 x7 x9).f0) ((rd_T77 x7 x9).f1) ((rd_T77 x7 x9).f2) ((rd_T77 x7 x9).f3)))) else (impl_GoodStore.j1 k x3 x9 x7 x8 x9 true x156000 x156001 x156002 ((rd_T77 x7 x9).f0) ((rd_T77 x7 x9).f1) ((rd_T77 x7 x9).f2) ((rd_T77 x7 x9).f3))) else (none)) else (none)) else ((impl_inRange.f ((rd_T77 x7 x9).f1) 1 100000).bind fun t165 => (if t165 = true then ((impl_inRange.f ((rd_T77 x7 x9).f2) 0 1000).bind fun t166 => (if t166 = true then ((impl_inRange.f ((rd_T77 x7 x9).f3) 0 x156001).bind fun t167 => (impl_GoodStore.j1 k x3 x9 x7 x8 x9 (!t167) x156000 x156001 x156002 ((rd_T77 x7 x9).f0) ((rd_T77 x7 x9).f1) ((rd_T77 x7 x9).f2) ((rd_T77 x7 x9).f3))) else (impl_GoodStore.j1 k x3 x9 x7 x8 x9 true x156000 x156001 x156002 ((rd_T77 x7 x9).f0) ((rd_T77 x7 x9).f1) ((rd_T77 x7 x9).f2) ((rd_T77 x7 x9).f3)))) else (impl_GoodStore.j1 k x3 x9 x7 x8 x9 true x156000 x156001 x156002 ((rd_T77 x7 x9).f0) ((rd_T77 x7 x9).f1) ((rd_T77 x7 x9).f2) ((rd_T77 x7 x9).f3))))) else (impl_GoodStore.j1 k x3 x9 x7 x8 x9 true x156000 x156001 x156002 ((rd_T77 x7 x9).f0) ((rd_T77 x7 x9).f1) ((rd_T77 x7 x9).f2) ((rd_T77 x7 x9).f3)))) else (none)) else (none)) else ((impl_inRange.f x156000 1 100000).bind fun t156 => (if t156 = true then ((impl_isTime.f x156001).bind fun t157 => (if t157 = true then (if (x156002.length : Int) ≤ 30 then (some (decide (x3 ≤ x156000))) else (some false)) else (some false))) else (some false)))) r) : Ev (fun k => impl_GoodStore.l0 k x3 x7 x8 x9 x156000 x156001 x156002) r := Ev.step (fun k => by rw [impl_GoodStore.l0]) h
theorem st_impl_GoodStore_j1 {r : (Bool)} {x3 : Int} {x4 : Int} {x7 : List (S77)} {x8 : Int} {x9 : Int} {x53 : Bool} {x156000 : Int} {x156001 : Int} {x156002 : List (S77)} {x160000 : ByteArray} {x160001 : Int} {x160002 : Int} {x160003 : Int} (h : Ev (fun k => if x53 = true then (some false) else (if x160003 > 0 then (if 0 ≤ x4 then (if x4 ≤ (x156002.length : Int) then ((slices_ContainsFunc_w49.f k (x156002.take (x4 : Int).toNat) x160000 x160001 x160002 x160003).bind fun t172 => (if t172 = true then (some false) else (impl_GoodStore.l0 k (wrap64 (x3 + x160001)) x7 x8 (wrap64 (x9 + 1)) x156000 x156001 x156002))) else (none)) else (none)) else (impl_GoodStore.l0 k (wrap64 (x3 + x160001)) x7 x8 (wrap64 (x9 + 1)) x156000 x156001 x156002))) r) : Ev (fun k => impl_GoodStore.j1 k x3 x4 x7 x8 x9 x53 x156000 x156001 x156002 x160000 x160001 x160002 x160003) r := Ev.step (fun k => by rw [impl_GoodStore.j1]) h
theorem inr_some (a b c : Int) : impl_inRange.f a b c = some (decide (b ≤ a ∧ a ≤ c)) := by
  unfold impl_inRange.f
  split <;> simp_all <;> omega
theorem in_some (a b c : Int) : spec_l1In.f a b c = some (decide (b ≤ a ∧ a ≤ c)) := by
  unfold spec_l1In.f
  split <;> simp_all <;> omega
theorem in_same (a b c : Int) : impl_inRange.f a b c = spec_l1In.f a b c := rfl
def nameChar (c : Int) : Bool := decide (97 ≤ c ∧ c ≤ 122) || decide (65 ≤ c ∧ c ≤ 90) || decide (c = 95)
def digitChar (c : Int) : Bool := decide (48 ≤ c ∧ c ≤ 57)
def CharOk (s : ByteArray) (i : Nat) : Prop := nameChar (bt s (i : Int)) = true ∨ 0 < i ∧ digitChar (bt s (i : Int)) = true
def NameOk (s : ByteArray) : Prop := (1 ≤ s.size ∧ s.size ≤ 20) ∧ ∀ i, i < s.size → CharOk s i
theorem letter_spec (c : Int) : spec_l1Letter.f c = some (nameChar c) := by
  unfold spec_l1Letter.f nameChar
  repeat' split
  all_goals (congr 1; rw [Bool.eq_iff_iff]; simp; try omega)
theorem digit_spec (c : Int) : spec_l1Digit.f c = some (digitChar c) := by
  unfold spec_l1Digit.f digitChar
  repeat' split
  all_goals (congr 1; rw [Bool.eq_iff_iff]; simp; try omega)
theorem digit_impl (c : Int) : impl_isDigit.f c = some (digitChar c) := by
  unfold impl_isDigit.f digitChar
  repeat' split
  all_goals (congr 1; rw [Bool.eq_iff_iff]; simp; try omega)
theorem letter_impl (c : Int) : ∃ b, impl_isLetter.f c = some b ∧ (nameChar c = true ↔ b = true ∨ c = 95) := by
  unfold impl_isLetter.f nameChar
  repeat' split
  all_goals (refine ⟨_, rfl, ?_⟩; simp; try omega)
theorem name_impl (s : ByteArray) (hs : s.size ≤ 140737488351232) (b : Bool) (hb : b = true ↔ NameOk s) : Ev (fun k => impl_GoodName.f k s) b := by
  refine ev_all s.size (fun k i => impl_GoodName.l0 k s (s.size : Int) (i : Int)) (CharOk s) (decide (1 ≤ (s.size : Int) ∧ (s.size : Int) ≤ 20)) b ?_ ?_ ?_ ?_
  · rw [hb]; unfold NameOk; simp; omega
  · exact st_impl_GoodName_l0 (ev_neg (by omega) (ev_bindc (inr_some _ _ _) (ev_some rfl)))
  · intro i hi _ ho r hr
    refine st_impl_GoodName_l0 (ev_pos (by omega) (ev_pos (by omega) (ev_pos (by omega) ?_)))
    obtain ⟨q, hq, hn⟩ := letter_impl (bt s (i : Int))
    rw [w64s i (by omega)]
    refine ev_bindc hq (ev_ite (fun _ => hr) fun h1 => ev_ite (fun _ => hr) fun h2 => ?_)
    rcases ho with ho | ⟨ho, hd⟩
    · rcases hn.1 ho with h | h
      · exact absurd h h1
      · exact absurd h h2
    · exact ev_neg (by omega) (ev_bindc (digit_impl _) (ev_pos hd hr))
  · intro i hi _ ho
    refine st_impl_GoodName_l0 (ev_pos (by omega) (ev_pos (by omega) (ev_pos (by omega) ?_)))
    obtain ⟨q, hq, hn⟩ := letter_impl (bt s (i : Int))
    refine ev_bindc hq (ev_ite (fun h => absurd (.inl (hn.2 (.inl h))) ho) fun h1 => ev_ite (fun h => absurd (.inl (hn.2 (.inr h))) ho) fun h2 => ev_ite (fun _ => ev_some rfl) fun h3 => ?_)
    exact ev_bindc (digit_impl _) (ev_neg (fun h => ho (.inr ⟨by omega, h⟩)) (ev_some rfl))
theorem name_spec (s : ByteArray) (b : Bool) (hb : b = true ↔ NameOk s) : Ev (fun k => spec_GoodName.f k s) b := by
  have j0t : Ev (fun k => spec_GoodName.j0 k s true) false := st_spec_GoodName_j0 (ev_pos rfl (ev_some rfl))
  by_cases h1 : (s.size : Int) < 1
  · rw [bool_false hb (fun h => by have := h.1; omega)]
    exact ev_pos h1 j0t
  · by_cases h2 : (s.size : Int) > 20
    · rw [bool_false hb (fun h => by have := h.1; omega)]
      exact ev_neg h1 (ev_pos h2 j0t)
    · refine ev_neg h1 (ev_neg h2 (ev_pos (by omega) (ev_bindc (digit_spec _) ?_)))
      cases hd : digitChar (bt s 0) with
      | true =>
        rw [bool_false hb (fun h => by
          have h0 : CharOk s 0 := h.2 0 (by omega)
          rcases h0 with h0 | h0
          · have h0 : nameChar (bt s 0) = true := h0
            generalize bt s 0 = c at hd h0
            simp [nameChar, digitChar] at hd h0; omega
          · omega)]
        exact j0t
      | false =>
        refine st_spec_GoodName_j0 (ev_neg (by decide) ?_)
        refine ev_all s.size (fun k i => spec_GoodName.l0 k s (i : Int)) (CharOk s) true b ?_ ?_ ?_ ?_
        · rw [hb]; unfold NameOk; constructor
          · exact fun h => ⟨rfl, h.2⟩
          · exact fun h => ⟨by omega, h.2⟩
        · exact st_spec_GoodName_l0 (ev_neg (by omega) (ev_some rfl))
        · intro i hi _ ho r hr
          refine st_spec_GoodName_l0 (ev_pos (by omega) (ev_pos (by omega) (ev_bindc (letter_spec _) (ev_ite (fun _ => by rw [w64s i (by omega)]; exact hr) fun hl => ev_bindc (digit_spec _) ?_))))
          rcases ho with ho | ⟨_, ho⟩
          · exact absurd ho hl
          · refine ev_pos ho ?_
            rw [w64s i (by omega)]; exact hr
        · intro i hi _ ho
          refine st_spec_GoodName_l0 (ev_pos (by omega) (ev_pos (by omega) (ev_bindc (letter_spec _) (ev_neg (fun h => ho (.inl h)) (ev_bindc (digit_spec _) (ev_neg (fun h => ho ?_) (ev_some rfl)))))))
          rcases Nat.eq_zero_or_pos i with rfl | hp
          · have h' : digitChar (bt s 0) = true := h
            rw [hd] at h'; cases h'
          · exact .inr ⟨hp, h⟩
def Fit105 (x : S105) : Prop := (x.f0.size ≤ 1048576)
theorem szResident_some (a0 : ByteArray) (a1 : Int) (a2 : Int) (a3 : Int) (ga0 : a0.size ≤ 140737488351232) (ga1 : In64 a1) (ga2 : In64 a2) (ga3 : In64 a3) (left : Int) (h0 : 0 ≤ left) (h1 : left ≤ 1048576) : ∃ r, Ev (fun _ => laws_szResident.f a0 a1 a2 a3 left) r ∧ (r < 0 ∨ 0 ≤ r ∧ r ≤ left ∧ (a0.size ≤ 1048576)) := by
  unfold laws_szResident.f
  have e0 : wrap64 (left - (a0.size : Int)) = left - (a0.size : Int) := w64 (by omega) (by omega)
  rw [e0]
  refine exev_ite (fun _ => exev_some (.inl (by omega))) fun c0 => ?_
  exact exev_some (.inr ⟨by omega, by omega, (by omega)⟩)
theorem szResidentS_some (xs : List S105) (g : xs.length * 40 ≤ 140737488351232 ∧ ∀ y ∈ xs, Ok105 y) (left : Int) (h0 : 0 ≤ left) (h1 : left ≤ 1048576) : ∃ r, Ev (fun k => laws_szResidentS.f k xs left) r ∧ (r < 0 ∨ 0 ≤ r ∧ r ≤ left ∧ (xs.length ≤ 1048576 ∧ ∀ y ∈ xs, Fit105 y)) := by
  have g1 := g.1
  unfold laws_szResidentS.f
  rw [w64 (n := left - (xs.length : Int)) (by omega) (by omega)]
  refine exev_ite (fun _ => exev_some (.inl (by omega))) fun hc => ?_
  have he : ∀ i : Nat, ∀ hi : i < xs.length, ∀ c : Int, 0 ≤ c → c ≤ left - (xs.length : Int) → ∃ r, Ev (fun k => laws_szResident.f ((rd_T105 xs (i : Int)).f0) ((rd_T105 xs (i : Int)).f1) ((rd_T105 xs (i : Int)).f2) ((rd_T105 xs (i : Int)).f3) c) r ∧ (r < 0 ∨ 0 ≤ r ∧ r ≤ c ∧ Fit105 xs[i]) := by
    intro i hi c h0 h1
    have e : rd_T105 xs (i : Int) = xs[i] := getD_get hi
    rw [e]
    have gx := g.2 _ (List.getElem_mem hi)
    obtain ⟨r, hr, hq⟩ := szResident_some _ _ _ _ (gx.1) (gx.2.1) (gx.2.2.1) (gx.2.2.2) c h0 (by omega)
    exact ⟨r, hr, hq⟩
  obtain ⟨r, hr, hq⟩ := ev_size laws_szResidentS.l0 (fun _ xs c i => laws_szResident.f ((rd_T105 xs i).f0) ((rd_T105 xs i).f1) ((rd_T105 xs i).f2) ((rd_T105 xs i).f3) c) (fun y => Fit105 y) (fun _ _ _ _ => rfl) xs (by omega) (left - (xs.length : Int)) (by omega) he
  refine ⟨r, hr, ?_⟩
  rcases hq with hq | ⟨q0, q1, q2⟩
  · exact .inl hq
  · exact .inr ⟨q0, by omega, by omega, q2⟩
theorem szStore_some (a0 : Int) (a1 : Int) (l2 : List S105) (ga0 : In64 a0) (ga1 : In64 a1) (gl2 : l2.length * 40 ≤ 140737488351232 ∧ ∀ y ∈ l2, Ok105 y) (left : Int) (h0 : 0 ≤ left) (h1 : left ≤ 1048576) : ∃ r, Ev (fun k => laws_szStore.f k a0 a1 l2 left) r ∧ (r < 0 ∨ 0 ≤ r ∧ r ≤ left ∧ ((l2.length ≤ 1048576 ∧ ∀ y ∈ l2, Fit105 y))) := by
  unfold laws_szStore.f
  obtain ⟨r0, hr0, hq0⟩ := szResidentS_some l2 gl2 (left) (by omega) (by omega)
  refine exev_bind hr0 (exev_ite (fun _ => exev_some (.inl (by omega))) fun c0 => ?_)
  rcases hq0 with hq0 | ⟨u0, v0, w0⟩
  · omega
  exact exev_some (.inr ⟨by omega, by omega, w0⟩)
def cv105 (x : S105) : S77 := ⟨x.f0, x.f1, x.f2, x.f3⟩
def Fit77 (x : S77) : Prop := (x.f0.size ≤ 1048576)
theorem fit_cv105 {x : S105} (h : Fit105 x) : Fit77 (cv105 x) := by
  have h0 := h
  exact h0
theorem toResidentS_ev (xs : List S105) (h : (xs.length ≤ 1048576 ∧ ∀ y ∈ xs, Fit105 y)) : Ev (fun k => laws_toResidentS.f k xs) (xs.map cv105) := by
  refine ev_pos (by omega) (ev_pos (by have := h.1; omega) ?_)
  refine ev_copy2 laws_toResidentS.l0 (fun k xs i => laws_toResident.f ((rd_T105 xs i).f0) ((rd_T105 xs i).f1) ((rd_T105 xs i).f2) ((rd_T105 xs i).f3)) (fun t => (⟨t.1, t.2.1, t.2.2.1, t.2.2.2⟩ : S77)) cv105 (fun _ _ _ _ => rfl) xs (by have := h.1; omega) (fun i hi => ?_) _ (by simp)
  · have e : rd_T105 xs (i : Int) = xs[i] := getD_get hi
    rw [e]
    exact ⟨_, ev_eq rfl, rfl⟩
theorem toStore_ev (a0 : Int) (a1 : Int) (l2 : List S105) (hl2 : (l2.length ≤ 1048576 ∧ ∀ y ∈ l2, Fit105 y)) : Ev (fun k => laws_toStore.f k a0 a1 l2) (a0, a1, (l2.map cv105)) := by
  unfold laws_toStore.f
  repeat (first | exact ev_some rfl | refine Ev.bind (toResidentS_ev _ hl2) ?_ | refine ev_bindc rfl ?_)
theorem eqResident_self (a0 : ByteArray) (a1 : Int) (a2 : Int) (a3 : Int) : laws_eqResident.f a0 a1 a2 a3 a0 a1 a2 a3 = some true := by
  simp [laws_eqResident.f]
theorem eqResidentS_ev (xs : List S77) (h : (xs.length ≤ 1048576 ∧ ∀ y ∈ xs, Fit77 y)) : Ev (fun k => laws_eqResidentS.f k xs xs) true := by
  refine ev_pos rfl (ev_alike_self laws_eqResidentS.l0 (fun k xs ys i => laws_eqResident.f ((rd_T77 xs i).f0) ((rd_T77 xs i).f1) ((rd_T77 xs i).f2) ((rd_T77 xs i).f3) ((rd_T77 ys i).f0) ((rd_T77 ys i).f1) ((rd_T77 ys i).f2) ((rd_T77 ys i).f3)) (fun _ _ _ _ => rfl) xs (by have := h.1; omega) (fun i hi => ?_))
  · exact ev_eq (eqResident_self _ _ _ _)
theorem eqStore_ev (a0 : Int) (a1 : Int) (l2 : List S77) (hl2 : (l2.length ≤ 1048576 ∧ ∀ y ∈ l2, Fit77 y)) : Ev (fun k => laws_eqStore.f k a0 a1 l2 a0 a1 l2) true := by
  unfold laws_eqStore.f
  repeat (first | exact ev_some rfl | refine Ev.bind (eqResidentS_ev l2 hl2) ?_ | refine ev_pos rfl ?_ | refine ev_neg (by simp) ?_)
def ResOk (c : Int) (l : List S77) (i : Nat) : Prop :=
  NameOk (rd_T77 l i).f0 ∧ (1 ≤ (rd_T77 l i).f1 ∧ (rd_T77 l i).f1 ≤ 100000) ∧ (0 ≤ (rd_T77 l i).f2 ∧ (rd_T77 l i).f2 ≤ 1000) ∧ (0 ≤ (rd_T77 l i).f3 ∧ (rd_T77 l i).f3 ≤ c) ∧
    (0 < i → Op.bytesLess (rd_T77 l ((i : Int) - 1)).f0.toList (rd_T77 l i).f0.toList = true) ∧ ∀ j, j < i → (rd_T77 l i).f3 > 0 → (rd_T77 l j).f3 ≠ (rd_T77 l i).f3
def sumTo (l : List S77) : Nat → Int
  | 0 => 0
  | i + 1 => sumTo l i + (rd_T77 l i).f1
theorem sum_range (c : Int) (l : List S77) : ∀ i, (∀ j, j < i → ResOk c l j) → 0 ≤ sumTo l i ∧ sumTo l i ≤ 100000 * (i : Int)
  | 0, _ => by simp [sumTo]
  | i + 1, h => by
    have h1 := sum_range c l i (fun j hj => h j (by omega))
    have h2 := (h i (by omega)).2.1
    unfold sumTo
    omega
def StoreOk (b c : Int) (l : List S77) : Prop := (1 ≤ b ∧ b ≤ 100000) ∧ (0 ≤ c ∧ c ≤ 100000) ∧ l.length ≤ 30 ∧ (∀ i, i < l.length → ResOk c l i) ∧ sumTo l l.length ≤ b
theorem take_rd (l : List S77) (i j : Nat) (h : j < i) : rd_T77 (l.take i) (j : Int) = rd_T77 l (j : Int) := by
  simp [rd_T77, List.getD_eq_getElem?_getD, List.getElem?_take_of_lt h]
theorem sizes_spec (b c : Int) (l : List S77) (hl : l.length ≤ 1048576) (h : ∀ i, i < l.length → ResOk c l i) : Ev (fun k => spec_l21Sizes.f k b c l) (sumTo l l.length) := by
  refine ev_for1 l.length (fun k i (s : Int) => spec_l21Sizes.l0 k s l (l.length : Int) (i : Int)) (fun i s => s = sumTo l i) _ ?_ ?_ 0 0 (Nat.zero_le _) rfl
  · rintro s rfl
    exact st_spec_l21Sizes_l0 (ev_neg (by omega) (ev_some rfl))
  · rintro i s hi rfl
    refine .inr ⟨_, rfl, fun r hr => st_spec_l21Sizes_l0 (ev_pos (by omega) (ev_pos (by omega) (ev_pos (by omega) ?_)))⟩
    have h1 := sum_range c l i (fun j hj => h j (by omega))
    have h2 := (h i hi).2.1
    rw [w64s i (by omega), w64 (by omega) (by omega)]
    exact hr
theorem inner_yes (b c : Int) (l : List S77) (hl : l.length ≤ 1048576) (i : Nat) (hi : i < l.length) (f0 : ByteArray) (f1 f2 f3 : Int) (h : ∀ j, j < i → f3 > 0 → (rd_T77 l j).f3 ≠ f3) (r : Bool) (hr : Ev (fun k => spec_GoodStore.l0 k l (l.length : Int) ((i + 1 : Nat) : Int) b c l) r) :
    Ev (fun k => spec_GoodStore.l1 k l (l.length : Int) (i : Int) (l.take i) ((l.take i).length : Int) 0 b c l f0 f1 f2 f3) r := by
  have hn : (l.take i).length = i := by rw [List.length_take]; omega
  rw [hn]
  refine ev_for1 i (fun k j (_ : Unit) => spec_GoodStore.l1 k l (l.length : Int) (i : Int) (l.take i) (i : Int) (j : Int) b c l f0 f1 f2 f3) (fun _ _ => True) r ?_ ?_ 0 () (Nat.zero_le _) trivial
  · intro _ _
    refine st_spec_GoodStore_l1 (ev_neg (by omega) ?_)
    rw [w64s i (by omega)]
    exact hr
  · intro j _ hj _
    refine .inr ⟨(), trivial, fun r' hr' => st_spec_GoodStore_l1 (ev_pos (by omega) (ev_pos (by omega) (ev_pos (by omega) ?_)))⟩
    rw [take_rd l i j hj, w64s j (by omega)]
    exact ev_ite (fun h0 => ev_neg (h j hj h0) hr') fun _ => hr'
theorem inner_no (b c : Int) (l : List S77) (hl : l.length ≤ 1048576) (i : Nat) (hi : i < l.length) (f0 : ByteArray) (f1 f2 f3 : Int) (h : ¬ ∀ j, j < i → f3 > 0 → (rd_T77 l j).f3 ≠ f3) :
    Ev (fun k => spec_GoodStore.l1 k l (l.length : Int) (i : Int) (l.take i) ((l.take i).length : Int) 0 b c l f0 f1 f2 f3) false := by
  have hn : (l.take i).length = i := by rw [List.length_take]; omega
  rw [hn]
  refine ev_for1 i (fun k j (_ : Unit) => spec_GoodStore.l1 k l (l.length : Int) (i : Int) (l.take i) (i : Int) (j : Int) b c l f0 f1 f2 f3) (fun j _ => ∀ q, q < j → f3 > 0 → (rd_T77 l q).f3 ≠ f3) false ?_ ?_ 0 () (Nat.zero_le _) (fun q hq => by omega)
  · intro _ h'
    exact absurd h' h
  · intro j _ hj hq
    by_cases h0 : f3 > 0
    · by_cases h1 : (rd_T77 l (j : Int)).f3 = f3
      · refine .inl (st_spec_GoodStore_l1 (ev_pos (by omega) (ev_pos (by omega) (ev_pos (by omega) ?_))))
        rw [take_rd l i j hj]
        exact ev_pos h0 (ev_pos h1 (ev_some rfl))
      · refine .inr ⟨(), fun q hq' => ?_, fun r' hr' => st_spec_GoodStore_l1 (ev_pos (by omega) (ev_pos (by omega) (ev_pos (by omega) ?_)))⟩
        · rcases Nat.lt_or_ge q j with h2 | h2
          · exact hq q h2
          · obtain rfl : q = j := by omega
            exact fun _ => h1
        · rw [take_rd l i j hj, w64s j (by omega)]
          exact ev_pos h0 (ev_neg h1 hr')
    · exact absurd (fun q _ h' => absurd h' h0) h
theorem store_spec (b c : Int) (l : List S77) (r : Bool) (hr : r = true ↔ StoreOk b c l) : Ev (fun k => spec_GoodStore.f k b c l) r := by
  have no : ¬ StoreOk b c l → false = r := fun h => by cases r with | false => rfl | true => exact absurd (hr.1 rfl) h
  have j0t : Ev (fun k => spec_GoodStore.j0 k true b c l) false := st_spec_GoodStore_j0 (ev_pos rfl (ev_some rfl))
  unfold spec_GoodStore.f
  refine ev_bindc (in_some _ _ _) (ev_ite (fun h0 => ?_) fun h0 => by rw [← no fun h => h0 (decide_eq_true h.1)]; exact j0t)
  refine ev_bindc (in_some _ _ _) (ev_ite (fun h1 => ?_) fun h1 => by rw [← no fun h => h1 (decide_eq_true h.2.1)]; exact j0t)
  have h0 := of_decide_eq_true h0
  have h1 := of_decide_eq_true h1
  refine st_spec_GoodStore_j0 (ev_ite (fun h2 => ev_some (no fun h => by have := h.2.2.1; have := of_decide_eq_true h2; omega)) fun h2 => ?_)
  have h2' : l.length ≤ 30 := by
    rcases Nat.lt_or_ge 30 l.length with h | h
    · exact absurd (decide_eq_true (by omega)) h2
    · exact h
  refine ev_for1 l.length (fun k i (_ : Unit) => spec_GoodStore.l0 k l (l.length : Int) (i : Int) b c l) (fun i _ => ∀ j, j < i → ResOk c l j) r ?_ ?_ 0 () (Nat.zero_le _) (fun j hj => by omega)
  · intro _ h
    refine st_spec_GoodStore_l0 (ev_neg (by omega) (Ev.bind (sizes_spec b c l (by omega) h) (ev_some ?_)))
    rw [Bool.eq_iff_iff, hr, decide_eq_true_eq]
    exact ⟨fun h3 => ⟨h0, h1, h2', h, h3⟩, fun h3 => h3.2.2.2.2⟩
  · intro i _ hi h
    by_cases ho : ResOk c l i
    · obtain ⟨g0, g1, g2, g3, g4, g5⟩ := ho
      refine .inr ⟨(), fun j hj => ?_, fun r' hr' => ?_⟩
      · rcases Nat.lt_or_ge j i with h3 | h3
        · exact h j h3
        · obtain rfl : j = i := by omega
          exact ⟨g0, g1, g2, g3, g4, g5⟩
      · have e : wrap64 ((i : Int) - 1) = (i : Int) - 1 := w64 (by omega) (by omega)
        have j2 : Ev (fun k => spec_GoodStore.j2 k (i : Int) l (l.length : Int) (i : Int) false b c l (rd_T77 l i).f0 (rd_T77 l i).f1 (rd_T77 l i).f2 (rd_T77 l i).f3) r' :=
          st_spec_GoodStore_j2 (ev_neg (by decide) (ev_pos (by omega) (ev_pos (by omega) (ev_bindc rfl (inner_yes b c l (by omega) i hi _ _ _ _ g5 r' hr')))))
        refine st_spec_GoodStore_l0 (ev_pos (by omega) (ev_pos (by omega) (ev_pos (by omega) (Ev.bind (name_spec _ true ⟨fun _ => g0, fun _ => rfl⟩) (ev_pos rfl (ev_bindc (in_some _ _ _) (ev_pos (decide_eq_true g1) (ev_bindc (in_some _ _ _) (ev_pos (decide_eq_true g2) (ev_bindc (in_some _ _ _) (ev_pos (decide_eq_true g3) ?_)))))))))))
        rw [e]
        refine ev_ite (fun hp => ev_pos (by omega) (ev_pos (by omega) ?_)) fun _ => j2
        rw [g4 (by omega)]
        exact j2
    · refine .inl ?_
      rw [← no fun h3 => ho (h3.2.2.2.1 i hi)]
      have e : wrap64 ((i : Int) - 1) = (i : Int) - 1 := w64 (by omega) (by omega)
      have j2t : Ev (fun k => spec_GoodStore.j2 k (i : Int) l (l.length : Int) (i : Int) true b c l (rd_T77 l i).f0 (rd_T77 l i).f1 (rd_T77 l i).f2 (rd_T77 l i).f3) false := st_spec_GoodStore_j2 (ev_pos rfl (ev_some rfl))
      obtain ⟨d, hd⟩ := bool_of (NameOk (rd_T77 l i).f0)
      refine st_spec_GoodStore_l0 (ev_pos (by omega) (ev_pos (by omega) (ev_pos (by omega) (Ev.bind (name_spec _ d hd) (ev_ite (fun g0 => ev_bindc (in_some _ _ _) (ev_ite (fun g1 => ev_bindc (in_some _ _ _) (ev_ite (fun g2 => ev_bindc (in_some _ _ _) (ev_ite (fun g3 => ?_) fun _ => j2t)) fun _ => j2t)) fun _ => j2t)) fun _ => j2t)))))
      have g0 := hd.1 g0
      have g1 := of_decide_eq_true g1
      have g2 := of_decide_eq_true g2
      have g3 := of_decide_eq_true g3
      have j2f : (0 < i → Op.bytesLess (rd_T77 l ((i : Int) - 1)).f0.toList (rd_T77 l i).f0.toList = true) → Ev (fun k => spec_GoodStore.j2 k (i : Int) l (l.length : Int) (i : Int) false b c l (rd_T77 l i).f0 (rd_T77 l i).f1 (rd_T77 l i).f2 (rd_T77 l i).f3) false := fun g4 =>
        st_spec_GoodStore_j2 (ev_neg (by decide) (ev_pos (by omega) (ev_pos (by omega) (ev_bindc rfl (inner_no b c l (by omega) i hi _ _ _ _ (fun g5 => ho ⟨g0, g1, g2, g3, g4, g5⟩))))))
      rw [e]
      refine ev_ite (fun hp => ev_pos (by omega) (ev_pos (by omega) ?_)) fun hp => j2f (fun h => by omega)
      by_cases g4 : Op.bytesLess (rd_T77 l ((i : Int) - 1)).f0.toList (rd_T77 l i).f0.toList = true
      · rw [g4]; exact j2f (fun _ => g4)
      · rw [Bool.not_eq_true] at g4; rw [g4]; exact j2t
theorem others_impl (l : List S77) (hl : l.length ≤ 1048576) (i : Nat) (hi : i < l.length) (f0 : ByteArray) (f1 f2 f3 : Int) (d : Bool) (hd : d = true ↔ ∃ j, j < i ∧ (rd_T77 l j).f3 = f3) : Ev (fun k => slices_ContainsFunc_w49.f k (l.take i) f0 f1 f2 f3) d := by
  have hn : (l.take i).length = i := by rw [List.length_take]; omega
  refine ev_contains (fun k xs n i => slices_IndexFunc_w49.l0 k xs n i f0 f1 f2 f3) (fun _ xs i => impl_GoodStore_1.f (rd_T77 xs i).f0 (rd_T77 xs i).f1 (rd_T77 xs i).f2 (rd_T77 xs i).f3 f0 f1 f2 f3) (fun _ _ _ _ => rfl) (l.take i) (by omega) (fun j => (rd_T77 (l.take i) (j : Int)).f3 == f3) (fun j _ => ev_some rfl) d ?_
  rw [hd, hn]
  constructor
  · rintro ⟨j, hj, e⟩
    exact ⟨j, hj, by rw [take_rd l i j hj]; simpa using e⟩
  · rintro ⟨j, hj, e⟩
    exact ⟨j, hj, by rw [take_rd l i j hj] at e; simpa using e⟩
theorem store_impl (b c : Int) (l : List S77) (hx : l.length ≤ 1048576 ∧ ∀ y ∈ l, Fit77 y) (r : Bool) (hr : r = true ↔ StoreOk b c l) : Ev (fun k => impl_GoodStore.f k b c l) r := by
  have hl := hx.1
  have hn : ∀ i : Nat, i < l.length → (rd_T77 l i).f0.size ≤ 140737488351232 := by
    intro i hi
    have e : rd_T77 l (i : Int) = l[i] := getD_get hi
    rw [e]
    have : l[i].f0.size ≤ 1048576 := hx.2 _ (List.getElem_mem hi)
    omega
  have no : ¬ StoreOk b c l → false = r := fun h => by cases r with | false => rfl | true => exact absurd (hr.1 rfl) h
  refine ev_for1 l.length (fun k i (s : Int) => impl_GoodStore.l0 k s l (l.length : Int) (i : Int) b c l) (fun i s => s = sumTo l i ∧ ∀ j, j < i → ResOk c l j) r ?_ ?_ 0 0 (Nat.zero_le _) ⟨rfl, fun j hj => by omega⟩
  · rintro s ⟨rfl, h⟩
    refine st_impl_GoodStore_l0 (ev_neg (by omega) ?_)
    refine ev_bindc ((in_same _ _ _).trans (in_some _ _ _)) (ev_ite (fun h0 => ?_) fun h0 => ev_some (no fun h => h0 (decide_eq_true h.1)))
    have ht : impl_isTime.f c = some (decide (0 ≤ c ∧ c ≤ 100000)) := by
      unfold impl_isTime.f
      rw [in_same, in_some, Option.bind_some]
    refine ev_bindc ht (ev_ite (fun h1 => ?_) fun h1 => ev_some (no fun h => h1 (decide_eq_true h.2.1)))
    refine ev_ite (fun h2 => ev_some ?_) fun h2 => ev_some (no fun h => h2 (by have := h.2.2.1; omega))
    rw [Bool.eq_iff_iff, hr, decide_eq_true_eq]
    exact ⟨fun h3 => ⟨of_decide_eq_true h0, of_decide_eq_true h1, by omega, h, h3⟩, fun h3 => h3.2.2.2.2⟩
  · rintro i s hi ⟨rfl, h⟩
    have e : wrap64 ((i : Int) - 1) = (i : Int) - 1 := w64 (by omega) (by omega)
    have h5 := sum_range c l i h
    by_cases ho : ResOk c l i
    · obtain ⟨g0, g1, g2, g3, g4, g5⟩ := ho
      refine .inr ⟨_, ⟨rfl, fun j hj => ?_⟩, fun r' hr' => ?_⟩
      · rcases Nat.lt_or_ge j i with h3 | h3
        · exact h j h3
        · obtain rfl : j = i := by omega
          exact ⟨g0, g1, g2, g3, g4, g5⟩
      · have j1 : Ev (fun k => impl_GoodStore.j1 k (sumTo l i) (i : Int) l (l.length : Int) (i : Int) false b c l (rd_T77 l i).f0 (rd_T77 l i).f1 (rd_T77 l i).f2 (rd_T77 l i).f3) r' := by
          have ew : wrap64 (sumTo l i + (rd_T77 l (i : Int)).f1) = sumTo l (i + 1) := w64 (by omega) (by omega)
          refine st_impl_GoodStore_j1 (ev_neg (by decide) ?_)
          rw [ew, w64s i (by omega)]
          exact ev_ite (fun h6 => ev_pos (by omega) (ev_pos (by omega) (Ev.bind (others_impl l hl i hi _ _ _ _ false ⟨(fun h => by cases h), fun ⟨j, hj, hj2⟩ => absurd hj2 (g5 j hj h6)⟩) (ev_neg (by decide) hr')))) fun _ => hr'
        refine st_impl_GoodStore_l0 (ev_pos (by omega) (ev_pos (by omega) (ev_pos (by omega) (Ev.bind (name_impl _ (hn i hi) true ⟨fun _ => g0, fun _ => rfl⟩) (ev_pos rfl ?_)))))
        rw [e]
        have tail : Ev (fun k => (impl_inRange.f (rd_T77 l i).f1 1 100000).bind fun t => if t = true then (impl_inRange.f (rd_T77 l i).f2 0 1000).bind fun t => if t = true then (impl_inRange.f (rd_T77 l i).f3 0 c).bind fun t => impl_GoodStore.j1 k (sumTo l i) (i : Int) l (l.length : Int) (i : Int) (!t) b c l (rd_T77 l i).f0 (rd_T77 l i).f1 (rd_T77 l i).f2 (rd_T77 l i).f3 else impl_GoodStore.j1 k (sumTo l i) (i : Int) l (l.length : Int) (i : Int) true b c l (rd_T77 l i).f0 (rd_T77 l i).f1 (rd_T77 l i).f2 (rd_T77 l i).f3 else impl_GoodStore.j1 k (sumTo l i) (i : Int) l (l.length : Int) (i : Int) true b c l (rd_T77 l i).f0 (rd_T77 l i).f1 (rd_T77 l i).f2 (rd_T77 l i).f3) r' := by
          refine ev_bindc ((in_same _ _ _).trans (in_some _ _ _)) (ev_pos (decide_eq_true g1) (ev_bindc ((in_same _ _ _).trans (in_some _ _ _)) (ev_pos (decide_eq_true g2) (ev_bindc ((in_same _ _ _).trans (in_some _ _ _)) ?_))))
          rw [decide_eq_true g3]
          exact j1
        exact ev_ite (fun hp => ev_pos (by omega) (ev_pos (by omega) (ev_pos (g4 (by omega)) tail))) fun _ => tail
    · refine .inl ?_
      rw [← no fun h3 => ho (h3.2.2.2.1 i hi)]
      have j1t : Ev (fun k => impl_GoodStore.j1 k (sumTo l i) (i : Int) l (l.length : Int) (i : Int) true b c l (rd_T77 l i).f0 (rd_T77 l i).f1 (rd_T77 l i).f2 (rd_T77 l i).f3) false := st_impl_GoodStore_j1 (ev_pos rfl (ev_some rfl))
      obtain ⟨d, hd⟩ := bool_of (NameOk (rd_T77 l i).f0)
      refine st_impl_GoodStore_l0 (ev_pos (by omega) (ev_pos (by omega) (ev_pos (by omega) (Ev.bind (name_impl _ (hn i hi) d hd) (ev_ite (fun g0 => ?_) fun _ => j1t)))))
      have g0 := hd.1 g0
      rw [e]
      have tail : (0 < i → Op.bytesLess (rd_T77 l ((i : Int) - 1)).f0.toList (rd_T77 l i).f0.toList = true) → Ev (fun k => (impl_inRange.f (rd_T77 l i).f1 1 100000).bind fun t => if t = true then (impl_inRange.f (rd_T77 l i).f2 0 1000).bind fun t => if t = true then (impl_inRange.f (rd_T77 l i).f3 0 c).bind fun t => impl_GoodStore.j1 k (sumTo l i) (i : Int) l (l.length : Int) (i : Int) (!t) b c l (rd_T77 l i).f0 (rd_T77 l i).f1 (rd_T77 l i).f2 (rd_T77 l i).f3 else impl_GoodStore.j1 k (sumTo l i) (i : Int) l (l.length : Int) (i : Int) true b c l (rd_T77 l i).f0 (rd_T77 l i).f1 (rd_T77 l i).f2 (rd_T77 l i).f3 else impl_GoodStore.j1 k (sumTo l i) (i : Int) l (l.length : Int) (i : Int) true b c l (rd_T77 l i).f0 (rd_T77 l i).f1 (rd_T77 l i).f2 (rd_T77 l i).f3) false := by
        intro g4
        refine ev_bindc ((in_same _ _ _).trans (in_some _ _ _)) (ev_ite (fun g1 => ev_bindc ((in_same _ _ _).trans (in_some _ _ _)) (ev_ite (fun g2 => ev_bindc ((in_same _ _ _).trans (in_some _ _ _)) ?_) fun _ => j1t)) fun _ => j1t)
        have g1 := of_decide_eq_true g1
        have g2 := of_decide_eq_true g2
        by_cases g3 : 0 ≤ (rd_T77 l (i : Int)).f3 ∧ (rd_T77 l (i : Int)).f3 ≤ c
        · rw [decide_eq_true g3]
          refine st_impl_GoodStore_j1 (ev_neg (by decide) (ev_ite (fun h6 => ev_pos (by omega) (ev_pos (by omega) (Ev.bind (others_impl l hl i hi _ _ _ _ true ⟨fun _ => ?_, fun _ => rfl⟩) (ev_pos rfl (ev_some rfl))))) fun h6 => absurd ⟨g0, g1, g2, g3, g4, fun j hj h7 => absurd h7 h6⟩ ho))
          rcases Classical.em (∃ j, j < i ∧ (rd_T77 l j).f3 = (rd_T77 l i).f3) with h8 | h8
          · exact h8
          · exact absurd ⟨g0, g1, g2, g3, g4, fun j hj _ h9 => h8 ⟨j, hj, h9⟩⟩ ho
        · rw [decide_eq_false g3]
          exact j1t
      exact ev_ite (fun hp => ev_pos (by omega) (ev_pos (by omega) (ev_ite (fun g4 => tail (fun _ => g4)) fun _ => j1t))) fun hp => tail (fun h => by omega)
theorem store_same (b c : Int) (l : List S77) (hx : l.length ≤ 1048576 ∧ ∀ y ∈ l, Fit77 y) : ∃ r, Ev (fun k => spec_GoodStore.f k b c l) r ∧ Ev (fun k => impl_GoodStore.f k b c l) r ∧ (r = true ↔ StoreOk b c l) := by
  obtain ⟨r, hr⟩ := bool_of (StoreOk b c l)
  exact ⟨r, store_spec b c l r hr, store_impl b c l hx r hr, hr⟩
theorem FnExactGoodStore : ∀ (a0_0 : Int) (a0_1 : Int) (l0_2 : List (S105)), (In64 a0_0) → (In64 a0_1) → (l0_2.length * 40 ≤ 140737488351232 ∧ ∀ y ∈ l0_2, Ok105 y) → ∃ k, laws_FnExactGoodStore.f k a0_0 a0_1 l0_2 = some true := by
  intro b c xs gb gc gl
  refine Ev.rounds (g := fun k => laws_FnExactGoodStore.f k b c xs) ?_
  obtain ⟨r, hr, h | ⟨h0, h1, hx⟩⟩ := szStore_some b c xs gb gc gl 1048576 (by omega) (by omega)
  · exact Ev.bind hr (ev_pos h (ev_some rfl))
  · have tx := toStore_ev b c xs hx
    have hx' : (xs.map cv105).length ≤ 1048576 ∧ ∀ y ∈ xs.map cv105, Fit77 y := ⟨by rw [List.length_map]; exact hx.1, fun y hy => by obtain ⟨z, hz, rfl⟩ := List.mem_map.1 hy; exact fit_cv105 (hx.2 z hz)⟩
    obtain ⟨t, hs, hi, _⟩ := store_same b c (xs.map cv105) hx'
    exact Ev.bind hr (ev_neg (by omega) (Ev.bind tx (Ev.bind hs (Ev.bind tx (Ev.bind hi (ev_neg (by simp) (Ev.bind tx (Ev.bind (eqStore_ev b c _ hx') (ev_pos rfl (ev_some rfl))))))))))
end Go.Proofs.Ytifejplilaefiaa.Pure
