/- Texts of a row. -/
import Derived.Test.YtmmgmbmjlbdpnaaZFnPlaced3
namespace Go.Proofs.Ytmmgmbmjlbdpnaa.PFnPlaced
open Go.RowKit Go.Proofs.YtmmgmbmjlbdpnaaW.PrintWords Go.Proofs.YtmmgmbmjlbdpnaaW.PrintLast Go.Proofs.YtmmgmbmjlbdpnaaW.PrintMore
attribute [local go_sem] max2_int min2_int max_two min_two max_three min_three max_four min_four   -- for this text's walks alone
set_option linter.unusedVariables false
set_option linter.unusedSimpArgs false
mutual
def spec_l4Apply.j0 : Nat → Int → Int → Int → Int → Int → Bool → Option (Int × Int)
 | 0, _, _, _, _, _, _ => none
 | k + 1, x1, x2, x170000, x170001, x170002, x170003 => spec_l4Apply.l0 k x1 x2 0 x170000 x170001 x170002 x170003
def spec_l4Apply.l0 : Nat → Int → Int → Int → Int → Int → Int → Bool → Option (Int × Int)
 | 0, _, _, _, _, _, _, _ => none
 | k + 1, x1, x2, x8, x170000, x170001, x170002, x170003 => if x8 < x170002 then (spec_l4Apply.l0 k (wrap64 (-x2)) x1 (wrap64 (x8 + 1)) x170000 x170001 x170002 x170003) else (some (x1, x2))
end
def spec_l4Apply.f (k : Nat) (a0_0 : Int) (a0_1 : Int) (a0_2 : Int) (a0_3 : Bool) (a1 : Int) (a2 : Int) : Option (Int × Int) := if a0_3 = true then (spec_l4Apply.j0 k (wrap64 (-a1)) a2 a0_0 a0_1 a0_2 true) else (spec_l4Apply.j0 k a1 a2 a0_0 a0_1 a0_2 false)
theorem spec_l4Apply.mono_l : ∀ k, (∀ y0 y1 y2 y3 y4 y5, LeO (spec_l4Apply.j0 k y0 y1 y2 y3 y4 y5) (spec_l4Apply.j0 (k + 1) y0 y1 y2 y3 y4 y5)) ∧ (∀ y0 y1 y2 y3 y4 y5 y6, LeO (spec_l4Apply.l0 k y0 y1 y2 y3 y4 y5 y6) (spec_l4Apply.l0 (k + 1) y0 y1 y2 y3 y4 y5 y6))
 | 0 => ⟨fun _ _ _ _ _ _ r h => by simp [spec_l4Apply.j0] at h, fun _ _ _ _ _ _ _ r h => by simp [spec_l4Apply.l0] at h⟩
 | k + 1 => by
  obtain ⟨ih0, ih1⟩ := spec_l4Apply.mono_l k
  refine ⟨?_, ?_⟩
  ·intro y0 y1 y2 y3 y4 y5
   unfold spec_l4Apply.j0
   repeat' first
   | (with_reducible exact ih0 _ _ _ _ _ _)
   | (with_reducible exact ih1 _ _ _ _ _ _ _)
   | (with_reducible first | exact LeO.refl _ | exact LeO.none _ | refine LeO.ite ?_ ?_ | refine LeO.bind ?_ (fun _ => ?_))
   | exact ih0 _ _ _ _ _ _
   | exact ih1 _ _ _ _ _ _ _ | exact LeO.none _ | refine LeO.ite ?_ ?_ | refine LeO.bind ?_ (fun _ => ?_)
  ·intro y0 y1 y2 y3 y4 y5 y6
   unfold spec_l4Apply.l0
   repeat' first
   | (with_reducible exact ih0 _ _ _ _ _ _)
   | (with_reducible exact ih1 _ _ _ _ _ _ _)
   | (with_reducible first | exact LeO.refl _ | exact LeO.none _ | refine LeO.ite ?_ ?_ | refine LeO.bind ?_ (fun _ => ?_))
   | exact ih0 _ _ _ _ _ _
   | exact ih1 _ _ _ _ _ _ _ | exact LeO.none _ | refine LeO.ite ?_ ?_ | refine LeO.bind ?_ (fun _ => ?_)
theorem spec_l4Apply.mono : ∀ a0 a1 a2 a3 a4 a5 k, LeO (spec_l4Apply.f k a0 a1 a2 a3 a4 a5) (spec_l4Apply.f (k + 1) a0 a1 a2 a3 a4 a5) := by
 intro a0 a1 a2 a3 a4 a5 k
 obtain ⟨ih0, ih1⟩ := spec_l4Apply.mono_l k
 unfold spec_l4Apply.f
 repeat' first
   | (with_reducible exact ih0 _ _ _ _ _ _)
   | (with_reducible exact ih1 _ _ _ _ _ _ _)
   | (with_reducible first | exact LeO.refl _ | exact LeO.none _ | refine LeO.ite ?_ ?_ | refine LeO.bind ?_ (fun _ => ?_))
   | exact ih0 _ _ _ _ _ _
   | exact ih1 _ _ _ _ _ _ _ | exact LeO.none _ | refine LeO.ite ?_ ?_ | refine LeO.bind ?_ (fun _ => ?_)
set_option maxHeartbeats 8000000 in
set_option maxRecDepth 100000 in
theorem spec_l4Apply.calls (k : Nat) (a0_0 : Int) (a0_1 : Int) (a0_2 : Int) (a0_3 : Bool) (a1 : Int) (a2 : Int) (r1 : Int) (r2 : Int) (w : World) (h : spec_l4Apply.f k a0_0 a0_1 a0_2 a0_3 a1 a2 = some (r1, r2)) :
  Calls Try.prog 32 #[.agg #[.int .i64 a0_0, .int .i64 a0_1, .int .i64 a0_2, .bool a0_3], .int .i64 a1, .int .i64 a2] w fun e w' => e = .returned (.tuple #[.int .i64 r1, .int .i64 r2]) ∧ Below w.heap.size w w' := by
 have hu24 := Try.underlying24
 have HB := Aside0.mk (Below.refl w.heap.size w)
 have H : (if a0_3 = true then (spec_l4Apply.j0 k (wrap64 (-a1)) a2 a0_0 a0_1 a0_2 true) else (spec_l4Apply.j0 k a1 a2 a0_0 a0_1 a0_2 false)) = some (r1, r2) := h
 clear h
 have HC4 := Aside0.mk H
 clear H
 go_enter Try.func32, Try.ntmps32
 go_upto_if 11 with (first | ((with_reducible refine gate_dst (N := 3) rfl ?_); refine box_event rfl (N := 3) rfl (cs := #[.int .i64 a0_0, .int .i64 a0_1, .int .i64 a0_2, .bool a0_3]) (t := 24) sE ?_; intro gb169 hg w5 hbox hb; have BK169 := Aside0.mk hbox; have GW169 := gS w hg (lU); have GE169 := gS w hg (lU); replace HB := bH (lU) hb; clear hb hbox hg; have hcz6_0 := cz BK169 0 (.int .i64 a0_0); have hcz6_1 := cz BK169 1 (.int .i64 a0_1); have hcz6_2 := cz BK169 2 (.int .i64 a0_2); have hcz6_3 := cz BK169 3 (.bool a0_3); have hfz6_0 := fz BK169 0; have hfz6_1 := fz BK169 1; have hfz6_2 := fz BK169 2; have hfz6_3 := fz BK169 3))
 (try simp only [Act.put, List.setIfInBounds_toArray, List.set_cons_zero, List.set_cons_succ])
 go_cut [1] (fun v1 wc => ∃ (kq : Nat) (x1_3 : Int), v1 = .int .i64 x1_3 ∧ Aside0 (spec_l4Apply.j0 kq x1_3 a2 a0_0 a0_1 a0_2 a0_3 = some (r1, r2)) ∧ Aside0 (kq ≤ k) ∧ Aside0 (wc.heap[gb169]? = some (.cells #[.int .i64 a0_0, .int .i64 a0_1, .int .i64 a0_2, .bool a0_3] 24 (0, 0))) ∧ Aside0 (Below w.heap.size w wc))
 case first =>
  have H := HC4.out
  clear HC4
  by_cases c7 : a0_3 = true
  ·subst c7
   have H1 : (spec_l4Apply.j0 k (wrap64 (-a1)) a2 a0_0 a0_1 a0_2 true) = some (r1, r2) := by rw [if_pos rfl] at H; exact H
   clear H
   have H := H1
   clear H1
   have H' := Aside0.mk H
   clear H
   go_wp2
   go_meet
   case rel => exact ⟨_, (wrap64 (-a1)), tE, H', ⟨by first | omega | exact Nat.le_refl _⟩, ⟨by refine bU ?_; exact BK169.out⟩, ⟨by repeat (first | (with_reducible first | exact HB.out | apply below_alloc | apply pw_below_drewN | apply below_drew1 | refine below_set ?_ GE169.out) | exact HB.out)⟩⟩
  ·replace c7 := Bool.eq_false_iff.mpr c7
   subst c7
   have H1 : (spec_l4Apply.j0 k a1 a2 a0_0 a0_1 a0_2 false) = some (r1, r2) := by rw [if_neg (show ¬ (false = true) by decide)] at H; exact H
   clear H
   have H := H1
   clear H1
   have H' := Aside0.mk H
   clear H
   go_wp2
   go_meet
   case rel => exact ⟨_, (a1), tE, H', ⟨by first | omega | exact Nat.le_refl _⟩, ⟨by refine bU ?_; exact BK169.out⟩, ⟨by repeat (first | (with_reducible first | exact HB.out | apply below_alloc | apply pw_below_drewN | apply below_drew1 | refine below_set ?_ GE169.out) | exact HB.out)⟩⟩
 case rest =>
  clear HC4
  try clear p2
  try clear c3
  try clear p6
  try clear c7
  try clear hcz6_0
  try clear hcz6_1
  try clear hcz6_2
  try clear hcz6_3
  try clear hfz6_0
  try clear hfz6_1
  try clear hfz6_2
  try clear hfz6_3
  obtain ⟨kq, x1_3, rfl, HA, HJ3, BK169, HB⟩ := hcut
  cases kq with
  | zero => exact absurd HA.out (by simp [spec_l4Apply.j0])
  | succ kj3 =>
   have H := HA.out
   clear HA
   simp only [spec_l4Apply.j0] at H
   have H' := Aside0.mk H
   clear H
   go_wp2
   go_loopg [1, 2, 8] kj3 (fun kq v1 v2 v8 w' => ∃ (x1_2 : Int) (x2_2 : Int) (x8_2 : Int), v1 = .int .i64 x1_2 ∧ v2 = .int .i64 x2_2 ∧ v8 = .int .i64 x8_2 ∧ Aside0 (spec_l4Apply.l0 kq x1_2 x2_2 x8_2 a0_0 a0_1 a0_2 a0_3 = some (r1, r2)) ∧ Aside0 (kq ≤ kj3) ∧ Aside0 (w'.heap[gb169]? = some (.cells #[.int .i64 a0_0, .int .i64 a0_1, .int .i64 a0_2, .bool a0_3] 24 (0, 0))) ∧ Aside0 (Below w.heap.size w w'))
   case atStart => exact ⟨(x1_3), (a2), (0), tE, tE, tE, H', ⟨Nat.le_refl _⟩, ⟨by refine bU ?_; exact BK169.out⟩, ⟨by repeat (first | (with_reducible first | exact HB.out | apply below_alloc | apply pw_below_drewN | apply below_drew1 | refine below_set ?_ GE169.out) | exact HB.out)⟩⟩
   case round =>
    clear H'
    try clear p2
    try clear c3
    try clear p6
    try clear c7
    try clear hcz6_0
    try clear hcz6_1
    try clear hcz6_2
    try clear hcz6_3
    try clear hfz6_0
    try clear hfz6_1
    try clear hfz6_2
    try clear hfz6_3
    try clear p2
    try clear p6
    obtain ⟨x1_2, x2_2, x8_2, rfl, rfl, rfl, HA, HK2, BK169, HB⟩ := hrel
    cases gk with
    | zero => exact absurd HA.out (by simp [spec_l4Apply.l0])
    | succ k2 =>
     have H := HA.out
     clear HA
     simp only [spec_l4Apply.l0] at H
     by_cases c8 : x8_2 < a0_2
     ·rw [if_pos c8] at H
      have c8b0 : decide (x8_2 < a0_2) = true := decide_eq_true c8
      clear c8
      have H' := Aside0.mk H
      clear H
      have hcz9_0 := cz BK169 0 (.int .i64 a0_0)
      have hcz9_1 := cz BK169 1 (.int .i64 a0_1)
      have hcz9_2 := cz BK169 2 (.int .i64 a0_2)
      have hcz9_3 := cz BK169 3 (.bool a0_3)
      have hfz9_0 := fz BK169 0
      have hfz9_1 := fz BK169 1
      have hfz9_2 := fz BK169 2
      have hfz9_3 := fz BK169 3
      go_wp2
      go_roundg k2
      case measure => have := HJ3.out; have := HK2.out; omega
      case rel => exact ⟨(wrap64 (-x2_2)), (x1_2), (wrap64 (x8_2 + 1)), tE, tE, tE, H', ⟨by have := HJ3.out; have := HK2.out; omega⟩, ⟨by refine bU ?_; exact BK169.out⟩, ⟨by repeat (first | (with_reducible first | exact HB.out | apply below_alloc | apply pw_below_drewN | apply below_drew1 | refine below_set ?_ GE169.out) | exact HB.out)⟩⟩
     ·rw [if_neg c8] at H
      have c8b0 : decide (x8_2 < a0_2) = false := decide_eq_false c8
      clear c8
      simp only [Option.some.injEq, Prod.mk.injEq] at H
      obtain ⟨rfl, rfl⟩ := H
      have hcz10_0 := cz BK169 0 (.int .i64 a0_0)
      have hcz10_1 := cz BK169 1 (.int .i64 a0_1)
      have hcz10_2 := cz BK169 2 (.int .i64 a0_2)
      have hcz10_3 := cz BK169 3 (.bool a0_3)
      have hfz10_0 := fz BK169 0
      have hfz10_1 := fz BK169 1
      have hfz10_2 := fz BK169 2
      have hfz10_3 := fz BK169 3
      go_wp2
      go_ret2
      exact ⟨eE, lV1 GE169⟩
def spec_l4Back.f (k : Nat) (a0_0 : Int) (a0_1 : Int) (a0_2 : Int) (a0_3 : Bool) : Option (Int × Int × Int × Bool) := if a0_3 = true then ((spec_l4Apply.f k 0 0 a0_2 true (wrap64 (-a0_0)) (wrap64 (-a0_1))).bind fun bt173 => (some (bt173.1, bt173.2, a0_2, true))) else ((spec_l4Apply.f k 0 0 (Int.tmod (wrap64 (4 - a0_2)) 4) false (wrap64 (-a0_0)) (wrap64 (-a0_1))).bind fun bt175 => (some (bt175.1, bt175.2, Int.tmod (wrap64 (4 - a0_2)) 4, false)))
theorem spec_l4Back.mono : ∀ a0 a1 a2 a3 k, LeO (spec_l4Back.f k a0 a1 a2 a3) (spec_l4Back.f (k + 1) a0 a1 a2 a3) := by
 intro a0 a1 a2 a3 k
 unfold spec_l4Back.f
 repeat' first
   | (with_reducible exact spec_l4Apply.mono _ _ _ _ _ _ _)
   | (with_reducible first | exact LeO.refl _ | exact LeO.none _ | refine LeO.ite ?_ ?_ | refine LeO.bind ?_ (fun _ => ?_))
   | exact spec_l4Apply.mono _ _ _ _ _ _ _ | exact LeO.none _ | refine LeO.ite ?_ ?_ | refine LeO.bind ?_ (fun _ => ?_)
set_option maxHeartbeats 8000000 in
set_option maxRecDepth 100000 in
theorem spec_l4Back.calls (k : Nat) (a0_0 : Int) (a0_1 : Int) (a0_2 : Int) (a0_3 : Bool) (r1 : Int) (r2 : Int) (r3 : Int) (r4 : Bool) (w : World) (h : spec_l4Back.f k a0_0 a0_1 a0_2 a0_3 = some (r1, r2, r3, r4)) :
  Calls Try.prog 16 #[.agg #[.int .i64 a0_0, .int .i64 a0_1, .int .i64 a0_2, .bool a0_3]] w fun e w' => e = .returned (.agg #[.int .i64 r1, .int .i64 r2, .int .i64 r3, .bool r4]) ∧ Below w.heap.size w w' := by
 have hu24 := Try.underlying24
 have HB := Aside0.mk (Below.refl w.heap.size w)
 have H : (if a0_3 = true then ((spec_l4Apply.f k 0 0 a0_2 true (wrap64 (-a0_0)) (wrap64 (-a0_1))).bind fun bt173 => (some (bt173.1, bt173.2, a0_2, true))) else ((spec_l4Apply.f k 0 0 (Int.tmod (wrap64 (4 - a0_2)) 4) false (wrap64 (-a0_0)) (wrap64 (-a0_1))).bind fun bt175 => (some (bt175.1, bt175.2, Int.tmod (wrap64 (4 - a0_2)) 4, false)))) = some (r1, r2, r3, r4) := h
 clear h
 by_cases c2 : a0_3 = true
 ·subst c2
  have H1 : ((spec_l4Apply.f k 0 0 a0_2 true (wrap64 (-a0_0)) (wrap64 (-a0_1))).bind fun bt173 => (some (bt173.1, bt173.2, a0_2, true))) = some (r1, r2, r3, r4) := by rw [if_pos rfl] at H; exact H
  clear H
  have H := H1
  clear H1
  replace H := Option.bind_eq_some_iff.mp H
  obtain ⟨⟨t173, t174⟩, A30, H⟩ := H
  replace H : (some (t173, t174, a0_2, true)) = some (r1, r2, r3, r4) := H
  have A3 := Aside0.mk A30
  clear A30
  simp only [Option.some.injEq, Prod.mk.injEq] at H
  obtain ⟨rfl, rfl, rfl, rfl⟩ := H
  go_enter Try.func16, Try.ntmps16
  go_wp2_with (first | ((with_reducible refine gate_dst (N := 1) rfl ?_); refine box_event rfl (N := 1) rfl (cs := #[.int .i64 a0_0, .int .i64 a0_1, .int .i64 a0_2, .bool true]) (t := 24) sE ?_; intro gb170 hg w4 hbox hb; have BK170 := Aside0.mk hbox; have GW170 := gS w hg (lU); have GE170 := gS w hg (lU); replace HB := bH (lU) hb; clear hb hbox hg) | ((with_reducible refine gate_dst (N := 2) rfl ?_); refine box_event rfl (N := 2) rfl (cs := #[.int .i64 0, .int .i64 0, .int .i64 0, .bool false]) (t := 24) sE ?_; intro gb171 hg w5 hbox hb; have BK171 := Aside0.mk hbox; have GW171 := gS w hg (lV1 GE170); have GE171 := gS w hg (lV1 GE170); replace HB := bH (lV1 GE170) hb; have NB170_171 := nL hg (bV BK170); have NB171_170 := nG hg (bV BK170); replace BK170 := bB (bV BK170) hb; clear hb hbox hg; have hnb6 := NB170_171.out; have hnc6 := NB171_170.out; have hcz7_0 := cz BK170 0 (.int .i64 a0_0); have hcz7_1 := cz BK170 1 (.int .i64 a0_1); have hcz7_2 := cz BK170 2 (.int .i64 a0_2); have hcz7_3 := cz BK170 3 (.bool true); have hfz7_0 := fz BK170 0; have hfz7_1 := fz BK170 1; have hfz7_2 := fz BK170 2; have hfz7_3 := fz BK170 3) | ((with_reducible refine gate_dst (N := 3) rfl ?_); refine box_event rfl (N := 3) rfl (cs := #[.int .i64 0, .int .i64 0, .int .i64 0, .bool false]) (t := 24) sE ?_; intro gb172 hg w8 hbox hb; have BK172 := Aside0.mk hbox; have GW172 := gS w hg (lV2 GE170 GE171); have GE172 := gS w hg (lV2 GE170 GE171); replace HB := bH (lV2 GE170 GE171) hb; have NB170_172 := nL hg (bV BK170); have NB172_170 := nG hg (bV BK170); replace BK170 := bB (bV BK170) hb; have NB171_172 := nL hg (bV BK171); have NB172_171 := nG hg (bV BK171); replace BK171 := bB (bV BK171) hb; clear hb hbox hg; have hnb9 := NB172_170.out; have hnc9 := NB170_172.out; have hnb10 := NB172_171.out; have hnc10 := NB171_172.out; have hcz11_0 := cz BK172 0 (.int .i64 0); have hcz11_1 := cz BK172 1 (.int .i64 0); have hcz11_2 := cz BK172 2 (.int .i64 0); have hcz11_3 := cz BK172 3 (.bool false); have hfz11_0 := fz BK172 0; have hfz11_1 := fz BK172 1; have hfz11_2 := fz BK172 2; have hfz11_3 := fz BK172 3) | ((with_reducible refine gate_store (t := 24) (p := 3) rfl ?_); refine store_event (t := 24) (p := 3) (v := ?vo_w12) (w1 := ((((w8.setCell ⟨gb172, 0, none⟩ (.int .i64 0)).setCell ⟨gb172, 1, none⟩ (.int .i64 0)).setCell ⟨gb172, 2, none⟩ (.int .i64 (Int.tmod (wrap64 (4 - a0_2)) 4))).setCell ⟨gb172, 3, none⟩ (.bool true))) ?hg ?ho ?hn ?hr ?_; (case ho => rfl); (case hg => rfl); (case hn => rfl); (case hr => first | (go_simp; done) | (go_simp; rfl) | (have hq0_ := (blk_cell BK172.out 0).trans (show _ = some _ from rfl); have hf0_ := blk_frozen BK172.out 0; have hq1_ := (blk_cell BK172.out 1).trans (show _ = some _ from rfl); have hf1_ := blk_frozen BK172.out 1; have hq2_ := (blk_cell BK172.out 2).trans (show _ = some _ from rfl); have hf2_ := blk_frozen BK172.out 2; have hq3_ := (blk_cell BK172.out 3).trans (show _ = some _ from rfl); have hf3_ := blk_frozen BK172.out 3; first | (go_simp; done) | (go_simp; rfl))); intro w12 hw; replace BK170 : Aside0 (w12.heap[gb170]? = some (.cells #[.int .i64 a0_0, .int .i64 a0_1, .int .i64 a0_2, .bool true] 24 (0, 0))) := ⟨(by rw [hw]; exact (bG NB170_172 BK170))⟩; replace BK171 : Aside0 (w12.heap[gb171]? = some (.cells #[.int .i64 0, .int .i64 0, .int .i64 0, .bool false] 24 (0, 0))) := ⟨(by rw [hw]; exact (bG NB171_172 BK171))⟩; replace BK172 : Aside0 (w12.heap[gb172]? = some (.cells #[.int .i64 0, .int .i64 0, .int .i64 (Int.tmod (wrap64 (4 - a0_2)) 4), .bool true] 24 (0, 0))) := ⟨(by rw [hw]; exact (by refine bU ?_; refine blk_put (cs := #[.int .i64 0, .int .i64 0, .int .i64 (Int.tmod (wrap64 (4 - a0_2)) 4), .bool false]) ?_ 3 _ rfl; refine bU ?_; refine blk_put (cs := #[.int .i64 0, .int .i64 0, .int .i64 0, .bool false]) ?_ 2 _ rfl; refine bU ?_; refine blk_put (cs := #[.int .i64 0, .int .i64 0, .int .i64 0, .bool false]) ?_ 1 _ rfl; refine bU ?_; refine blk_put (cs := #[.int .i64 0, .int .i64 0, .int .i64 0, .bool false]) ?_ 0 _ rfl; refine bU ?_; exact BK172.out))⟩; replace HB : Aside0 (Below w.heap.size w w12) := ⟨(by rw [hw]; exact (lV3 GE170 GE171 GE172))⟩; clear hw; have hcz13_0 := cz BK170 0 (.int .i64 a0_0); have hcz13_1 := cz BK170 1 (.int .i64 a0_1); have hcz13_2 := cz BK170 2 (.int .i64 a0_2); have hcz13_3 := cz BK170 3 (.bool true); have hfz13_0 := fz BK170 0; have hfz13_1 := fz BK170 1; have hfz13_2 := fz BK170 2; have hfz13_3 := fz BK170 3; have hcz14_0 := cz BK172 0 (.int .i64 0); have hcz14_1 := cz BK172 1 (.int .i64 0); have hcz14_2 := cz BK172 2 (.int .i64 (Int.tmod (wrap64 (4 - a0_2)) 4)); have hcz14_3 := cz BK172 3 (.bool true); have hfz14_0 := fz BK172 0; have hfz14_1 := fz BK172 1; have hfz14_2 := fz BK172 2; have hfz14_3 := fz BK172 3) | ((with_reducible refine gate_store (t := 3) (p := 17) rfl ?_); refine store_event (t := 3) (p := 17) (v := ?vo_w15) (w1 := (w12.setCell ⟨gb172, 2, none⟩ (.int .i64 a0_2))) ?hg ?ho ?hn ?hr ?_; (case ho => rfl); (case hg => rfl); (case hn => rfl); (case hr => first | (go_simp; done) | (go_simp; rfl) | (have hq0_ := (blk_cell BK172.out 2).trans (show _ = some _ from rfl); have hf0_ := blk_frozen BK172.out 2; first | (go_simp; done) | (go_simp; rfl))); intro w15 hw; replace BK170 : Aside0 (w15.heap[gb170]? = some (.cells #[.int .i64 a0_0, .int .i64 a0_1, .int .i64 a0_2, .bool true] 24 (0, 0))) := ⟨(by rw [hw]; exact (bG NB170_172 BK170))⟩; replace BK171 : Aside0 (w15.heap[gb171]? = some (.cells #[.int .i64 0, .int .i64 0, .int .i64 0, .bool false] 24 (0, 0))) := ⟨(by rw [hw]; exact (bG NB171_172 BK171))⟩; replace BK172 : Aside0 (w15.heap[gb172]? = some (.cells #[.int .i64 0, .int .i64 0, .int .i64 a0_2, .bool true] 24 (0, 0))) := ⟨(by rw [hw]; exact (by refine bU ?_; refine blk_put (cs := #[.int .i64 0, .int .i64 0, .int .i64 (Int.tmod (wrap64 (4 - a0_2)) 4), .bool true]) ?_ 2 _ rfl; refine bU ?_; exact BK172.out))⟩; replace HB : Aside0 (Below w.heap.size w w15) := ⟨(by rw [hw]; exact (lV3 GE170 GE171 GE172))⟩; clear hw; have hcz16_0 := cz BK172 0 (.int .i64 0); have hcz16_1 := cz BK172 1 (.int .i64 0); have hcz16_2 := cz BK172 2 (.int .i64 a0_2); have hcz16_3 := cz BK172 3 (.bool true); have hfz16_0 := fz BK172 0; have hfz16_1 := fz BK172 1; have hfz16_2 := fz BK172 2; have hfz16_3 := fz BK172 3; have hcz17_0 := cz BK170 0 (.int .i64 a0_0); have hcz17_1 := cz BK170 1 (.int .i64 a0_1); have hcz17_2 := cz BK170 2 (.int .i64 a0_2); have hcz17_3 := cz BK170 3 (.bool true); have hfz17_0 := fz BK170 0; have hfz17_1 := fz BK170 1; have hfz17_2 := fz BK170 2; have hfz17_3 := fz BK170 3) | ((with_reducible refine gate_callee (f := 32) rfl ?_); refine goesL_ (some 26) rfl rfl Try.func32 (by kernel_rfl) rfl #[.agg #[.int .i64 0, .int .i64 0, .int .i64 a0_2, .bool true], .int .i64 (wrap64 (-a0_0)), .int .i64 (wrap64 (-a0_1))] rfl aE ?_; (with_reducible refine (spec_l4Apply.calls k 0 0 a0_2 true (wrap64 (-a0_0)) (wrap64 (-a0_1)) t173 t174 _ A3.out).mono ?_); rintro e w18 ⟨rfl, hb⟩; refine ⟨_, rfl, ?_⟩; replace BK170 := bB (bV BK170) hb; replace BK171 := bB (bV BK171) hb; replace BK172 := bB (bV BK172) hb; replace HB := bH (lV3 GE170 GE171 GE172) hb; (try clear hb); have hcz19_0 := cz BK172 0 (.int .i64 0); have hcz19_1 := cz BK172 1 (.int .i64 0); have hcz19_2 := cz BK172 2 (.int .i64 a0_2); have hcz19_3 := cz BK172 3 (.bool true); have hfz19_0 := fz BK172 0; have hfz19_1 := fz BK172 1; have hfz19_2 := fz BK172 2; have hfz19_3 := fz BK172 3) | ((with_reducible refine gate_store (t := 3) (p := 30) rfl ?_); refine store_event (t := 3) (p := 30) (v := ?vo_w20) (w1 := (w18.setCell ⟨gb172, 0, none⟩ (.int .i64 t173))) ?hg ?ho ?hn ?hr ?_; (case ho => rfl); (case hg => rfl); (case hn => rfl); (case hr => first | (go_simp; done) | (go_simp; rfl) | (have hq0_ := (blk_cell BK172.out 0).trans (show _ = some _ from rfl); have hf0_ := blk_frozen BK172.out 0; first | (go_simp; done) | (go_simp; rfl))); intro w20 hw; replace BK170 : Aside0 (w20.heap[gb170]? = some (.cells #[.int .i64 a0_0, .int .i64 a0_1, .int .i64 a0_2, .bool true] 24 (0, 0))) := ⟨(by rw [hw]; exact (bG NB170_172 BK170))⟩; replace BK171 : Aside0 (w20.heap[gb171]? = some (.cells #[.int .i64 0, .int .i64 0, .int .i64 0, .bool false] 24 (0, 0))) := ⟨(by rw [hw]; exact (bG NB171_172 BK171))⟩; replace BK172 : Aside0 (w20.heap[gb172]? = some (.cells #[.int .i64 t173, .int .i64 0, .int .i64 a0_2, .bool true] 24 (0, 0))) := ⟨(by rw [hw]; exact (by refine bU ?_; refine blk_put (cs := #[.int .i64 0, .int .i64 0, .int .i64 a0_2, .bool true]) ?_ 0 _ rfl; refine bU ?_; exact BK172.out))⟩; replace HB : Aside0 (Below w.heap.size w w20) := ⟨(by rw [hw]; exact (lV3 GE170 GE171 GE172))⟩; clear hw; have hcz21_0 := cz BK172 0 (.int .i64 t173); have hcz21_1 := cz BK172 1 (.int .i64 0); have hcz21_2 := cz BK172 2 (.int .i64 a0_2); have hcz21_3 := cz BK172 3 (.bool true); have hfz21_0 := fz BK172 0; have hfz21_1 := fz BK172 1; have hfz21_2 := fz BK172 2; have hfz21_3 := fz BK172 3) | ((with_reducible refine gate_store (t := 3) (p := 32) rfl ?_); refine store_event (t := 3) (p := 32) (v := ?vo_w22) (w1 := (w20.setCell ⟨gb172, 1, none⟩ (.int .i64 t174))) ?hg ?ho ?hn ?hr ?_; (case ho => rfl); (case hg => rfl); (case hn => rfl); (case hr => first | (go_simp; done) | (go_simp; rfl) | (have hq0_ := (blk_cell BK172.out 1).trans (show _ = some _ from rfl); have hf0_ := blk_frozen BK172.out 1; first | (go_simp; done) | (go_simp; rfl))); intro w22 hw; replace BK170 : Aside0 (w22.heap[gb170]? = some (.cells #[.int .i64 a0_0, .int .i64 a0_1, .int .i64 a0_2, .bool true] 24 (0, 0))) := ⟨(by rw [hw]; exact (bG NB170_172 BK170))⟩; replace BK171 : Aside0 (w22.heap[gb171]? = some (.cells #[.int .i64 0, .int .i64 0, .int .i64 0, .bool false] 24 (0, 0))) := ⟨(by rw [hw]; exact (bG NB171_172 BK171))⟩; replace BK172 : Aside0 (w22.heap[gb172]? = some (.cells #[.int .i64 t173, .int .i64 t174, .int .i64 a0_2, .bool true] 24 (0, 0))) := ⟨(by rw [hw]; exact (by refine bU ?_; refine blk_put (cs := #[.int .i64 t173, .int .i64 0, .int .i64 a0_2, .bool true]) ?_ 1 _ rfl; refine bU ?_; exact BK172.out))⟩; replace HB : Aside0 (Below w.heap.size w w22) := ⟨(by rw [hw]; exact (lV3 GE170 GE171 GE172))⟩; clear hw; have hcz23_0 := cz BK172 0 (.int .i64 t173); have hcz23_1 := cz BK172 1 (.int .i64 t174); have hcz23_2 := cz BK172 2 (.int .i64 a0_2); have hcz23_3 := cz BK172 3 (.bool true); have hfz23_0 := fz BK172 0; have hfz23_1 := fz BK172 1; have hfz23_2 := fz BK172 2; have hfz23_3 := fz BK172 3; have hcz24_0 := cz BK171 0 (.int .i64 0); have hcz24_1 := cz BK171 1 (.int .i64 0); have hcz24_2 := cz BK171 2 (.int .i64 0); have hcz24_3 := cz BK171 3 (.bool false); have hfz24_0 := fz BK171 0; have hfz24_1 := fz BK171 1; have hfz24_2 := fz BK171 2; have hfz24_3 := fz BK171 3) | ((with_reducible refine gate_store (t := 24) (p := 2) rfl ?_); refine store_event (t := 24) (p := 2) (v := ?vo_w25) (w1 := ((((w22.setCell ⟨gb171, 0, none⟩ (.int .i64 t173)).setCell ⟨gb171, 1, none⟩ (.int .i64 t174)).setCell ⟨gb171, 2, none⟩ (.int .i64 a0_2)).setCell ⟨gb171, 3, none⟩ (.bool true))) ?hg ?ho ?hn ?hr ?_; (case ho => rfl); (case hg => rfl); (case hn => rfl); (case hr => first | (go_simp; done) | (go_simp; rfl) | (have hq0_ := (blk_cell BK171.out 0).trans (show _ = some _ from rfl); have hf0_ := blk_frozen BK171.out 0; have hq1_ := (blk_cell BK171.out 1).trans (show _ = some _ from rfl); have hf1_ := blk_frozen BK171.out 1; have hq2_ := (blk_cell BK171.out 2).trans (show _ = some _ from rfl); have hf2_ := blk_frozen BK171.out 2; have hq3_ := (blk_cell BK171.out 3).trans (show _ = some _ from rfl); have hf3_ := blk_frozen BK171.out 3; first | (go_simp; done) | (go_simp; rfl))); intro w25 hw; replace BK170 : Aside0 (w25.heap[gb170]? = some (.cells #[.int .i64 a0_0, .int .i64 a0_1, .int .i64 a0_2, .bool true] 24 (0, 0))) := ⟨(by rw [hw]; exact (bG NB170_171 BK170))⟩; replace BK171 : Aside0 (w25.heap[gb171]? = some (.cells #[.int .i64 t173, .int .i64 t174, .int .i64 a0_2, .bool true] 24 (0, 0))) := ⟨(by rw [hw]; exact (by refine bU ?_; refine blk_put (cs := #[.int .i64 t173, .int .i64 t174, .int .i64 a0_2, .bool false]) ?_ 3 _ rfl; refine bU ?_; refine blk_put (cs := #[.int .i64 t173, .int .i64 t174, .int .i64 0, .bool false]) ?_ 2 _ rfl; refine bU ?_; refine blk_put (cs := #[.int .i64 t173, .int .i64 0, .int .i64 0, .bool false]) ?_ 1 _ rfl; refine bU ?_; refine blk_put (cs := #[.int .i64 0, .int .i64 0, .int .i64 0, .bool false]) ?_ 0 _ rfl; refine bU ?_; exact BK171.out))⟩; replace BK172 : Aside0 (w25.heap[gb172]? = some (.cells #[.int .i64 t173, .int .i64 t174, .int .i64 a0_2, .bool true] 24 (0, 0))) := ⟨(by rw [hw]; exact (bG NB172_171 BK172))⟩; replace HB : Aside0 (Below w.heap.size w w25) := ⟨(by rw [hw]; exact (lV3 GE170 GE171 GE172))⟩; clear hw))
  refine bodyPost_ret (results_cell_row rfl _ _ gb171 24 #[.int .i64 t173, .int .i64 t174, .int .i64 a0_2, .bool true] (0, 0) _ rfl (bV BK171) Try.underlying24 rfl (by kernel_rfl)) rfl ?_
  exact ⟨eE, lV3 GE170 GE171 GE172⟩
 ·replace c2 := Bool.eq_false_iff.mpr c2
  subst c2
  have H1 : ((spec_l4Apply.f k 0 0 (Int.tmod (wrap64 (4 - a0_2)) 4) false (wrap64 (-a0_0)) (wrap64 (-a0_1))).bind fun bt175 => (some (bt175.1, bt175.2, Int.tmod (wrap64 (4 - a0_2)) 4, false))) = some (r1, r2, r3, r4) := by rw [if_neg (show ¬ (false = true) by decide)] at H; exact H
  clear H
  have H := H1
  clear H1
  replace H := Option.bind_eq_some_iff.mp H
  obtain ⟨⟨t175, t176⟩, A260, H⟩ := H
  replace H : (some (t175, t176, Int.tmod (wrap64 (4 - a0_2)) 4, false)) = some (r1, r2, r3, r4) := H
  have A26 := Aside0.mk A260
  clear A260
  simp only [Option.some.injEq, Prod.mk.injEq] at H
  obtain ⟨rfl, rfl, rfl, rfl⟩ := H
  go_enter Try.func16, Try.ntmps16
  go_wp2_with (first | ((with_reducible refine gate_dst (N := 1) rfl ?_); refine box_event rfl (N := 1) rfl (cs := #[.int .i64 a0_0, .int .i64 a0_1, .int .i64 a0_2, .bool false]) (t := 24) sE ?_; intro gb170 hg w27 hbox hb; have BK170 := Aside0.mk hbox; have GW170 := gS w hg (lU); have GE170 := gS w hg (lU); replace HB := bH (lU) hb; clear hb hbox hg) | ((with_reducible refine gate_dst (N := 2) rfl ?_); refine box_event rfl (N := 2) rfl (cs := #[.int .i64 0, .int .i64 0, .int .i64 0, .bool false]) (t := 24) sE ?_; intro gb171 hg w28 hbox hb; have BK171 := Aside0.mk hbox; have GW171 := gS w hg (lV1 GE170); have GE171 := gS w hg (lV1 GE170); replace HB := bH (lV1 GE170) hb; have NB170_171 := nL hg (bV BK170); have NB171_170 := nG hg (bV BK170); replace BK170 := bB (bV BK170) hb; clear hb hbox hg; have hnb29 := NB170_171.out; have hnc29 := NB171_170.out; have hcz30_0 := cz BK170 0 (.int .i64 a0_0); have hcz30_1 := cz BK170 1 (.int .i64 a0_1); have hcz30_2 := cz BK170 2 (.int .i64 a0_2); have hcz30_3 := cz BK170 3 (.bool false); have hfz30_0 := fz BK170 0; have hfz30_1 := fz BK170 1; have hfz30_2 := fz BK170 2; have hfz30_3 := fz BK170 3) | ((with_reducible refine gate_dst (N := 3) rfl ?_); refine box_event rfl (N := 3) rfl (cs := #[.int .i64 0, .int .i64 0, .int .i64 0, .bool false]) (t := 24) sE ?_; intro gb172 hg w31 hbox hb; have BK172 := Aside0.mk hbox; have GW172 := gS w hg (lV2 GE170 GE171); have GE172 := gS w hg (lV2 GE170 GE171); replace HB := bH (lV2 GE170 GE171) hb; have NB170_172 := nL hg (bV BK170); have NB172_170 := nG hg (bV BK170); replace BK170 := bB (bV BK170) hb; have NB171_172 := nL hg (bV BK171); have NB172_171 := nG hg (bV BK171); replace BK171 := bB (bV BK171) hb; clear hb hbox hg; have hnb32 := NB172_170.out; have hnc32 := NB170_172.out; have hnb33 := NB172_171.out; have hnc33 := NB171_172.out; have hcz34_0 := cz BK172 0 (.int .i64 0); have hcz34_1 := cz BK172 1 (.int .i64 0); have hcz34_2 := cz BK172 2 (.int .i64 0); have hcz34_3 := cz BK172 3 (.bool false); have hfz34_0 := fz BK172 0; have hfz34_1 := fz BK172 1; have hfz34_2 := fz BK172 2; have hfz34_3 := fz BK172 3) | ((with_reducible refine gate_store (t := 24) (p := 3) rfl ?_); refine store_event (t := 24) (p := 3) (v := ?vo_w35) (w1 := ((((w31.setCell ⟨gb172, 0, none⟩ (.int .i64 0)).setCell ⟨gb172, 1, none⟩ (.int .i64 0)).setCell ⟨gb172, 2, none⟩ (.int .i64 (Int.tmod (wrap64 (4 - a0_2)) 4))).setCell ⟨gb172, 3, none⟩ (.bool false))) ?hg ?ho ?hn ?hr ?_; (case ho => rfl); (case hg => rfl); (case hn => rfl); (case hr => first | (go_simp; done) | (go_simp; rfl) | (have hq0_ := (blk_cell BK172.out 0).trans (show _ = some _ from rfl); have hf0_ := blk_frozen BK172.out 0; have hq1_ := (blk_cell BK172.out 1).trans (show _ = some _ from rfl); have hf1_ := blk_frozen BK172.out 1; have hq2_ := (blk_cell BK172.out 2).trans (show _ = some _ from rfl); have hf2_ := blk_frozen BK172.out 2; have hq3_ := (blk_cell BK172.out 3).trans (show _ = some _ from rfl); have hf3_ := blk_frozen BK172.out 3; first | (go_simp; done) | (go_simp; rfl))); intro w35 hw; replace BK170 : Aside0 (w35.heap[gb170]? = some (.cells #[.int .i64 a0_0, .int .i64 a0_1, .int .i64 a0_2, .bool false] 24 (0, 0))) := ⟨(by rw [hw]; exact (bG NB170_172 BK170))⟩; replace BK171 : Aside0 (w35.heap[gb171]? = some (.cells #[.int .i64 0, .int .i64 0, .int .i64 0, .bool false] 24 (0, 0))) := ⟨(by rw [hw]; exact (bG NB171_172 BK171))⟩; replace BK172 : Aside0 (w35.heap[gb172]? = some (.cells #[.int .i64 0, .int .i64 0, .int .i64 (Int.tmod (wrap64 (4 - a0_2)) 4), .bool false] 24 (0, 0))) := ⟨(by rw [hw]; exact (by refine bU ?_; refine blk_put (cs := #[.int .i64 0, .int .i64 0, .int .i64 (Int.tmod (wrap64 (4 - a0_2)) 4), .bool false]) ?_ 3 _ rfl; refine bU ?_; refine blk_put (cs := #[.int .i64 0, .int .i64 0, .int .i64 0, .bool false]) ?_ 2 _ rfl; refine bU ?_; refine blk_put (cs := #[.int .i64 0, .int .i64 0, .int .i64 0, .bool false]) ?_ 1 _ rfl; refine bU ?_; refine blk_put (cs := #[.int .i64 0, .int .i64 0, .int .i64 0, .bool false]) ?_ 0 _ rfl; refine bU ?_; exact BK172.out))⟩; replace HB : Aside0 (Below w.heap.size w w35) := ⟨(by rw [hw]; exact (lV3 GE170 GE171 GE172))⟩; clear hw; have hcz36_0 := cz BK170 0 (.int .i64 a0_0); have hcz36_1 := cz BK170 1 (.int .i64 a0_1); have hcz36_2 := cz BK170 2 (.int .i64 a0_2); have hcz36_3 := cz BK170 3 (.bool false); have hfz36_0 := fz BK170 0; have hfz36_1 := fz BK170 1; have hfz36_2 := fz BK170 2; have hfz36_3 := fz BK170 3; have hcz37_0 := cz BK172 0 (.int .i64 0); have hcz37_1 := cz BK172 1 (.int .i64 0); have hcz37_2 := cz BK172 2 (.int .i64 (Int.tmod (wrap64 (4 - a0_2)) 4)); have hcz37_3 := cz BK172 3 (.bool false); have hfz37_0 := fz BK172 0; have hfz37_1 := fz BK172 1; have hfz37_2 := fz BK172 2; have hfz37_3 := fz BK172 3) | ((with_reducible refine gate_callee (f := 32) rfl ?_); refine goesL_ (some 26) rfl rfl Try.func32 (by kernel_rfl) rfl #[.agg #[.int .i64 0, .int .i64 0, .int .i64 (Int.tmod (wrap64 (4 - a0_2)) 4), .bool false], .int .i64 (wrap64 (-a0_0)), .int .i64 (wrap64 (-a0_1))] rfl aE ?_; (with_reducible refine (spec_l4Apply.calls k 0 0 (Int.tmod (wrap64 (4 - a0_2)) 4) false (wrap64 (-a0_0)) (wrap64 (-a0_1)) t175 t176 _ A26.out).mono ?_); rintro e w38 ⟨rfl, hb⟩; refine ⟨_, rfl, ?_⟩; replace BK170 := bB (bV BK170) hb; replace BK171 := bB (bV BK171) hb; replace BK172 := bB (bV BK172) hb; replace HB := bH (lV3 GE170 GE171 GE172) hb; (try clear hb); have hcz39_0 := cz BK172 0 (.int .i64 0); have hcz39_1 := cz BK172 1 (.int .i64 0); have hcz39_2 := cz BK172 2 (.int .i64 (Int.tmod (wrap64 (4 - a0_2)) 4)); have hcz39_3 := cz BK172 3 (.bool false); have hfz39_0 := fz BK172 0; have hfz39_1 := fz BK172 1; have hfz39_2 := fz BK172 2; have hfz39_3 := fz BK172 3) | ((with_reducible refine gate_store (t := 3) (p := 30) rfl ?_); refine store_event (t := 3) (p := 30) (v := ?vo_w40) (w1 := (w38.setCell ⟨gb172, 0, none⟩ (.int .i64 t175))) ?hg ?ho ?hn ?hr ?_; (case ho => rfl); (case hg => rfl); (case hn => rfl); (case hr => first | (go_simp; done) | (go_simp; rfl) | (have hq0_ := (blk_cell BK172.out 0).trans (show _ = some _ from rfl); have hf0_ := blk_frozen BK172.out 0; first | (go_simp; done) | (go_simp; rfl))); intro w40 hw; replace BK170 : Aside0 (w40.heap[gb170]? = some (.cells #[.int .i64 a0_0, .int .i64 a0_1, .int .i64 a0_2, .bool false] 24 (0, 0))) := ⟨(by rw [hw]; exact (bG NB170_172 BK170))⟩; replace BK171 : Aside0 (w40.heap[gb171]? = some (.cells #[.int .i64 0, .int .i64 0, .int .i64 0, .bool false] 24 (0, 0))) := ⟨(by rw [hw]; exact (bG NB171_172 BK171))⟩; replace BK172 : Aside0 (w40.heap[gb172]? = some (.cells #[.int .i64 t175, .int .i64 0, .int .i64 (Int.tmod (wrap64 (4 - a0_2)) 4), .bool false] 24 (0, 0))) := ⟨(by rw [hw]; exact (by refine bU ?_; refine blk_put (cs := #[.int .i64 0, .int .i64 0, .int .i64 (Int.tmod (wrap64 (4 - a0_2)) 4), .bool false]) ?_ 0 _ rfl; refine bU ?_; exact BK172.out))⟩; replace HB : Aside0 (Below w.heap.size w w40) := ⟨(by rw [hw]; exact (lV3 GE170 GE171 GE172))⟩; clear hw; have hcz41_0 := cz BK172 0 (.int .i64 t175); have hcz41_1 := cz BK172 1 (.int .i64 0); have hcz41_2 := cz BK172 2 (.int .i64 (Int.tmod (wrap64 (4 - a0_2)) 4)); have hcz41_3 := cz BK172 3 (.bool false); have hfz41_0 := fz BK172 0; have hfz41_1 := fz BK172 1; have hfz41_2 := fz BK172 2; have hfz41_3 := fz BK172 3) | ((with_reducible refine gate_store (t := 3) (p := 32) rfl ?_); refine store_event (t := 3) (p := 32) (v := ?vo_w42) (w1 := (w40.setCell ⟨gb172, 1, none⟩ (.int .i64 t176))) ?hg ?ho ?hn ?hr ?_; (case ho => rfl); (case hg => rfl); (case hn => rfl); (case hr => first | (go_simp; done) | (go_simp; rfl) | (have hq0_ := (blk_cell BK172.out 1).trans (show _ = some _ from rfl); have hf0_ := blk_frozen BK172.out 1; first | (go_simp; done) | (go_simp; rfl))); intro w42 hw; replace BK170 : Aside0 (w42.heap[gb170]? = some (.cells #[.int .i64 a0_0, .int .i64 a0_1, .int .i64 a0_2, .bool false] 24 (0, 0))) := ⟨(by rw [hw]; exact (bG NB170_172 BK170))⟩; replace BK171 : Aside0 (w42.heap[gb171]? = some (.cells #[.int .i64 0, .int .i64 0, .int .i64 0, .bool false] 24 (0, 0))) := ⟨(by rw [hw]; exact (bG NB171_172 BK171))⟩; replace BK172 : Aside0 (w42.heap[gb172]? = some (.cells #[.int .i64 t175, .int .i64 t176, .int .i64 (Int.tmod (wrap64 (4 - a0_2)) 4), .bool false] 24 (0, 0))) := ⟨(by rw [hw]; exact (by refine bU ?_; refine blk_put (cs := #[.int .i64 t175, .int .i64 0, .int .i64 (Int.tmod (wrap64 (4 - a0_2)) 4), .bool false]) ?_ 1 _ rfl; refine bU ?_; exact BK172.out))⟩; replace HB : Aside0 (Below w.heap.size w w42) := ⟨(by rw [hw]; exact (lV3 GE170 GE171 GE172))⟩; clear hw; have hcz43_0 := cz BK172 0 (.int .i64 t175); have hcz43_1 := cz BK172 1 (.int .i64 t176); have hcz43_2 := cz BK172 2 (.int .i64 (Int.tmod (wrap64 (4 - a0_2)) 4)); have hcz43_3 := cz BK172 3 (.bool false); have hfz43_0 := fz BK172 0; have hfz43_1 := fz BK172 1; have hfz43_2 := fz BK172 2; have hfz43_3 := fz BK172 3; have hcz44_0 := cz BK171 0 (.int .i64 0); have hcz44_1 := cz BK171 1 (.int .i64 0); have hcz44_2 := cz BK171 2 (.int .i64 0); have hcz44_3 := cz BK171 3 (.bool false); have hfz44_0 := fz BK171 0; have hfz44_1 := fz BK171 1; have hfz44_2 := fz BK171 2; have hfz44_3 := fz BK171 3) | ((with_reducible refine gate_store (t := 24) (p := 2) rfl ?_); refine store_event (t := 24) (p := 2) (v := ?vo_w45) (w1 := ((((w42.setCell ⟨gb171, 0, none⟩ (.int .i64 t175)).setCell ⟨gb171, 1, none⟩ (.int .i64 t176)).setCell ⟨gb171, 2, none⟩ (.int .i64 (Int.tmod (wrap64 (4 - a0_2)) 4))).setCell ⟨gb171, 3, none⟩ (.bool false))) ?hg ?ho ?hn ?hr ?_; (case ho => rfl); (case hg => rfl); (case hn => rfl); (case hr => first | (go_simp; done) | (go_simp; rfl) | (have hq0_ := (blk_cell BK171.out 0).trans (show _ = some _ from rfl); have hf0_ := blk_frozen BK171.out 0; have hq1_ := (blk_cell BK171.out 1).trans (show _ = some _ from rfl); have hf1_ := blk_frozen BK171.out 1; have hq2_ := (blk_cell BK171.out 2).trans (show _ = some _ from rfl); have hf2_ := blk_frozen BK171.out 2; have hq3_ := (blk_cell BK171.out 3).trans (show _ = some _ from rfl); have hf3_ := blk_frozen BK171.out 3; first | (go_simp; done) | (go_simp; rfl))); intro w45 hw; replace BK170 : Aside0 (w45.heap[gb170]? = some (.cells #[.int .i64 a0_0, .int .i64 a0_1, .int .i64 a0_2, .bool false] 24 (0, 0))) := ⟨(by rw [hw]; exact (bG NB170_171 BK170))⟩; replace BK171 : Aside0 (w45.heap[gb171]? = some (.cells #[.int .i64 t175, .int .i64 t176, .int .i64 (Int.tmod (wrap64 (4 - a0_2)) 4), .bool false] 24 (0, 0))) := ⟨(by rw [hw]; exact (by refine bU ?_; refine blk_put (cs := #[.int .i64 t175, .int .i64 t176, .int .i64 (Int.tmod (wrap64 (4 - a0_2)) 4), .bool false]) ?_ 3 _ rfl; refine bU ?_; refine blk_put (cs := #[.int .i64 t175, .int .i64 t176, .int .i64 0, .bool false]) ?_ 2 _ rfl; refine bU ?_; refine blk_put (cs := #[.int .i64 t175, .int .i64 0, .int .i64 0, .bool false]) ?_ 1 _ rfl; refine bU ?_; refine blk_put (cs := #[.int .i64 0, .int .i64 0, .int .i64 0, .bool false]) ?_ 0 _ rfl; refine bU ?_; exact BK171.out))⟩; replace BK172 : Aside0 (w45.heap[gb172]? = some (.cells #[.int .i64 t175, .int .i64 t176, .int .i64 (Int.tmod (wrap64 (4 - a0_2)) 4), .bool false] 24 (0, 0))) := ⟨(by rw [hw]; exact (bG NB172_171 BK172))⟩; replace HB : Aside0 (Below w.heap.size w w45) := ⟨(by rw [hw]; exact (lV3 GE170 GE171 GE172))⟩; clear hw))
  refine bodyPost_ret (results_cell_row rfl _ _ gb171 24 #[.int .i64 t175, .int .i64 t176, .int .i64 (Int.tmod (wrap64 (4 - a0_2)) 4), .bool false] (0, 0) _ rfl (bV BK171) Try.underlying24 rfl (by kernel_rfl)) rfl ?_
  exact ⟨eE, lV3 GE170 GE171 GE172⟩
def spec_BackSpot.f (k : Nat) (a0_0 : Int) (a0_1 : Int) (a0_2 : Int) (a0_3 : Bool) : Option (Int × Int × Int × Bool × Bool) := (spec_l4Good.f a0_0 a0_1 a0_2 a0_3).bind fun t179 => (if t179 = true then ((spec_l4Back.f k a0_0 a0_1 a0_2 a0_3).bind fun bt180 => (some (bt180.1, bt180.2.1, bt180.2.2.1, bt180.2.2.2, true))) else (some (0, 0, 0, false, false)))
theorem spec_BackSpot.mono : ∀ a0 a1 a2 a3 k, LeO (spec_BackSpot.f k a0 a1 a2 a3) (spec_BackSpot.f (k + 1) a0 a1 a2 a3) := by
 intro a0 a1 a2 a3 k
 unfold spec_BackSpot.f
 repeat' first
   | (with_reducible exact spec_l4Back.mono _ _ _ _ _)
   | (with_reducible first | exact LeO.refl _ | exact LeO.none _ | refine LeO.ite ?_ ?_ | refine LeO.bind ?_ (fun _ => ?_))
   | exact spec_l4Back.mono _ _ _ _ _ | exact LeO.none _ | refine LeO.ite ?_ ?_ | refine LeO.bind ?_ (fun _ => ?_)
set_option maxHeartbeats 8000000 in
set_option maxRecDepth 100000 in
theorem spec_BackSpot.calls (k : Nat) (a0_0 : Int) (a0_1 : Int) (a0_2 : Int) (a0_3 : Bool) (r1 : Int) (r2 : Int) (r3 : Int) (r4 : Bool) (r5 : Bool) (w : World) (h : spec_BackSpot.f k a0_0 a0_1 a0_2 a0_3 = some (r1, r2, r3, r4, r5)) :
  Calls Try.prog 6 #[.agg #[.int .i64 a0_0, .int .i64 a0_1, .int .i64 a0_2, .bool a0_3]] w fun e w' => e = .returned (.tuple #[.agg #[.int .i64 r1, .int .i64 r2, .int .i64 r3, .bool r4], .bool r5]) ∧ Below w.heap.size w w' := by
 have hu24 := Try.underlying24
 have HB := Aside0.mk (Below.refl w.heap.size w)
 have H : ((spec_l4Good.f a0_0 a0_1 a0_2 a0_3).bind fun t179 => (if t179 = true then ((spec_l4Back.f k a0_0 a0_1 a0_2 a0_3).bind fun bt180 => (some (bt180.1, bt180.2.1, bt180.2.2.1, bt180.2.2.2, true))) else (some (0, 0, 0, false, false)))) = some (r1, r2, r3, r4, r5) := h
 clear h
 replace H := Option.bind_eq_some_iff.mp H
 obtain ⟨t179, A20, H⟩ := H
 replace H : (if t179 = true then ((spec_l4Back.f k a0_0 a0_1 a0_2 a0_3).bind fun bt180 => (some (bt180.1, bt180.2.1, bt180.2.2.1, bt180.2.2.2, true))) else (some (0, 0, 0, false, false))) = some (r1, r2, r3, r4, r5) := H
 have A2 := Aside0.mk A20
 clear A20
 by_cases c3 : t179 = true
 ·subst c3
  have H1 : ((spec_l4Back.f k a0_0 a0_1 a0_2 a0_3).bind fun bt180 => (some (bt180.1, bt180.2.1, bt180.2.2.1, bt180.2.2.2, true))) = some (r1, r2, r3, r4, r5) := by rw [if_pos rfl] at H; exact H
  clear H
  have H := H1
  clear H1
  replace H := Option.bind_eq_some_iff.mp H
  obtain ⟨⟨t180, t181, t182, t183⟩, A40, H⟩ := H
  replace H : (some (t180, t181, t182, t183, true)) = some (r1, r2, r3, r4, r5) := H
  have A4 := Aside0.mk A40
  clear A40
  simp only [Option.some.injEq, Prod.mk.injEq] at H
  obtain ⟨rfl, rfl, rfl, rfl, rfl⟩ := H
  go_enter Try.func6, Try.ntmps6
  go_wp2_with (first | ((with_reducible refine gate_dst (N := 1) rfl ?_); refine box_event rfl (N := 1) rfl (cs := #[.int .i64 a0_0, .int .i64 a0_1, .int .i64 a0_2, .bool a0_3]) (t := 24) sE ?_; intro gb177 hg w5 hbox hb; have BK177 := Aside0.mk hbox; have GW177 := gS w hg (lU); have GE177 := gS w hg (lU); replace HB := bH (lU) hb; clear hb hbox hg) | ((with_reducible refine gate_dst (N := 2) rfl ?_); refine box_event rfl (N := 2) rfl (cs := #[.int .i64 0, .int .i64 0, .int .i64 0, .bool false]) (t := 24) sE ?_; intro gb178 hg w6 hbox hb; have BK178 := Aside0.mk hbox; have GW178 := gS w hg (lV1 GE177); have GE178 := gS w hg (lV1 GE177); replace HB := bH (lV1 GE177) hb; have NB177_178 := nL hg (bV BK177); have NB178_177 := nG hg (bV BK177); replace BK177 := bB (bV BK177) hb; clear hb hbox hg; have hnb7 := NB177_178.out; have hnc7 := NB178_177.out; have hcz8_0 := cz BK177 0 (.int .i64 a0_0); have hcz8_1 := cz BK177 1 (.int .i64 a0_1); have hcz8_2 := cz BK177 2 (.int .i64 a0_2); have hcz8_3 := cz BK177 3 (.bool a0_3); have hfz8_0 := fz BK177 0; have hfz8_1 := fz BK177 1; have hfz8_2 := fz BK177 2; have hfz8_3 := fz BK177 3) | ((with_reducible refine gate_callee (f := 15) rfl ?_); refine goesL_ (some 5) rfl rfl Try.func15 (by kernel_rfl) rfl #[.agg #[.int .i64 a0_0, .int .i64 a0_1, .int .i64 a0_2, .bool a0_3]] rfl aE ?_; (with_reducible refine (spec_l4Good.calls a0_0 a0_1 a0_2 a0_3 true _ A2.out).mono ?_); rintro e w9 ⟨rfl, hb⟩; refine ⟨_, rfl, ?_⟩; replace BK177 := bB (bV BK177) hb; replace BK178 := bB (bV BK178) hb; replace HB := bH (lV2 GE177 GE178) hb; (try clear hb); have hcz10_0 := cz BK177 0 (.int .i64 a0_0); have hcz10_1 := cz BK177 1 (.int .i64 a0_1); have hcz10_2 := cz BK177 2 (.int .i64 a0_2); have hcz10_3 := cz BK177 3 (.bool a0_3); have hfz10_0 := fz BK177 0; have hfz10_1 := fz BK177 1; have hfz10_2 := fz BK177 2; have hfz10_3 := fz BK177 3) | ((with_reducible refine gate_callee (f := 16) rfl ?_); refine goesL_ (some 9) rfl rfl Try.func16 (by kernel_rfl) rfl #[.agg #[.int .i64 a0_0, .int .i64 a0_1, .int .i64 a0_2, .bool a0_3]] rfl aE ?_; (with_reducible refine (spec_l4Back.calls k a0_0 a0_1 a0_2 a0_3 t180 t181 t182 t183 _ A4.out).mono ?_); rintro e w11 ⟨rfl, hb⟩; refine ⟨_, rfl, ?_⟩; replace BK177 := bB (bV BK177) hb; replace BK178 := bB (bV BK178) hb; replace HB := bH (lV2 GE177 GE178) hb; (try clear hb); have hcz12_0 := cz BK178 0 (.int .i64 0); have hcz12_1 := cz BK178 1 (.int .i64 0); have hcz12_2 := cz BK178 2 (.int .i64 0); have hcz12_3 := cz BK178 3 (.bool false); have hfz12_0 := fz BK178 0; have hfz12_1 := fz BK178 1; have hfz12_2 := fz BK178 2; have hfz12_3 := fz BK178 3) | ((with_reducible refine gate_store (t := 24) (p := 2) rfl ?_); refine store_event (t := 24) (p := 2) (v := ?vo_w13) (w1 := ((((w11.setCell ⟨gb178, 0, none⟩ (.int .i64 t180)).setCell ⟨gb178, 1, none⟩ (.int .i64 t181)).setCell ⟨gb178, 2, none⟩ (.int .i64 t182)).setCell ⟨gb178, 3, none⟩ (.bool t183))) ?hg ?ho ?hn ?hr ?_; (case ho => rfl); (case hg => rfl); (case hn => rfl); (case hr => first | (go_simp; done) | (go_simp; rfl) | (have hq0_ := (blk_cell BK178.out 0).trans (show _ = some _ from rfl); have hf0_ := blk_frozen BK178.out 0; have hq1_ := (blk_cell BK178.out 1).trans (show _ = some _ from rfl); have hf1_ := blk_frozen BK178.out 1; have hq2_ := (blk_cell BK178.out 2).trans (show _ = some _ from rfl); have hf2_ := blk_frozen BK178.out 2; have hq3_ := (blk_cell BK178.out 3).trans (show _ = some _ from rfl); have hf3_ := blk_frozen BK178.out 3; first | (go_simp; done) | (go_simp; rfl))); intro w13 hw; replace BK177 : Aside0 (w13.heap[gb177]? = some (.cells #[.int .i64 a0_0, .int .i64 a0_1, .int .i64 a0_2, .bool a0_3] 24 (0, 0))) := ⟨(by rw [hw]; exact (bG NB177_178 BK177))⟩; replace BK178 : Aside0 (w13.heap[gb178]? = some (.cells #[.int .i64 t180, .int .i64 t181, .int .i64 t182, .bool t183] 24 (0, 0))) := ⟨(by rw [hw]; exact (by refine bU ?_; refine blk_put (cs := #[.int .i64 t180, .int .i64 t181, .int .i64 t182, .bool false]) ?_ 3 _ rfl; refine bU ?_; refine blk_put (cs := #[.int .i64 t180, .int .i64 t181, .int .i64 0, .bool false]) ?_ 2 _ rfl; refine bU ?_; refine blk_put (cs := #[.int .i64 t180, .int .i64 0, .int .i64 0, .bool false]) ?_ 1 _ rfl; refine bU ?_; refine blk_put (cs := #[.int .i64 0, .int .i64 0, .int .i64 0, .bool false]) ?_ 0 _ rfl; refine bU ?_; exact BK178.out))⟩; replace HB : Aside0 (Below w.heap.size w w13) := ⟨(by rw [hw]; exact (lV2 GE177 GE178))⟩; clear hw))
  refine bodyPost_ret (results_ct rfl _ _ gb178 24 #[.int .i64 t180, .int .i64 t181, .int .i64 t182, .bool t183] (0, 0) _ rfl (bV BK178) Try.underlying24 rfl (by kernel_rfl)) rfl ?_
  exact ⟨eE, lV2 GE177 GE178⟩
 ·replace c3 := Bool.eq_false_iff.mpr c3
  subst c3
  have H1 : (some (0, 0, 0, false, false)) = some (r1, r2, r3, r4, r5) := by rw [if_neg (show ¬ (false = true) by decide)] at H; exact H
  clear H
  have H := H1
  clear H1
  simp only [Option.some.injEq, Prod.mk.injEq] at H
  obtain ⟨rfl, rfl, rfl, rfl, rfl⟩ := H
  go_enter Try.func6, Try.ntmps6
  go_wp2_with (first | ((with_reducible refine gate_dst (N := 1) rfl ?_); refine box_event rfl (N := 1) rfl (cs := #[.int .i64 a0_0, .int .i64 a0_1, .int .i64 a0_2, .bool a0_3]) (t := 24) sE ?_; intro gb177 hg w14 hbox hb; have BK177 := Aside0.mk hbox; have GW177 := gS w hg (lU); have GE177 := gS w hg (lU); replace HB := bH (lU) hb; clear hb hbox hg) | ((with_reducible refine gate_dst (N := 2) rfl ?_); refine box_event rfl (N := 2) rfl (cs := #[.int .i64 0, .int .i64 0, .int .i64 0, .bool false]) (t := 24) sE ?_; intro gb178 hg w15 hbox hb; have BK178 := Aside0.mk hbox; have GW178 := gS w hg (lV1 GE177); have GE178 := gS w hg (lV1 GE177); replace HB := bH (lV1 GE177) hb; have NB177_178 := nL hg (bV BK177); have NB178_177 := nG hg (bV BK177); replace BK177 := bB (bV BK177) hb; clear hb hbox hg; have hnb16 := NB177_178.out; have hnc16 := NB178_177.out; have hcz17_0 := cz BK177 0 (.int .i64 a0_0); have hcz17_1 := cz BK177 1 (.int .i64 a0_1); have hcz17_2 := cz BK177 2 (.int .i64 a0_2); have hcz17_3 := cz BK177 3 (.bool a0_3); have hfz17_0 := fz BK177 0; have hfz17_1 := fz BK177 1; have hfz17_2 := fz BK177 2; have hfz17_3 := fz BK177 3) | ((with_reducible refine gate_callee (f := 15) rfl ?_); refine goesL_ (some 5) rfl rfl Try.func15 (by kernel_rfl) rfl #[.agg #[.int .i64 a0_0, .int .i64 a0_1, .int .i64 a0_2, .bool a0_3]] rfl aE ?_; (with_reducible refine (spec_l4Good.calls a0_0 a0_1 a0_2 a0_3 false _ A2.out).mono ?_); rintro e w18 ⟨rfl, hb⟩; refine ⟨_, rfl, ?_⟩; replace BK177 := bB (bV BK177) hb; replace BK178 := bB (bV BK178) hb; replace HB := bH (lV2 GE177 GE178) hb; (try clear hb); have hcz19_0 := cz BK178 0 (.int .i64 0); have hcz19_1 := cz BK178 1 (.int .i64 0); have hcz19_2 := cz BK178 2 (.int .i64 0); have hcz19_3 := cz BK178 3 (.bool false); have hfz19_0 := fz BK178 0; have hfz19_1 := fz BK178 1; have hfz19_2 := fz BK178 2; have hfz19_3 := fz BK178 3) | ((with_reducible refine gate_store (t := 24) (p := 2) rfl ?_); refine store_event (t := 24) (p := 2) (v := ?vo_w20) (w1 := ((((w18.setCell ⟨gb178, 0, none⟩ (.int .i64 0)).setCell ⟨gb178, 1, none⟩ (.int .i64 0)).setCell ⟨gb178, 2, none⟩ (.int .i64 0)).setCell ⟨gb178, 3, none⟩ (.bool false))) ?hg ?ho ?hn ?hr ?_; (case ho => rfl); (case hg => rfl); (case hn => rfl); (case hr => first | (go_simp; done) | (go_simp; rfl) | (have hq0_ := (blk_cell BK178.out 0).trans (show _ = some _ from rfl); have hf0_ := blk_frozen BK178.out 0; have hq1_ := (blk_cell BK178.out 1).trans (show _ = some _ from rfl); have hf1_ := blk_frozen BK178.out 1; have hq2_ := (blk_cell BK178.out 2).trans (show _ = some _ from rfl); have hf2_ := blk_frozen BK178.out 2; have hq3_ := (blk_cell BK178.out 3).trans (show _ = some _ from rfl); have hf3_ := blk_frozen BK178.out 3; first | (go_simp; done) | (go_simp; rfl))); intro w20 hw; replace BK177 : Aside0 (w20.heap[gb177]? = some (.cells #[.int .i64 a0_0, .int .i64 a0_1, .int .i64 a0_2, .bool a0_3] 24 (0, 0))) := ⟨(by rw [hw]; exact (bG NB177_178 BK177))⟩; replace BK178 : Aside0 (w20.heap[gb178]? = some (.cells #[.int .i64 0, .int .i64 0, .int .i64 0, .bool false] 24 (0, 0))) := ⟨(by rw [hw]; exact (by refine bU ?_; refine blk_put (cs := #[.int .i64 0, .int .i64 0, .int .i64 0, .bool false]) ?_ 3 _ rfl; refine bU ?_; refine blk_put (cs := #[.int .i64 0, .int .i64 0, .int .i64 0, .bool false]) ?_ 2 _ rfl; refine bU ?_; refine blk_put (cs := #[.int .i64 0, .int .i64 0, .int .i64 0, .bool false]) ?_ 1 _ rfl; refine bU ?_; refine blk_put (cs := #[.int .i64 0, .int .i64 0, .int .i64 0, .bool false]) ?_ 0 _ rfl; refine bU ?_; exact BK178.out))⟩; replace HB : Aside0 (Below w.heap.size w w20) := ⟨(by rw [hw]; exact (lV2 GE177 GE178))⟩; clear hw))
  refine bodyPost_ret (results_ct rfl _ _ gb178 24 #[.int .i64 0, .int .i64 0, .int .i64 0, .bool false] (0, 0) _ rfl (bV BK178) Try.underlying24 rfl (by kernel_rfl)) rfl ?_
  exact ⟨eE, lV2 GE177 GE178⟩
def impl_JoinSpots.j0 : Nat → Bool → Int → Int → Int → Bool → Int → Int → Int → Bool → Option (Int × Int × Int × Bool × Bool)
 | 0, _, _, _, _, _, _, _, _, _ => none
 | k + 1, x17, x185000, x185001, x185002, x185003, x186000, x186001, x186002, x186003 => if x17 = true then (some (0, 0, 0, false, false)) else ((impl_Spot_turned.f k x185000 x185001 x185002 x185003 x186000 x186001).bind fun bt189 => (if x185003 = true then ((impl_isSpot.f (wrap64 (x185000 + bt189.1)) (wrap64 (x185001 + bt189.2)) (Int.tmod (wrap64 (x185002 + (wrap64 (4 - x186002)))) 4) (x185003 != x186003)).bind fun t192 => (if t192 = true then (some (wrap64 (x185000 + bt189.1), wrap64 (x185001 + bt189.2), Int.tmod (wrap64 (x185002 + (wrap64 (4 - x186002)))) 4, (x185003 != x186003), true)) else (some (0, 0, 0, false, false)))) else ((impl_isSpot.f (wrap64 (x185000 + bt189.1)) (wrap64 (x185001 + bt189.2)) (Int.tmod (wrap64 (x185002 + x186002)) 4) (x185003 != x186003)).bind fun t194 => (if t194 = true then (some (wrap64 (x185000 + bt189.1), wrap64 (x185001 + bt189.2), Int.tmod (wrap64 (x185002 + x186002)) 4, (x185003 != x186003), true)) else (some (0, 0, 0, false, false))))))
def impl_JoinSpots.f (k : Nat) (a0_0 : Int) (a0_1 : Int) (a0_2 : Int) (a0_3 : Bool) (a1_0 : Int) (a1_1 : Int) (a1_2 : Int) (a1_3 : Bool) : Option (Int × Int × Int × Bool × Bool) := (impl_isSpot.f a0_0 a0_1 a0_2 a0_3).bind fun t187 => (if t187 = true then ((impl_isSpot.f a1_0 a1_1 a1_2 a1_3).bind fun t188 => (impl_JoinSpots.j0 k (!t188) a0_0 a0_1 a0_2 a0_3 a1_0 a1_1 a1_2 a1_3)) else (impl_JoinSpots.j0 k true a0_0 a0_1 a0_2 a0_3 a1_0 a1_1 a1_2 a1_3))
theorem impl_JoinSpots.mono_l : ∀ k, (∀ y0 y1 y2 y3 y4 y5 y6 y7 y8, LeO (impl_JoinSpots.j0 k y0 y1 y2 y3 y4 y5 y6 y7 y8) (impl_JoinSpots.j0 (k + 1) y0 y1 y2 y3 y4 y5 y6 y7 y8))
 | 0 => fun _ _ _ _ _ _ _ _ _ r h => by simp [impl_JoinSpots.j0] at h
 | k + 1 => by
  have ih0 := impl_JoinSpots.mono_l k
  ·intro y0 y1 y2 y3 y4 y5 y6 y7 y8
   unfold impl_JoinSpots.j0
   repeat' first
   | (with_reducible exact ih0 _ _ _ _ _ _ _ _ _)
   | (with_reducible exact impl_Spot_turned.mono _ _ _ _ _ _ _)
   | (with_reducible first | exact LeO.refl _ | exact LeO.none _ | refine LeO.ite ?_ ?_ | refine LeO.bind ?_ (fun _ => ?_))
   | exact ih0 _ _ _ _ _ _ _ _ _
   | exact impl_Spot_turned.mono _ _ _ _ _ _ _ | exact LeO.none _ | refine LeO.ite ?_ ?_ | refine LeO.bind ?_ (fun _ => ?_)
theorem impl_JoinSpots.mono : ∀ a0 a1 a2 a3 a4 a5 a6 a7 k, LeO (impl_JoinSpots.f k a0 a1 a2 a3 a4 a5 a6 a7) (impl_JoinSpots.f (k + 1) a0 a1 a2 a3 a4 a5 a6 a7) := by
 intro a0 a1 a2 a3 a4 a5 a6 a7 k
 have ih0 := impl_JoinSpots.mono_l k
 unfold impl_JoinSpots.f
 repeat' first
   | (with_reducible exact ih0 _ _ _ _ _ _ _ _ _)
   | (with_reducible exact impl_Spot_turned.mono _ _ _ _ _ _ _)
   | (with_reducible first | exact LeO.refl _ | exact LeO.none _ | refine LeO.ite ?_ ?_ | refine LeO.bind ?_ (fun _ => ?_))
   | exact ih0 _ _ _ _ _ _ _ _ _
   | exact impl_Spot_turned.mono _ _ _ _ _ _ _ | exact LeO.none _ | refine LeO.ite ?_ ?_ | refine LeO.bind ?_ (fun _ => ?_)
set_option maxHeartbeats 8000000 in
set_option maxRecDepth 100000 in
theorem impl_JoinSpots.calls (k : Nat) (a0_0 : Int) (a0_1 : Int) (a0_2 : Int) (a0_3 : Bool) (a1_0 : Int) (a1_1 : Int) (a1_2 : Int) (a1_3 : Bool) (r1 : Int) (r2 : Int) (r3 : Int) (r4 : Bool) (r5 : Bool) (w : World) (h : impl_JoinSpots.f k a0_0 a0_1 a0_2 a0_3 a1_0 a1_1 a1_2 a1_3 = some (r1, r2, r3, r4, r5)) :
  Calls Try.prog 7 #[.agg #[.int .i64 a0_0, .int .i64 a0_1, .int .i64 a0_2, .bool a0_3], .agg #[.int .i64 a1_0, .int .i64 a1_1, .int .i64 a1_2, .bool a1_3]] w fun e w' => e = .returned (.tuple #[.agg #[.int .i64 r1, .int .i64 r2, .int .i64 r3, .bool r4], .bool r5]) ∧ Below w.heap.size w w' := by
 have hu24 := Try.underlying24
 have HB := Aside0.mk (Below.refl w.heap.size w)
 have H : ((impl_isSpot.f a0_0 a0_1 a0_2 a0_3).bind fun t187 => (if t187 = true then ((impl_isSpot.f a1_0 a1_1 a1_2 a1_3).bind fun t188 => (impl_JoinSpots.j0 k (!t188) a0_0 a0_1 a0_2 a0_3 a1_0 a1_1 a1_2 a1_3)) else (impl_JoinSpots.j0 k true a0_0 a0_1 a0_2 a0_3 a1_0 a1_1 a1_2 a1_3))) = some (r1, r2, r3, r4, r5) := h
 clear h
 have HC3 := Aside0.mk H
 clear H
 go_enter Try.func7, Try.ntmps7
 go_upto_region 1 with (first | ((with_reducible refine gate_dst (N := 2) rfl ?_); refine box_event rfl (N := 2) rfl (cs := #[.int .i64 a0_0, .int .i64 a0_1, .int .i64 a0_2, .bool a0_3]) (t := 24) sE ?_; intro gb184 hg w4 hbox hb; have BK184 := Aside0.mk hbox; have GW184 := gS w hg (lU); have GE184 := gS w hg (lU); replace HB := bH (lU) hb; clear hb hbox hg) | ((with_reducible refine gate_dst (N := 3) rfl ?_); refine box_event rfl (N := 3) rfl (cs := #[.int .i64 a1_0, .int .i64 a1_1, .int .i64 a1_2, .bool a1_3]) (t := 24) sE ?_; intro gb185 hg w5 hbox hb; have BK185 := Aside0.mk hbox; have GW185 := gS w hg (lV1 GE184); have GE185 := gS w hg (lV1 GE184); replace HB := bH (lV1 GE184) hb; have NB184_185 := nL hg (bV BK184); have NB185_184 := nG hg (bV BK184); replace BK184 := bB (bV BK184) hb; clear hb hbox hg) | ((with_reducible refine gate_dst (N := 4) rfl ?_); refine box_event rfl (N := 4) rfl (cs := #[.int .i64 0, .int .i64 0, .int .i64 0, .bool false]) (t := 24) sE ?_; intro gb186 hg w6 hbox hb; have BK186 := Aside0.mk hbox; have GW186 := gS w hg (lV2 GE184 GE185); have GE186 := gS w hg (lV2 GE184 GE185); replace HB := bH (lV2 GE184 GE185) hb; have NB184_186 := nL hg (bV BK184); have NB186_184 := nG hg (bV BK184); replace BK184 := bB (bV BK184) hb; have NB185_186 := nL hg (bV BK185); have NB186_185 := nG hg (bV BK185); replace BK185 := bB (bV BK185) hb; clear hb hbox hg))
 (try simp only [Act.put, List.setIfInBounds_toArray, List.set_cons_zero, List.set_cons_succ])
 go_cut [17] (fun v17 wc => ∃ (kq : Nat) (x17_2 : Bool), v17 = .bool x17_2 ∧ Aside0 (impl_JoinSpots.j0 kq x17_2 a0_0 a0_1 a0_2 a0_3 a1_0 a1_1 a1_2 a1_3 = some (r1, r2, r3, r4, r5)) ∧ Aside0 (kq ≤ k) ∧ Aside0 (wc.heap[gb184]? = some (.cells #[.int .i64 a0_0, .int .i64 a0_1, .int .i64 a0_2, .bool a0_3] 24 (0, 0))) ∧ Aside0 (wc.heap[gb185]? = some (.cells #[.int .i64 a1_0, .int .i64 a1_1, .int .i64 a1_2, .bool a1_3] 24 (0, 0))) ∧ Aside0 (wc.heap[gb186]? = some (.cells #[.int .i64 0, .int .i64 0, .int .i64 0, .bool false] 24 (0, 0))) ∧ Aside0 (Below w.heap.size w wc))
 case first =>
  have H := HC3.out
  clear HC3
  replace H := Option.bind_eq_some_iff.mp H
  obtain ⟨t187, A70, H⟩ := H
  replace H : (if t187 = true then ((impl_isSpot.f a1_0 a1_1 a1_2 a1_3).bind fun t188 => (impl_JoinSpots.j0 k (!t188) a0_0 a0_1 a0_2 a0_3 a1_0 a1_1 a1_2 a1_3)) else (impl_JoinSpots.j0 k true a0_0 a0_1 a0_2 a0_3 a1_0 a1_1 a1_2 a1_3)) = some (r1, r2, r3, r4, r5) := H
  have A7 := Aside0.mk A70
  clear A70
  by_cases c8 : t187 = true
  ·subst c8
   have H1 : ((impl_isSpot.f a1_0 a1_1 a1_2 a1_3).bind fun t188 => (impl_JoinSpots.j0 k (!t188) a0_0 a0_1 a0_2 a0_3 a1_0 a1_1 a1_2 a1_3)) = some (r1, r2, r3, r4, r5) := by rw [if_pos rfl] at H; exact H
   clear H
   have H := H1
   clear H1
   replace H := Option.bind_eq_some_iff.mp H
   obtain ⟨t188, A90, H⟩ := H
   replace H : (impl_JoinSpots.j0 k (!t188) a0_0 a0_1 a0_2 a0_3 a1_0 a1_1 a1_2 a1_3) = some (r1, r2, r3, r4, r5) := H
   have A9 := Aside0.mk A90
   clear A90
   have H' := Aside0.mk H
   clear H
   have hnb10 := NB184_185.out
   have hnc10 := NB185_184.out
   have hnb11 := NB184_186.out
   have hnc11 := NB186_184.out
   have hcz12_0 := cz BK184 0 (.int .i64 a0_0)
   have hcz12_1 := cz BK184 1 (.int .i64 a0_1)
   have hcz12_2 := cz BK184 2 (.int .i64 a0_2)
   have hcz12_3 := cz BK184 3 (.bool a0_3)
   have hfz12_0 := fz BK184 0
   have hfz12_1 := fz BK184 1
   have hfz12_2 := fz BK184 2
   have hfz12_3 := fz BK184 3
   go_wp2_with (first | ((with_reducible refine gate_callee (f := 13) rfl ?_); refine goesL_ (some 11) rfl rfl Try.func13 (by kernel_rfl) rfl #[.agg #[.int .i64 a0_0, .int .i64 a0_1, .int .i64 a0_2, .bool a0_3]] rfl aE ?_; (with_reducible refine (impl_isSpot.calls a0_0 a0_1 a0_2 a0_3 true _ A7.out).mono ?_); rintro e w13 ⟨rfl, hb⟩; refine ⟨_, rfl, ?_⟩; replace BK184 := bB (bV BK184) hb; replace BK185 := bB (bV BK185) hb; replace BK186 := bB (bV BK186) hb; replace HB := bH (lV3 GE184 GE185 GE186) hb; (try clear hb); have hnb14 := NB185_186.out; have hnc14 := NB186_185.out; have hcz15_0 := cz BK185 0 (.int .i64 a1_0); have hcz15_1 := cz BK185 1 (.int .i64 a1_1); have hcz15_2 := cz BK185 2 (.int .i64 a1_2); have hcz15_3 := cz BK185 3 (.bool a1_3); have hfz15_0 := fz BK185 0; have hfz15_1 := fz BK185 1; have hfz15_2 := fz BK185 2; have hfz15_3 := fz BK185 3) | (go_at_call 13; (with_reducible refine (impl_isSpot.calls a1_0 a1_1 a1_2 a1_3 t188 _ A9.out).mono ?_); rintro e w16 ⟨rfl, hb⟩; replace BK184 := bB (bV BK184) hb; replace BK185 := bB (bV BK185) hb; replace BK186 := bB (bV BK186) hb; replace HB := bH (lV3 GE184 GE185 GE186) hb; (try clear hb)))
   go_meet
   case rel => exact ⟨_, (!t188), tE, H', ⟨by first | omega | exact Nat.le_refl _⟩, ⟨by refine bU ?_; exact BK184.out⟩, ⟨by refine bU ?_; exact BK185.out⟩, ⟨by refine bU ?_; exact BK186.out⟩, ⟨by repeat (first | (with_reducible first | exact HB.out | apply below_alloc | apply pw_below_drewN | apply below_drew1 | refine below_set ?_ GE184.out | refine below_set ?_ GE185.out | refine below_set ?_ GE186.out) | exact HB.out)⟩⟩
  ·replace c8 := Bool.eq_false_iff.mpr c8
   subst c8
   have H1 : (impl_JoinSpots.j0 k true a0_0 a0_1 a0_2 a0_3 a1_0 a1_1 a1_2 a1_3) = some (r1, r2, r3, r4, r5) := by rw [if_neg (show ¬ (false = true) by decide)] at H; exact H
   clear H
   have H := H1
   clear H1
   have H' := Aside0.mk H
   clear H
   have hnb17 := NB184_185.out
   have hnc17 := NB185_184.out
   have hnb18 := NB184_186.out
   have hnc18 := NB186_184.out
   have hcz19_0 := cz BK184 0 (.int .i64 a0_0)
   have hcz19_1 := cz BK184 1 (.int .i64 a0_1)
   have hcz19_2 := cz BK184 2 (.int .i64 a0_2)
   have hcz19_3 := cz BK184 3 (.bool a0_3)
   have hfz19_0 := fz BK184 0
   have hfz19_1 := fz BK184 1
   have hfz19_2 := fz BK184 2
   have hfz19_3 := fz BK184 3
   go_wp2_with (first | ((with_reducible refine gate_callee (f := 13) rfl ?_); refine goesL_ (some 11) rfl rfl Try.func13 (by kernel_rfl) rfl #[.agg #[.int .i64 a0_0, .int .i64 a0_1, .int .i64 a0_2, .bool a0_3]] rfl aE ?_; (with_reducible refine (impl_isSpot.calls a0_0 a0_1 a0_2 a0_3 false _ A7.out).mono ?_); rintro e w20 ⟨rfl, hb⟩; refine ⟨_, rfl, ?_⟩; replace BK184 := bB (bV BK184) hb; replace BK185 := bB (bV BK185) hb; replace BK186 := bB (bV BK186) hb; replace HB := bH (lV3 GE184 GE185 GE186) hb; (try clear hb)))
   go_meet
   case rel => exact ⟨_, (true), tE, H', ⟨by first | omega | exact Nat.le_refl _⟩, ⟨by refine bU ?_; exact BK184.out⟩, ⟨by refine bU ?_; exact BK185.out⟩, ⟨by refine bU ?_; exact BK186.out⟩, ⟨by repeat (first | (with_reducible first | exact HB.out | apply below_alloc | apply pw_below_drewN | apply below_drew1 | refine below_set ?_ GE184.out | refine below_set ?_ GE185.out | refine below_set ?_ GE186.out) | exact HB.out)⟩⟩
 case rest =>
  clear HC3
  try clear c1
  try clear p2
  try clear c7
  try clear c8
  try clear c10
  try clear c11
  try clear c13
  try clear c14
  try clear c17
  try clear c18
  try clear hcz12_0
  try clear hcz12_1
  try clear hcz12_2
  try clear hcz12_3
  try clear hcz15_0
  try clear hcz15_1
  try clear hcz15_2
  try clear hcz15_3
  try clear hcz19_0
  try clear hcz19_1
  try clear hcz19_2
  try clear hcz19_3
  try clear hfz12_0
  try clear hfz12_1
  try clear hfz12_2
  try clear hfz12_3
  try clear hfz15_0
  try clear hfz15_1
  try clear hfz15_2
  try clear hfz15_3
  try clear hfz19_0
  try clear hfz19_1
  try clear hfz19_2
  try clear hfz19_3
  obtain ⟨kq, x17_2, rfl, HA, HJ2, BK184, BK185, BK186, HB⟩ := hcut
  cases kq with
  | zero => exact absurd HA.out (by simp [impl_JoinSpots.j0])
  | succ kj2 =>
   have H := HA.out
   clear HA
   simp only [impl_JoinSpots.j0] at H
   by_cases c21 : x17_2 = true
   ·subst c21
    have H1 : (some (0, 0, 0, false, false)) = some (r1, r2, r3, r4, r5) := by rw [if_pos rfl] at H; exact H
    clear H
    have H := H1
    clear H1
    simp only [Option.some.injEq, Prod.mk.injEq] at H
    obtain ⟨rfl, rfl, rfl, rfl, rfl⟩ := H
    have hnb22 := NB186_184.out
    have hnc22 := NB184_186.out
    have hnb23 := NB186_185.out
    have hnc23 := NB185_186.out
    have hcz24_0 := cz BK186 0 (.int .i64 0)
    have hcz24_1 := cz BK186 1 (.int .i64 0)
    have hcz24_2 := cz BK186 2 (.int .i64 0)
    have hcz24_3 := cz BK186 3 (.bool false)
    have hfz24_0 := fz BK186 0
    have hfz24_1 := fz BK186 1
    have hfz24_2 := fz BK186 2
    have hfz24_3 := fz BK186 3
    go_wp2_with (first | ((with_reducible refine gate_store (t := 24) (p := 4) rfl ?_); refine store_event (t := 24) (p := 4) (v := ?vo_w25) (w1 := ((((wc.setCell ⟨gb186, 0, none⟩ (.int .i64 0)).setCell ⟨gb186, 1, none⟩ (.int .i64 0)).setCell ⟨gb186, 2, none⟩ (.int .i64 0)).setCell ⟨gb186, 3, none⟩ (.bool false))) ?hg ?ho ?hn ?hr ?_; (case ho => rfl); (case hg => rfl); (case hn => rfl); (case hr => first | (go_simp; done) | (go_simp; rfl) | (have hq0_ := (blk_cell BK186.out 0).trans (show _ = some _ from rfl); have hf0_ := blk_frozen BK186.out 0; have hq1_ := (blk_cell BK186.out 1).trans (show _ = some _ from rfl); have hf1_ := blk_frozen BK186.out 1; have hq2_ := (blk_cell BK186.out 2).trans (show _ = some _ from rfl); have hf2_ := blk_frozen BK186.out 2; have hq3_ := (blk_cell BK186.out 3).trans (show _ = some _ from rfl); have hf3_ := blk_frozen BK186.out 3; first | (go_simp; done) | (go_simp; rfl))); intro w25 hw; replace BK184 : Aside0 (w25.heap[gb184]? = some (.cells #[.int .i64 a0_0, .int .i64 a0_1, .int .i64 a0_2, .bool a0_3] 24 (0, 0))) := ⟨(by rw [hw]; exact (bG NB184_186 BK184))⟩; replace BK185 : Aside0 (w25.heap[gb185]? = some (.cells #[.int .i64 a1_0, .int .i64 a1_1, .int .i64 a1_2, .bool a1_3] 24 (0, 0))) := ⟨(by rw [hw]; exact (bG NB185_186 BK185))⟩; replace BK186 : Aside0 (w25.heap[gb186]? = some (.cells #[.int .i64 0, .int .i64 0, .int .i64 0, .bool false] 24 (0, 0))) := ⟨(by rw [hw]; exact (by refine bU ?_; refine blk_put (cs := #[.int .i64 0, .int .i64 0, .int .i64 0, .bool false]) ?_ 3 _ rfl; refine bU ?_; refine blk_put (cs := #[.int .i64 0, .int .i64 0, .int .i64 0, .bool false]) ?_ 2 _ rfl; refine bU ?_; refine blk_put (cs := #[.int .i64 0, .int .i64 0, .int .i64 0, .bool false]) ?_ 1 _ rfl; refine bU ?_; refine blk_put (cs := #[.int .i64 0, .int .i64 0, .int .i64 0, .bool false]) ?_ 0 _ rfl; refine bU ?_; exact BK186.out))⟩; replace HB : Aside0 (Below w.heap.size w w25) := ⟨(by rw [hw]; exact (lV3 GE184 GE185 GE186))⟩; clear hw))
    refine bodyPost_ret (results_ct rfl _ _ gb186 24 #[.int .i64 0, .int .i64 0, .int .i64 0, .bool false] (0, 0) _ rfl (bV BK186) Try.underlying24 rfl (by kernel_rfl)) rfl ?_
    exact ⟨eE, lV3 GE184 GE185 GE186⟩
   ·replace c21 := Bool.eq_false_iff.mpr c21
    subst c21
    have H1 : ((impl_Spot_turned.f kj2 a0_0 a0_1 a0_2 a0_3 a1_0 a1_1).bind fun bt189 => (if a0_3 = true then ((impl_isSpot.f (wrap64 (a0_0 + bt189.1)) (wrap64 (a0_1 + bt189.2)) (Int.tmod (wrap64 (a0_2 + (wrap64 (4 - a1_2)))) 4) (a0_3 != a1_3)).bind fun t192 => (if t192 = true then (some (wrap64 (a0_0 + bt189.1), wrap64 (a0_1 + bt189.2), Int.tmod (wrap64 (a0_2 + (wrap64 (4 - a1_2)))) 4, (a0_3 != a1_3), true)) else (some (0, 0, 0, false, false)))) else ((impl_isSpot.f (wrap64 (a0_0 + bt189.1)) (wrap64 (a0_1 + bt189.2)) (Int.tmod (wrap64 (a0_2 + a1_2)) 4) (a0_3 != a1_3)).bind fun t194 => (if t194 = true then (some (wrap64 (a0_0 + bt189.1), wrap64 (a0_1 + bt189.2), Int.tmod (wrap64 (a0_2 + a1_2)) 4, (a0_3 != a1_3), true)) else (some (0, 0, 0, false, false)))))) = some (r1, r2, r3, r4, r5) := by rw [if_neg (show ¬ (false = true) by decide)] at H; exact H
    clear H
    have H := H1
    clear H1
    replace H := Option.bind_eq_some_iff.mp H
    obtain ⟨⟨t189, t190⟩, A260, H⟩ := H
    replace H : (if a0_3 = true then ((impl_isSpot.f (wrap64 (a0_0 + t189)) (wrap64 (a0_1 + t190)) (Int.tmod (wrap64 (a0_2 + (wrap64 (4 - a1_2)))) 4) (a0_3 != a1_3)).bind fun t192 => (if t192 = true then (some (wrap64 (a0_0 + t189), wrap64 (a0_1 + t190), Int.tmod (wrap64 (a0_2 + (wrap64 (4 - a1_2)))) 4, (a0_3 != a1_3), true)) else (some (0, 0, 0, false, false)))) else ((impl_isSpot.f (wrap64 (a0_0 + t189)) (wrap64 (a0_1 + t190)) (Int.tmod (wrap64 (a0_2 + a1_2)) 4) (a0_3 != a1_3)).bind fun t194 => (if t194 = true then (some (wrap64 (a0_0 + t189), wrap64 (a0_1 + t190), Int.tmod (wrap64 (a0_2 + a1_2)) 4, (a0_3 != a1_3), true)) else (some (0, 0, 0, false, false))))) = some (r1, r2, r3, r4, r5) := H
    have A26 := Aside0.mk A260
    clear A260
    by_cases c27 : a0_3 = true
    ·subst c27
     have H1 : ((impl_isSpot.f (wrap64 (a0_0 + t189)) (wrap64 (a0_1 + t190)) (Int.tmod (wrap64 (a0_2 + (wrap64 (4 - a1_2)))) 4) (!a1_3)).bind fun t192 => (if t192 = true then (some (wrap64 (a0_0 + t189), wrap64 (a0_1 + t190), Int.tmod (wrap64 (a0_2 + (wrap64 (4 - a1_2)))) 4, (!a1_3), true)) else (some (0, 0, 0, false, false)))) = some (r1, r2, r3, r4, r5) := by rw [if_pos rfl, Bool.true_bne] at H; exact H
     clear H
     have H := H1
     clear H1
     replace H := Option.bind_eq_some_iff.mp H
     obtain ⟨t192, A280, H⟩ := H
     replace H : (if t192 = true then (some (wrap64 (a0_0 + t189), wrap64 (a0_1 + t190), Int.tmod (wrap64 (a0_2 + (wrap64 (4 - a1_2)))) 4, (!a1_3), true)) else (some (0, 0, 0, false, false))) = some (r1, r2, r3, r4, r5) := H
     have A28 := Aside0.mk A280
     clear A280
     by_cases c29 : t192 = true
     ·subst c29
      have H1 : (some (wrap64 (a0_0 + t189), wrap64 (a0_1 + t190), Int.tmod (wrap64 (a0_2 + (wrap64 (4 - a1_2)))) 4, (!a1_3), true)) = some (r1, r2, r3, r4, r5) := by rw [if_pos rfl] at H; exact H
      clear H
      have H := H1
      clear H1
      simp only [Option.some.injEq, Prod.mk.injEq] at H
      obtain ⟨rfl, rfl, rfl, rfl, rfl⟩ := H
      have hnb30 := NB184_185.out
      have hnc30 := NB185_184.out
      have hnb31 := NB184_186.out
      have hnc31 := NB186_184.out
      have hcz32_0 := cz BK184 0 (.int .i64 a0_0)
      have hcz32_1 := cz BK184 1 (.int .i64 a0_1)
      have hcz32_2 := cz BK184 2 (.int .i64 a0_2)
      have hcz32_3 := cz BK184 3 (.bool true)
      have hfz32_0 := fz BK184 0
      have hfz32_1 := fz BK184 1
      have hfz32_2 := fz BK184 2
      have hfz32_3 := fz BK184 3
      have hnb33 := NB185_186.out
      have hnc33 := NB186_185.out
      have hcz34_0 := cz BK185 0 (.int .i64 a1_0)
      have hcz34_1 := cz BK185 1 (.int .i64 a1_1)
      have hcz34_2 := cz BK185 2 (.int .i64 a1_2)
      have hcz34_3 := cz BK185 3 (.bool a1_3)
      have hfz34_0 := fz BK185 0
      have hfz34_1 := fz BK185 1
      have hfz34_2 := fz BK185 2
      have hfz34_3 := fz BK185 3
      go_wp2_with (first | ((with_reducible refine gate_callee (f := 14) rfl ?_); refine goesL_ (some 25) rfl rfl Try.func14 (by kernel_rfl) rfl #[.agg #[.int .i64 a0_0, .int .i64 a0_1, .int .i64 a0_2, .bool true], .int .i64 a1_0, .int .i64 a1_1] rfl aE ?_; (with_reducible refine (impl_Spot_turned.calls kj2 a0_0 a0_1 a0_2 true a1_0 a1_1 t189 t190 _ A26.out).mono ?_); rintro e w35 ⟨rfl, hb⟩; refine ⟨_, rfl, ?_⟩; replace BK184 := bB (bV BK184) hb; replace BK185 := bB (bV BK185) hb; replace BK186 := bB (bV BK186) hb; replace HB := bH (lV3 GE184 GE185 GE186) hb; (try clear hb); have hcz36_0 := cz BK185 0 (.int .i64 a1_0); have hcz36_1 := cz BK185 1 (.int .i64 a1_1); have hcz36_2 := cz BK185 2 (.int .i64 a1_2); have hcz36_3 := cz BK185 3 (.bool a1_3); have hfz36_0 := fz BK185 0; have hfz36_1 := fz BK185 1; have hfz36_2 := fz BK185 2; have hfz36_3 := fz BK185 3; have hcz37_0 := cz BK184 0 (.int .i64 a0_0); have hcz37_1 := cz BK184 1 (.int .i64 a0_1); have hcz37_2 := cz BK184 2 (.int .i64 a0_2); have hcz37_3 := cz BK184 3 (.bool true); have hfz37_0 := fz BK184 0; have hfz37_1 := fz BK184 1; have hfz37_2 := fz BK184 2; have hfz37_3 := fz BK184 3) | ((with_reducible refine gate_dst (N := 9) rfl ?_); refine box_event rfl (N := 9) rfl (cs := #[.int .i64 0, .int .i64 0, .int .i64 0, .bool false]) (t := 24) sE ?_; intro gb191 hg w38 hbox hb; have BK191 := Aside0.mk hbox; have GW191 := gS w hg (lV3 GE184 GE185 GE186); have GE191 := gS w hg (lV3 GE184 GE185 GE186); replace HB := bH (lV3 GE184 GE185 GE186) hb; have NB184_191 := nL hg (bV BK184); have NB191_184 := nG hg (bV BK184); replace BK184 := bB (bV BK184) hb; have NB185_191 := nL hg (bV BK185); have NB191_185 := nG hg (bV BK185); replace BK185 := bB (bV BK185) hb; have NB186_191 := nL hg (bV BK186); have NB191_186 := nG hg (bV BK186); replace BK186 := bB (bV BK186) hb; clear hb hbox hg; have hnb39 := NB191_184.out; have hnc39 := NB184_191.out; have hnb40 := NB191_185.out; have hnc40 := NB185_191.out; have hnb41 := NB191_186.out; have hnc41 := NB186_191.out; have hcz42_0 := cz BK191 0 (.int .i64 0); have hcz42_1 := cz BK191 1 (.int .i64 0); have hcz42_2 := cz BK191 2 (.int .i64 0); have hcz42_3 := cz BK191 3 (.bool false); have hfz42_0 := fz BK191 0; have hfz42_1 := fz BK191 1; have hfz42_2 := fz BK191 2; have hfz42_3 := fz BK191 3) | ((with_reducible refine gate_store (t := 24) (p := 9) rfl ?_); refine store_event (t := 24) (p := 9) (v := ?vo_w43) (w1 := ((((w38.setCell ⟨gb191, 0, none⟩ (.int .i64 (wrap64 (a0_0 + t189)))).setCell ⟨gb191, 1, none⟩ (.int .i64 (wrap64 (a0_1 + t190)))).setCell ⟨gb191, 2, none⟩ (.int .i64 (Int.tmod (wrap64 (a0_2 + (wrap64 (4 - a1_2)))) 4))).setCell ⟨gb191, 3, none⟩ (.bool (!a1_3)))) ?hg ?ho ?hn ?hr ?_; (case ho => rfl); (case hg => rfl); (case hn => rfl); (case hr => first | (go_simp; done) | (go_simp; rfl) | (have hq0_ := (blk_cell BK191.out 0).trans (show _ = some _ from rfl); have hf0_ := blk_frozen BK191.out 0; have hq1_ := (blk_cell BK191.out 1).trans (show _ = some _ from rfl); have hf1_ := blk_frozen BK191.out 1; have hq2_ := (blk_cell BK191.out 2).trans (show _ = some _ from rfl); have hf2_ := blk_frozen BK191.out 2; have hq3_ := (blk_cell BK191.out 3).trans (show _ = some _ from rfl); have hf3_ := blk_frozen BK191.out 3; first | (go_simp; done) | (go_simp; rfl))); intro w43 hw; replace BK184 : Aside0 (w43.heap[gb184]? = some (.cells #[.int .i64 a0_0, .int .i64 a0_1, .int .i64 a0_2, .bool true] 24 (0, 0))) := ⟨(by rw [hw]; exact (bG NB184_191 BK184))⟩; replace BK185 : Aside0 (w43.heap[gb185]? = some (.cells #[.int .i64 a1_0, .int .i64 a1_1, .int .i64 a1_2, .bool a1_3] 24 (0, 0))) := ⟨(by rw [hw]; exact (bG NB185_191 BK185))⟩; replace BK186 : Aside0 (w43.heap[gb186]? = some (.cells #[.int .i64 0, .int .i64 0, .int .i64 0, .bool false] 24 (0, 0))) := ⟨(by rw [hw]; exact (bG NB186_191 BK186))⟩; replace BK191 : Aside0 (w43.heap[gb191]? = some (.cells #[.int .i64 (wrap64 (a0_0 + t189)), .int .i64 (wrap64 (a0_1 + t190)), .int .i64 (Int.tmod (wrap64 (a0_2 + (wrap64 (4 - a1_2)))) 4), .bool (!a1_3)] 24 (0, 0))) := ⟨(by rw [hw]; exact (by refine bU ?_; refine blk_put (cs := #[.int .i64 (wrap64 (a0_0 + t189)), .int .i64 (wrap64 (a0_1 + t190)), .int .i64 (Int.tmod (wrap64 (a0_2 + (wrap64 (4 - a1_2)))) 4), .bool false]) ?_ 3 _ rfl; refine bU ?_; refine blk_put (cs := #[.int .i64 (wrap64 (a0_0 + t189)), .int .i64 (wrap64 (a0_1 + t190)), .int .i64 0, .bool false]) ?_ 2 _ rfl; refine bU ?_; refine blk_put (cs := #[.int .i64 (wrap64 (a0_0 + t189)), .int .i64 0, .int .i64 0, .bool false]) ?_ 1 _ rfl; refine bU ?_; refine blk_put (cs := #[.int .i64 0, .int .i64 0, .int .i64 0, .bool false]) ?_ 0 _ rfl; refine bU ?_; exact BK191.out))⟩; replace HB : Aside0 (Below w.heap.size w w43) := ⟨(by rw [hw]; exact (lV4 GE184 GE185 GE186 GE191))⟩; clear hw; have hcz44_0 := cz BK191 0 (.int .i64 (wrap64 (a0_0 + t189))); have hcz44_1 := cz BK191 1 (.int .i64 (wrap64 (a0_1 + t190))); have hcz44_2 := cz BK191 2 (.int .i64 (Int.tmod (wrap64 (a0_2 + (wrap64 (4 - a1_2)))) 4)); have hcz44_3 := cz BK191 3 (.bool (!a1_3)); have hfz44_0 := fz BK191 0; have hfz44_1 := fz BK191 1; have hfz44_2 := fz BK191 2; have hfz44_3 := fz BK191 3) | ((with_reducible refine gate_callee (f := 13) rfl ?_); refine goesL_ (some 54) rfl rfl Try.func13 (by kernel_rfl) rfl #[.agg #[.int .i64 (wrap64 (a0_0 + t189)), .int .i64 (wrap64 (a0_1 + t190)), .int .i64 (Int.tmod (wrap64 (a0_2 + (wrap64 (4 - a1_2)))) 4), .bool (!a1_3)]] rfl aE ?_; (with_reducible refine (impl_isSpot.calls (wrap64 (a0_0 + t189)) (wrap64 (a0_1 + t190)) (Int.tmod (wrap64 (a0_2 + (wrap64 (4 - a1_2)))) 4) (!a1_3) true _ A28.out).mono ?_); rintro e w45 ⟨rfl, hb⟩; refine ⟨_, rfl, ?_⟩; replace BK184 := bB (bV BK184) hb; replace BK185 := bB (bV BK185) hb; replace BK186 := bB (bV BK186) hb; replace BK191 := bB (bV BK191) hb; replace HB := bH (lV4 GE184 GE185 GE186 GE191) hb; (try clear hb); have hcz46_0 := cz BK191 0 (.int .i64 (wrap64 (a0_0 + t189))); have hcz46_1 := cz BK191 1 (.int .i64 (wrap64 (a0_1 + t190))); have hcz46_2 := cz BK191 2 (.int .i64 (Int.tmod (wrap64 (a0_2 + (wrap64 (4 - a1_2)))) 4)); have hcz46_3 := cz BK191 3 (.bool (!a1_3)); have hfz46_0 := fz BK191 0; have hfz46_1 := fz BK191 1; have hfz46_2 := fz BK191 2; have hfz46_3 := fz BK191 3; have hcz47_0 := cz BK186 0 (.int .i64 0); have hcz47_1 := cz BK186 1 (.int .i64 0); have hcz47_2 := cz BK186 2 (.int .i64 0); have hcz47_3 := cz BK186 3 (.bool false); have hfz47_0 := fz BK186 0; have hfz47_1 := fz BK186 1; have hfz47_2 := fz BK186 2; have hfz47_3 := fz BK186 3) | ((with_reducible refine gate_store (t := 24) (p := 4) rfl ?_); refine store_event (t := 24) (p := 4) (v := ?vo_w48) (w1 := ((((w45.setCell ⟨gb186, 0, none⟩ (.int .i64 (wrap64 (a0_0 + t189)))).setCell ⟨gb186, 1, none⟩ (.int .i64 (wrap64 (a0_1 + t190)))).setCell ⟨gb186, 2, none⟩ (.int .i64 (Int.tmod (wrap64 (a0_2 + (wrap64 (4 - a1_2)))) 4))).setCell ⟨gb186, 3, none⟩ (.bool (!a1_3)))) ?hg ?ho ?hn ?hr ?_; (case ho => rfl); (case hg => rfl); (case hn => rfl); (case hr => first | (go_simp; done) | (go_simp; rfl) | (have hq0_ := (blk_cell BK186.out 0).trans (show _ = some _ from rfl); have hf0_ := blk_frozen BK186.out 0; have hq1_ := (blk_cell BK186.out 1).trans (show _ = some _ from rfl); have hf1_ := blk_frozen BK186.out 1; have hq2_ := (blk_cell BK186.out 2).trans (show _ = some _ from rfl); have hf2_ := blk_frozen BK186.out 2; have hq3_ := (blk_cell BK186.out 3).trans (show _ = some _ from rfl); have hf3_ := blk_frozen BK186.out 3; first | (go_simp; done) | (go_simp; rfl))); intro w48 hw; replace BK184 : Aside0 (w48.heap[gb184]? = some (.cells #[.int .i64 a0_0, .int .i64 a0_1, .int .i64 a0_2, .bool true] 24 (0, 0))) := ⟨(by rw [hw]; exact (bG NB184_186 BK184))⟩; replace BK185 : Aside0 (w48.heap[gb185]? = some (.cells #[.int .i64 a1_0, .int .i64 a1_1, .int .i64 a1_2, .bool a1_3] 24 (0, 0))) := ⟨(by rw [hw]; exact (bG NB185_186 BK185))⟩; replace BK186 : Aside0 (w48.heap[gb186]? = some (.cells #[.int .i64 (wrap64 (a0_0 + t189)), .int .i64 (wrap64 (a0_1 + t190)), .int .i64 (Int.tmod (wrap64 (a0_2 + (wrap64 (4 - a1_2)))) 4), .bool (!a1_3)] 24 (0, 0))) := ⟨(by rw [hw]; exact (by refine bU ?_; refine blk_put (cs := #[.int .i64 (wrap64 (a0_0 + t189)), .int .i64 (wrap64 (a0_1 + t190)), .int .i64 (Int.tmod (wrap64 (a0_2 + (wrap64 (4 - a1_2)))) 4), .bool false]) ?_ 3 _ rfl; refine bU ?_; refine blk_put (cs := #[.int .i64 (wrap64 (a0_0 + t189)), .int .i64 (wrap64 (a0_1 + t190)), .int .i64 0, .bool false]) ?_ 2 _ rfl; refine bU ?_; refine blk_put (cs := #[.int .i64 (wrap64 (a0_0 + t189)), .int .i64 0, .int .i64 0, .bool false]) ?_ 1 _ rfl; refine bU ?_; refine blk_put (cs := #[.int .i64 0, .int .i64 0, .int .i64 0, .bool false]) ?_ 0 _ rfl; refine bU ?_; exact BK186.out))⟩; replace BK191 : Aside0 (w48.heap[gb191]? = some (.cells #[.int .i64 (wrap64 (a0_0 + t189)), .int .i64 (wrap64 (a0_1 + t190)), .int .i64 (Int.tmod (wrap64 (a0_2 + (wrap64 (4 - a1_2)))) 4), .bool (!a1_3)] 24 (0, 0))) := ⟨(by rw [hw]; exact (bG NB191_186 BK191))⟩; replace HB : Aside0 (Below w.heap.size w w48) := ⟨(by rw [hw]; exact (lV4 GE184 GE185 GE186 GE191))⟩; clear hw))
      refine bodyPost_ret (results_ct rfl _ _ gb186 24 #[.int .i64 (wrap64 (a0_0 + t189)), .int .i64 (wrap64 (a0_1 + t190)), .int .i64 (Int.tmod (wrap64 (a0_2 + (wrap64 (4 - a1_2)))) 4), .bool (!a1_3)] (0, 0) _ rfl (bV BK186) Try.underlying24 rfl (by kernel_rfl)) rfl ?_
      exact ⟨eE, lV4 GE184 GE185 GE186 GE191⟩
     ·replace c29 := Bool.eq_false_iff.mpr c29
      subst c29
      have H1 : (some (0, 0, 0, false, false)) = some (r1, r2, r3, r4, r5) := by rw [if_neg (show ¬ (false = true) by decide)] at H; exact H
      clear H
      have H := H1
      clear H1
      simp only [Option.some.injEq, Prod.mk.injEq] at H
      obtain ⟨rfl, rfl, rfl, rfl, rfl⟩ := H
      have hnb49 := NB184_185.out
      have hnc49 := NB185_184.out
      have hnb50 := NB184_186.out
      have hnc50 := NB186_184.out
      have hcz51_0 := cz BK184 0 (.int .i64 a0_0)
      have hcz51_1 := cz BK184 1 (.int .i64 a0_1)
      have hcz51_2 := cz BK184 2 (.int .i64 a0_2)
      have hcz51_3 := cz BK184 3 (.bool true)
      have hfz51_0 := fz BK184 0
      have hfz51_1 := fz BK184 1
      have hfz51_2 := fz BK184 2
      have hfz51_3 := fz BK184 3
      have hnb52 := NB185_186.out
      have hnc52 := NB186_185.out
      have hcz53_0 := cz BK185 0 (.int .i64 a1_0)
      have hcz53_1 := cz BK185 1 (.int .i64 a1_1)
      have hcz53_2 := cz BK185 2 (.int .i64 a1_2)
      have hcz53_3 := cz BK185 3 (.bool a1_3)
      have hfz53_0 := fz BK185 0
      have hfz53_1 := fz BK185 1
      have hfz53_2 := fz BK185 2
      have hfz53_3 := fz BK185 3
      go_wp2_with (first | ((with_reducible refine gate_callee (f := 14) rfl ?_); refine goesL_ (some 25) rfl rfl Try.func14 (by kernel_rfl) rfl #[.agg #[.int .i64 a0_0, .int .i64 a0_1, .int .i64 a0_2, .bool true], .int .i64 a1_0, .int .i64 a1_1] rfl aE ?_; (with_reducible refine (impl_Spot_turned.calls kj2 a0_0 a0_1 a0_2 true a1_0 a1_1 t189 t190 _ A26.out).mono ?_); rintro e w54 ⟨rfl, hb⟩; refine ⟨_, rfl, ?_⟩; replace BK184 := bB (bV BK184) hb; replace BK185 := bB (bV BK185) hb; replace BK186 := bB (bV BK186) hb; replace HB := bH (lV3 GE184 GE185 GE186) hb; (try clear hb); have hcz55_0 := cz BK185 0 (.int .i64 a1_0); have hcz55_1 := cz BK185 1 (.int .i64 a1_1); have hcz55_2 := cz BK185 2 (.int .i64 a1_2); have hcz55_3 := cz BK185 3 (.bool a1_3); have hfz55_0 := fz BK185 0; have hfz55_1 := fz BK185 1; have hfz55_2 := fz BK185 2; have hfz55_3 := fz BK185 3; have hcz56_0 := cz BK184 0 (.int .i64 a0_0); have hcz56_1 := cz BK184 1 (.int .i64 a0_1); have hcz56_2 := cz BK184 2 (.int .i64 a0_2); have hcz56_3 := cz BK184 3 (.bool true); have hfz56_0 := fz BK184 0; have hfz56_1 := fz BK184 1; have hfz56_2 := fz BK184 2; have hfz56_3 := fz BK184 3) | ((with_reducible refine gate_dst (N := 9) rfl ?_); refine box_event rfl (N := 9) rfl (cs := #[.int .i64 0, .int .i64 0, .int .i64 0, .bool false]) (t := 24) sE ?_; intro gb191 hg w57 hbox hb; have BK191 := Aside0.mk hbox; have GW191 := gS w hg (lV3 GE184 GE185 GE186); have GE191 := gS w hg (lV3 GE184 GE185 GE186); replace HB := bH (lV3 GE184 GE185 GE186) hb; have NB184_191 := nL hg (bV BK184); have NB191_184 := nG hg (bV BK184); replace BK184 := bB (bV BK184) hb; have NB185_191 := nL hg (bV BK185); have NB191_185 := nG hg (bV BK185); replace BK185 := bB (bV BK185) hb; have NB186_191 := nL hg (bV BK186); have NB191_186 := nG hg (bV BK186); replace BK186 := bB (bV BK186) hb; clear hb hbox hg; have hnb58 := NB191_184.out; have hnc58 := NB184_191.out; have hnb59 := NB191_185.out; have hnc59 := NB185_191.out; have hnb60 := NB191_186.out; have hnc60 := NB186_191.out; have hcz61_0 := cz BK191 0 (.int .i64 0); have hcz61_1 := cz BK191 1 (.int .i64 0); have hcz61_2 := cz BK191 2 (.int .i64 0); have hcz61_3 := cz BK191 3 (.bool false); have hfz61_0 := fz BK191 0; have hfz61_1 := fz BK191 1; have hfz61_2 := fz BK191 2; have hfz61_3 := fz BK191 3) | ((with_reducible refine gate_store (t := 24) (p := 9) rfl ?_); refine store_event (t := 24) (p := 9) (v := ?vo_w62) (w1 := ((((w57.setCell ⟨gb191, 0, none⟩ (.int .i64 (wrap64 (a0_0 + t189)))).setCell ⟨gb191, 1, none⟩ (.int .i64 (wrap64 (a0_1 + t190)))).setCell ⟨gb191, 2, none⟩ (.int .i64 (Int.tmod (wrap64 (a0_2 + (wrap64 (4 - a1_2)))) 4))).setCell ⟨gb191, 3, none⟩ (.bool (!a1_3)))) ?hg ?ho ?hn ?hr ?_; (case ho => rfl); (case hg => rfl); (case hn => rfl); (case hr => first | (go_simp; done) | (go_simp; rfl) | (have hq0_ := (blk_cell BK191.out 0).trans (show _ = some _ from rfl); have hf0_ := blk_frozen BK191.out 0; have hq1_ := (blk_cell BK191.out 1).trans (show _ = some _ from rfl); have hf1_ := blk_frozen BK191.out 1; have hq2_ := (blk_cell BK191.out 2).trans (show _ = some _ from rfl); have hf2_ := blk_frozen BK191.out 2; have hq3_ := (blk_cell BK191.out 3).trans (show _ = some _ from rfl); have hf3_ := blk_frozen BK191.out 3; first | (go_simp; done) | (go_simp; rfl))); intro w62 hw; replace BK184 : Aside0 (w62.heap[gb184]? = some (.cells #[.int .i64 a0_0, .int .i64 a0_1, .int .i64 a0_2, .bool true] 24 (0, 0))) := ⟨(by rw [hw]; exact (bG NB184_191 BK184))⟩; replace BK185 : Aside0 (w62.heap[gb185]? = some (.cells #[.int .i64 a1_0, .int .i64 a1_1, .int .i64 a1_2, .bool a1_3] 24 (0, 0))) := ⟨(by rw [hw]; exact (bG NB185_191 BK185))⟩; replace BK186 : Aside0 (w62.heap[gb186]? = some (.cells #[.int .i64 0, .int .i64 0, .int .i64 0, .bool false] 24 (0, 0))) := ⟨(by rw [hw]; exact (bG NB186_191 BK186))⟩; replace BK191 : Aside0 (w62.heap[gb191]? = some (.cells #[.int .i64 (wrap64 (a0_0 + t189)), .int .i64 (wrap64 (a0_1 + t190)), .int .i64 (Int.tmod (wrap64 (a0_2 + (wrap64 (4 - a1_2)))) 4), .bool (!a1_3)] 24 (0, 0))) := ⟨(by rw [hw]; exact (by refine bU ?_; refine blk_put (cs := #[.int .i64 (wrap64 (a0_0 + t189)), .int .i64 (wrap64 (a0_1 + t190)), .int .i64 (Int.tmod (wrap64 (a0_2 + (wrap64 (4 - a1_2)))) 4), .bool false]) ?_ 3 _ rfl; refine bU ?_; refine blk_put (cs := #[.int .i64 (wrap64 (a0_0 + t189)), .int .i64 (wrap64 (a0_1 + t190)), .int .i64 0, .bool false]) ?_ 2 _ rfl; refine bU ?_; refine blk_put (cs := #[.int .i64 (wrap64 (a0_0 + t189)), .int .i64 0, .int .i64 0, .bool false]) ?_ 1 _ rfl; refine bU ?_; refine blk_put (cs := #[.int .i64 0, .int .i64 0, .int .i64 0, .bool false]) ?_ 0 _ rfl; refine bU ?_; exact BK191.out))⟩; replace HB : Aside0 (Below w.heap.size w w62) := ⟨(by rw [hw]; exact (lV4 GE184 GE185 GE186 GE191))⟩; clear hw; have hcz63_0 := cz BK191 0 (.int .i64 (wrap64 (a0_0 + t189))); have hcz63_1 := cz BK191 1 (.int .i64 (wrap64 (a0_1 + t190))); have hcz63_2 := cz BK191 2 (.int .i64 (Int.tmod (wrap64 (a0_2 + (wrap64 (4 - a1_2)))) 4)); have hcz63_3 := cz BK191 3 (.bool (!a1_3)); have hfz63_0 := fz BK191 0; have hfz63_1 := fz BK191 1; have hfz63_2 := fz BK191 2; have hfz63_3 := fz BK191 3) | ((with_reducible refine gate_callee (f := 13) rfl ?_); refine goesL_ (some 54) rfl rfl Try.func13 (by kernel_rfl) rfl #[.agg #[.int .i64 (wrap64 (a0_0 + t189)), .int .i64 (wrap64 (a0_1 + t190)), .int .i64 (Int.tmod (wrap64 (a0_2 + (wrap64 (4 - a1_2)))) 4), .bool (!a1_3)]] rfl aE ?_; (with_reducible refine (impl_isSpot.calls (wrap64 (a0_0 + t189)) (wrap64 (a0_1 + t190)) (Int.tmod (wrap64 (a0_2 + (wrap64 (4 - a1_2)))) 4) (!a1_3) false _ A28.out).mono ?_); rintro e w64 ⟨rfl, hb⟩; refine ⟨_, rfl, ?_⟩; replace BK184 := bB (bV BK184) hb; replace BK185 := bB (bV BK185) hb; replace BK186 := bB (bV BK186) hb; replace BK191 := bB (bV BK191) hb; replace HB := bH (lV4 GE184 GE185 GE186 GE191) hb; (try clear hb); have hcz65_0 := cz BK186 0 (.int .i64 0); have hcz65_1 := cz BK186 1 (.int .i64 0); have hcz65_2 := cz BK186 2 (.int .i64 0); have hcz65_3 := cz BK186 3 (.bool false); have hfz65_0 := fz BK186 0; have hfz65_1 := fz BK186 1; have hfz65_2 := fz BK186 2; have hfz65_3 := fz BK186 3) | ((with_reducible refine gate_store (t := 24) (p := 4) rfl ?_); refine store_event (t := 24) (p := 4) (v := ?vo_w66) (w1 := ((((w64.setCell ⟨gb186, 0, none⟩ (.int .i64 0)).setCell ⟨gb186, 1, none⟩ (.int .i64 0)).setCell ⟨gb186, 2, none⟩ (.int .i64 0)).setCell ⟨gb186, 3, none⟩ (.bool false))) ?hg ?ho ?hn ?hr ?_; (case ho => rfl); (case hg => rfl); (case hn => rfl); (case hr => first | (go_simp; done) | (go_simp; rfl) | (have hq0_ := (blk_cell BK186.out 0).trans (show _ = some _ from rfl); have hf0_ := blk_frozen BK186.out 0; have hq1_ := (blk_cell BK186.out 1).trans (show _ = some _ from rfl); have hf1_ := blk_frozen BK186.out 1; have hq2_ := (blk_cell BK186.out 2).trans (show _ = some _ from rfl); have hf2_ := blk_frozen BK186.out 2; have hq3_ := (blk_cell BK186.out 3).trans (show _ = some _ from rfl); have hf3_ := blk_frozen BK186.out 3; first | (go_simp; done) | (go_simp; rfl))); intro w66 hw; replace BK184 : Aside0 (w66.heap[gb184]? = some (.cells #[.int .i64 a0_0, .int .i64 a0_1, .int .i64 a0_2, .bool true] 24 (0, 0))) := ⟨(by rw [hw]; exact (bG NB184_186 BK184))⟩; replace BK185 : Aside0 (w66.heap[gb185]? = some (.cells #[.int .i64 a1_0, .int .i64 a1_1, .int .i64 a1_2, .bool a1_3] 24 (0, 0))) := ⟨(by rw [hw]; exact (bG NB185_186 BK185))⟩; replace BK186 : Aside0 (w66.heap[gb186]? = some (.cells #[.int .i64 0, .int .i64 0, .int .i64 0, .bool false] 24 (0, 0))) := ⟨(by rw [hw]; exact (by refine bU ?_; refine blk_put (cs := #[.int .i64 0, .int .i64 0, .int .i64 0, .bool false]) ?_ 3 _ rfl; refine bU ?_; refine blk_put (cs := #[.int .i64 0, .int .i64 0, .int .i64 0, .bool false]) ?_ 2 _ rfl; refine bU ?_; refine blk_put (cs := #[.int .i64 0, .int .i64 0, .int .i64 0, .bool false]) ?_ 1 _ rfl; refine bU ?_; refine blk_put (cs := #[.int .i64 0, .int .i64 0, .int .i64 0, .bool false]) ?_ 0 _ rfl; refine bU ?_; exact BK186.out))⟩; replace BK191 : Aside0 (w66.heap[gb191]? = some (.cells #[.int .i64 (wrap64 (a0_0 + t189)), .int .i64 (wrap64 (a0_1 + t190)), .int .i64 (Int.tmod (wrap64 (a0_2 + (wrap64 (4 - a1_2)))) 4), .bool (!a1_3)] 24 (0, 0))) := ⟨(by rw [hw]; exact (bG NB191_186 BK191))⟩; replace HB : Aside0 (Below w.heap.size w w66) := ⟨(by rw [hw]; exact (lV4 GE184 GE185 GE186 GE191))⟩; clear hw))
      refine bodyPost_ret (results_ct rfl _ _ gb186 24 #[.int .i64 0, .int .i64 0, .int .i64 0, .bool false] (0, 0) _ rfl (bV BK186) Try.underlying24 rfl (by kernel_rfl)) rfl ?_
      exact ⟨eE, lV4 GE184 GE185 GE186 GE191⟩
    ·replace c27 := Bool.eq_false_iff.mpr c27
     subst c27
     have H1 : ((impl_isSpot.f (wrap64 (a0_0 + t189)) (wrap64 (a0_1 + t190)) (Int.tmod (wrap64 (a0_2 + a1_2)) 4) a1_3).bind fun t194 => (if t194 = true then (some (wrap64 (a0_0 + t189), wrap64 (a0_1 + t190), Int.tmod (wrap64 (a0_2 + a1_2)) 4, a1_3, true)) else (some (0, 0, 0, false, false)))) = some (r1, r2, r3, r4, r5) := by rw [if_neg (show ¬ (false = true) by decide), Bool.false_bne] at H; exact H
     clear H
     have H := H1
     clear H1
     replace H := Option.bind_eq_some_iff.mp H
     obtain ⟨t194, A670, H⟩ := H
     replace H : (if t194 = true then (some (wrap64 (a0_0 + t189), wrap64 (a0_1 + t190), Int.tmod (wrap64 (a0_2 + a1_2)) 4, a1_3, true)) else (some (0, 0, 0, false, false))) = some (r1, r2, r3, r4, r5) := H
     have A67 := Aside0.mk A670
     clear A670
     by_cases c68 : t194 = true
     ·subst c68
      have H1 : (some (wrap64 (a0_0 + t189), wrap64 (a0_1 + t190), Int.tmod (wrap64 (a0_2 + a1_2)) 4, a1_3, true)) = some (r1, r2, r3, r4, r5) := by rw [if_pos rfl] at H; exact H
      clear H
      have H := H1
      clear H1
      simp only [Option.some.injEq, Prod.mk.injEq] at H
      obtain ⟨rfl, rfl, rfl, rfl, rfl⟩ := H
      have hnb69 := NB184_185.out
      have hnc69 := NB185_184.out
      have hnb70 := NB184_186.out
      have hnc70 := NB186_184.out
      have hcz71_0 := cz BK184 0 (.int .i64 a0_0)
      have hcz71_1 := cz BK184 1 (.int .i64 a0_1)
      have hcz71_2 := cz BK184 2 (.int .i64 a0_2)
      have hcz71_3 := cz BK184 3 (.bool false)
      have hfz71_0 := fz BK184 0
      have hfz71_1 := fz BK184 1
      have hfz71_2 := fz BK184 2
      have hfz71_3 := fz BK184 3
      have hnb72 := NB185_186.out
      have hnc72 := NB186_185.out
      have hcz73_0 := cz BK185 0 (.int .i64 a1_0)
      have hcz73_1 := cz BK185 1 (.int .i64 a1_1)
      have hcz73_2 := cz BK185 2 (.int .i64 a1_2)
      have hcz73_3 := cz BK185 3 (.bool a1_3)
      have hfz73_0 := fz BK185 0
      have hfz73_1 := fz BK185 1
      have hfz73_2 := fz BK185 2
      have hfz73_3 := fz BK185 3
      go_wp2_with (first | ((with_reducible refine gate_callee (f := 14) rfl ?_); refine goesL_ (some 25) rfl rfl Try.func14 (by kernel_rfl) rfl #[.agg #[.int .i64 a0_0, .int .i64 a0_1, .int .i64 a0_2, .bool false], .int .i64 a1_0, .int .i64 a1_1] rfl aE ?_; (with_reducible refine (impl_Spot_turned.calls kj2 a0_0 a0_1 a0_2 false a1_0 a1_1 t189 t190 _ A26.out).mono ?_); rintro e w74 ⟨rfl, hb⟩; refine ⟨_, rfl, ?_⟩; replace BK184 := bB (bV BK184) hb; replace BK185 := bB (bV BK185) hb; replace BK186 := bB (bV BK186) hb; replace HB := bH (lV3 GE184 GE185 GE186) hb; (try clear hb); have hcz75_0 := cz BK185 0 (.int .i64 a1_0); have hcz75_1 := cz BK185 1 (.int .i64 a1_1); have hcz75_2 := cz BK185 2 (.int .i64 a1_2); have hcz75_3 := cz BK185 3 (.bool a1_3); have hfz75_0 := fz BK185 0; have hfz75_1 := fz BK185 1; have hfz75_2 := fz BK185 2; have hfz75_3 := fz BK185 3; have hcz76_0 := cz BK184 0 (.int .i64 a0_0); have hcz76_1 := cz BK184 1 (.int .i64 a0_1); have hcz76_2 := cz BK184 2 (.int .i64 a0_2); have hcz76_3 := cz BK184 3 (.bool false); have hfz76_0 := fz BK184 0; have hfz76_1 := fz BK184 1; have hfz76_2 := fz BK184 2; have hfz76_3 := fz BK184 3) | ((with_reducible refine gate_dst (N := 9) rfl ?_); refine box_event rfl (N := 9) rfl (cs := #[.int .i64 0, .int .i64 0, .int .i64 0, .bool false]) (t := 24) sE ?_; intro gb193 hg w77 hbox hb; have BK193 := Aside0.mk hbox; have GW193 := gS w hg (lV3 GE184 GE185 GE186); have GE193 := gS w hg (lV3 GE184 GE185 GE186); replace HB := bH (lV3 GE184 GE185 GE186) hb; have NB184_193 := nL hg (bV BK184); have NB193_184 := nG hg (bV BK184); replace BK184 := bB (bV BK184) hb; have NB185_193 := nL hg (bV BK185); have NB193_185 := nG hg (bV BK185); replace BK185 := bB (bV BK185) hb; have NB186_193 := nL hg (bV BK186); have NB193_186 := nG hg (bV BK186); replace BK186 := bB (bV BK186) hb; clear hb hbox hg; have hnb78 := NB193_184.out; have hnc78 := NB184_193.out; have hnb79 := NB193_185.out; have hnc79 := NB185_193.out; have hnb80 := NB193_186.out; have hnc80 := NB186_193.out; have hcz81_0 := cz BK193 0 (.int .i64 0); have hcz81_1 := cz BK193 1 (.int .i64 0); have hcz81_2 := cz BK193 2 (.int .i64 0); have hcz81_3 := cz BK193 3 (.bool false); have hfz81_0 := fz BK193 0; have hfz81_1 := fz BK193 1; have hfz81_2 := fz BK193 2; have hfz81_3 := fz BK193 3) | ((with_reducible refine gate_store (t := 24) (p := 9) rfl ?_); refine store_event (t := 24) (p := 9) (v := ?vo_w82) (w1 := ((((w77.setCell ⟨gb193, 0, none⟩ (.int .i64 (wrap64 (a0_0 + t189)))).setCell ⟨gb193, 1, none⟩ (.int .i64 (wrap64 (a0_1 + t190)))).setCell ⟨gb193, 2, none⟩ (.int .i64 (Int.tmod (wrap64 (a0_2 + a1_2)) 4))).setCell ⟨gb193, 3, none⟩ (.bool a1_3))) ?hg ?ho ?hn ?hr ?_; (case ho => rfl); (case hg => rfl); (case hn => rfl); (case hr => first | (go_simp; done) | (go_simp; rfl) | (have hq0_ := (blk_cell BK193.out 0).trans (show _ = some _ from rfl); have hf0_ := blk_frozen BK193.out 0; have hq1_ := (blk_cell BK193.out 1).trans (show _ = some _ from rfl); have hf1_ := blk_frozen BK193.out 1; have hq2_ := (blk_cell BK193.out 2).trans (show _ = some _ from rfl); have hf2_ := blk_frozen BK193.out 2; have hq3_ := (blk_cell BK193.out 3).trans (show _ = some _ from rfl); have hf3_ := blk_frozen BK193.out 3; first | (go_simp; done) | (go_simp; rfl))); intro w82 hw; replace BK184 : Aside0 (w82.heap[gb184]? = some (.cells #[.int .i64 a0_0, .int .i64 a0_1, .int .i64 a0_2, .bool false] 24 (0, 0))) := ⟨(by rw [hw]; exact (bG NB184_193 BK184))⟩; replace BK185 : Aside0 (w82.heap[gb185]? = some (.cells #[.int .i64 a1_0, .int .i64 a1_1, .int .i64 a1_2, .bool a1_3] 24 (0, 0))) := ⟨(by rw [hw]; exact (bG NB185_193 BK185))⟩; replace BK186 : Aside0 (w82.heap[gb186]? = some (.cells #[.int .i64 0, .int .i64 0, .int .i64 0, .bool false] 24 (0, 0))) := ⟨(by rw [hw]; exact (bG NB186_193 BK186))⟩; replace BK193 : Aside0 (w82.heap[gb193]? = some (.cells #[.int .i64 (wrap64 (a0_0 + t189)), .int .i64 (wrap64 (a0_1 + t190)), .int .i64 (Int.tmod (wrap64 (a0_2 + a1_2)) 4), .bool a1_3] 24 (0, 0))) := ⟨(by rw [hw]; exact (by refine bU ?_; refine blk_put (cs := #[.int .i64 (wrap64 (a0_0 + t189)), .int .i64 (wrap64 (a0_1 + t190)), .int .i64 (Int.tmod (wrap64 (a0_2 + a1_2)) 4), .bool false]) ?_ 3 _ rfl; refine bU ?_; refine blk_put (cs := #[.int .i64 (wrap64 (a0_0 + t189)), .int .i64 (wrap64 (a0_1 + t190)), .int .i64 0, .bool false]) ?_ 2 _ rfl; refine bU ?_; refine blk_put (cs := #[.int .i64 (wrap64 (a0_0 + t189)), .int .i64 0, .int .i64 0, .bool false]) ?_ 1 _ rfl; refine bU ?_; refine blk_put (cs := #[.int .i64 0, .int .i64 0, .int .i64 0, .bool false]) ?_ 0 _ rfl; refine bU ?_; exact BK193.out))⟩; replace HB : Aside0 (Below w.heap.size w w82) := ⟨(by rw [hw]; exact (lV4 GE184 GE185 GE186 GE193))⟩; clear hw; have hcz83_0 := cz BK193 0 (.int .i64 (wrap64 (a0_0 + t189))); have hcz83_1 := cz BK193 1 (.int .i64 (wrap64 (a0_1 + t190))); have hcz83_2 := cz BK193 2 (.int .i64 (Int.tmod (wrap64 (a0_2 + a1_2)) 4)); have hcz83_3 := cz BK193 3 (.bool a1_3); have hfz83_0 := fz BK193 0; have hfz83_1 := fz BK193 1; have hfz83_2 := fz BK193 2; have hfz83_3 := fz BK193 3) | ((with_reducible refine gate_callee (f := 13) rfl ?_); refine goesL_ (some 54) rfl rfl Try.func13 (by kernel_rfl) rfl #[.agg #[.int .i64 (wrap64 (a0_0 + t189)), .int .i64 (wrap64 (a0_1 + t190)), .int .i64 (Int.tmod (wrap64 (a0_2 + a1_2)) 4), .bool a1_3]] rfl aE ?_; (with_reducible refine (impl_isSpot.calls (wrap64 (a0_0 + t189)) (wrap64 (a0_1 + t190)) (Int.tmod (wrap64 (a0_2 + a1_2)) 4) a1_3 true _ A67.out).mono ?_); rintro e w84 ⟨rfl, hb⟩; refine ⟨_, rfl, ?_⟩; replace BK184 := bB (bV BK184) hb; replace BK185 := bB (bV BK185) hb; replace BK186 := bB (bV BK186) hb; replace BK193 := bB (bV BK193) hb; replace HB := bH (lV4 GE184 GE185 GE186 GE193) hb; (try clear hb); have hcz85_0 := cz BK193 0 (.int .i64 (wrap64 (a0_0 + t189))); have hcz85_1 := cz BK193 1 (.int .i64 (wrap64 (a0_1 + t190))); have hcz85_2 := cz BK193 2 (.int .i64 (Int.tmod (wrap64 (a0_2 + a1_2)) 4)); have hcz85_3 := cz BK193 3 (.bool a1_3); have hfz85_0 := fz BK193 0; have hfz85_1 := fz BK193 1; have hfz85_2 := fz BK193 2; have hfz85_3 := fz BK193 3; have hcz86_0 := cz BK186 0 (.int .i64 0); have hcz86_1 := cz BK186 1 (.int .i64 0); have hcz86_2 := cz BK186 2 (.int .i64 0); have hcz86_3 := cz BK186 3 (.bool false); have hfz86_0 := fz BK186 0; have hfz86_1 := fz BK186 1; have hfz86_2 := fz BK186 2; have hfz86_3 := fz BK186 3) | ((with_reducible refine gate_store (t := 24) (p := 4) rfl ?_); refine store_event (t := 24) (p := 4) (v := ?vo_w87) (w1 := ((((w84.setCell ⟨gb186, 0, none⟩ (.int .i64 (wrap64 (a0_0 + t189)))).setCell ⟨gb186, 1, none⟩ (.int .i64 (wrap64 (a0_1 + t190)))).setCell ⟨gb186, 2, none⟩ (.int .i64 (Int.tmod (wrap64 (a0_2 + a1_2)) 4))).setCell ⟨gb186, 3, none⟩ (.bool a1_3))) ?hg ?ho ?hn ?hr ?_; (case ho => rfl); (case hg => rfl); (case hn => rfl); (case hr => first | (go_simp; done) | (go_simp; rfl) | (have hq0_ := (blk_cell BK186.out 0).trans (show _ = some _ from rfl); have hf0_ := blk_frozen BK186.out 0; have hq1_ := (blk_cell BK186.out 1).trans (show _ = some _ from rfl); have hf1_ := blk_frozen BK186.out 1; have hq2_ := (blk_cell BK186.out 2).trans (show _ = some _ from rfl); have hf2_ := blk_frozen BK186.out 2; have hq3_ := (blk_cell BK186.out 3).trans (show _ = some _ from rfl); have hf3_ := blk_frozen BK186.out 3; first | (go_simp; done) | (go_simp; rfl))); intro w87 hw; replace BK184 : Aside0 (w87.heap[gb184]? = some (.cells #[.int .i64 a0_0, .int .i64 a0_1, .int .i64 a0_2, .bool false] 24 (0, 0))) := ⟨(by rw [hw]; exact (bG NB184_186 BK184))⟩; replace BK185 : Aside0 (w87.heap[gb185]? = some (.cells #[.int .i64 a1_0, .int .i64 a1_1, .int .i64 a1_2, .bool a1_3] 24 (0, 0))) := ⟨(by rw [hw]; exact (bG NB185_186 BK185))⟩; replace BK186 : Aside0 (w87.heap[gb186]? = some (.cells #[.int .i64 (wrap64 (a0_0 + t189)), .int .i64 (wrap64 (a0_1 + t190)), .int .i64 (Int.tmod (wrap64 (a0_2 + a1_2)) 4), .bool a1_3] 24 (0, 0))) := ⟨(by rw [hw]; exact (by refine bU ?_; refine blk_put (cs := #[.int .i64 (wrap64 (a0_0 + t189)), .int .i64 (wrap64 (a0_1 + t190)), .int .i64 (Int.tmod (wrap64 (a0_2 + a1_2)) 4), .bool false]) ?_ 3 _ rfl; refine bU ?_; refine blk_put (cs := #[.int .i64 (wrap64 (a0_0 + t189)), .int .i64 (wrap64 (a0_1 + t190)), .int .i64 0, .bool false]) ?_ 2 _ rfl; refine bU ?_; refine blk_put (cs := #[.int .i64 (wrap64 (a0_0 + t189)), .int .i64 0, .int .i64 0, .bool false]) ?_ 1 _ rfl; refine bU ?_; refine blk_put (cs := #[.int .i64 0, .int .i64 0, .int .i64 0, .bool false]) ?_ 0 _ rfl; refine bU ?_; exact BK186.out))⟩; replace BK193 : Aside0 (w87.heap[gb193]? = some (.cells #[.int .i64 (wrap64 (a0_0 + t189)), .int .i64 (wrap64 (a0_1 + t190)), .int .i64 (Int.tmod (wrap64 (a0_2 + a1_2)) 4), .bool a1_3] 24 (0, 0))) := ⟨(by rw [hw]; exact (bG NB193_186 BK193))⟩; replace HB : Aside0 (Below w.heap.size w w87) := ⟨(by rw [hw]; exact (lV4 GE184 GE185 GE186 GE193))⟩; clear hw))
      refine bodyPost_ret (results_ct rfl _ _ gb186 24 #[.int .i64 (wrap64 (a0_0 + t189)), .int .i64 (wrap64 (a0_1 + t190)), .int .i64 (Int.tmod (wrap64 (a0_2 + a1_2)) 4), .bool a1_3] (0, 0) _ rfl (bV BK186) Try.underlying24 rfl (by kernel_rfl)) rfl ?_
      exact ⟨eE, lV4 GE184 GE185 GE186 GE193⟩
     ·replace c68 := Bool.eq_false_iff.mpr c68
      subst c68
      have H1 : (some (0, 0, 0, false, false)) = some (r1, r2, r3, r4, r5) := by rw [if_neg (show ¬ (false = true) by decide)] at H; exact H
      clear H
      have H := H1
      clear H1
      simp only [Option.some.injEq, Prod.mk.injEq] at H
      obtain ⟨rfl, rfl, rfl, rfl, rfl⟩ := H
      have hnb88 := NB184_185.out
      have hnc88 := NB185_184.out
      have hnb89 := NB184_186.out
      have hnc89 := NB186_184.out
      have hcz90_0 := cz BK184 0 (.int .i64 a0_0)
      have hcz90_1 := cz BK184 1 (.int .i64 a0_1)
      have hcz90_2 := cz BK184 2 (.int .i64 a0_2)
      have hcz90_3 := cz BK184 3 (.bool false)
      have hfz90_0 := fz BK184 0
      have hfz90_1 := fz BK184 1
      have hfz90_2 := fz BK184 2
      have hfz90_3 := fz BK184 3
      have hnb91 := NB185_186.out
      have hnc91 := NB186_185.out
      have hcz92_0 := cz BK185 0 (.int .i64 a1_0)
      have hcz92_1 := cz BK185 1 (.int .i64 a1_1)
      have hcz92_2 := cz BK185 2 (.int .i64 a1_2)
      have hcz92_3 := cz BK185 3 (.bool a1_3)
      have hfz92_0 := fz BK185 0
      have hfz92_1 := fz BK185 1
      have hfz92_2 := fz BK185 2
      have hfz92_3 := fz BK185 3
      go_wp2_with (first | ((with_reducible refine gate_callee (f := 14) rfl ?_); refine goesL_ (some 25) rfl rfl Try.func14 (by kernel_rfl) rfl #[.agg #[.int .i64 a0_0, .int .i64 a0_1, .int .i64 a0_2, .bool false], .int .i64 a1_0, .int .i64 a1_1] rfl aE ?_; (with_reducible refine (impl_Spot_turned.calls kj2 a0_0 a0_1 a0_2 false a1_0 a1_1 t189 t190 _ A26.out).mono ?_); rintro e w93 ⟨rfl, hb⟩; refine ⟨_, rfl, ?_⟩; replace BK184 := bB (bV BK184) hb; replace BK185 := bB (bV BK185) hb; replace BK186 := bB (bV BK186) hb; replace HB := bH (lV3 GE184 GE185 GE186) hb; (try clear hb); have hcz94_0 := cz BK185 0 (.int .i64 a1_0); have hcz94_1 := cz BK185 1 (.int .i64 a1_1); have hcz94_2 := cz BK185 2 (.int .i64 a1_2); have hcz94_3 := cz BK185 3 (.bool a1_3); have hfz94_0 := fz BK185 0; have hfz94_1 := fz BK185 1; have hfz94_2 := fz BK185 2; have hfz94_3 := fz BK185 3; have hcz95_0 := cz BK184 0 (.int .i64 a0_0); have hcz95_1 := cz BK184 1 (.int .i64 a0_1); have hcz95_2 := cz BK184 2 (.int .i64 a0_2); have hcz95_3 := cz BK184 3 (.bool false); have hfz95_0 := fz BK184 0; have hfz95_1 := fz BK184 1; have hfz95_2 := fz BK184 2; have hfz95_3 := fz BK184 3) | ((with_reducible refine gate_dst (N := 9) rfl ?_); refine box_event rfl (N := 9) rfl (cs := #[.int .i64 0, .int .i64 0, .int .i64 0, .bool false]) (t := 24) sE ?_; intro gb193 hg w96 hbox hb; have BK193 := Aside0.mk hbox; have GW193 := gS w hg (lV3 GE184 GE185 GE186); have GE193 := gS w hg (lV3 GE184 GE185 GE186); replace HB := bH (lV3 GE184 GE185 GE186) hb; have NB184_193 := nL hg (bV BK184); have NB193_184 := nG hg (bV BK184); replace BK184 := bB (bV BK184) hb; have NB185_193 := nL hg (bV BK185); have NB193_185 := nG hg (bV BK185); replace BK185 := bB (bV BK185) hb; have NB186_193 := nL hg (bV BK186); have NB193_186 := nG hg (bV BK186); replace BK186 := bB (bV BK186) hb; clear hb hbox hg; have hnb97 := NB193_184.out; have hnc97 := NB184_193.out; have hnb98 := NB193_185.out; have hnc98 := NB185_193.out; have hnb99 := NB193_186.out; have hnc99 := NB186_193.out; have hcz100_0 := cz BK193 0 (.int .i64 0); have hcz100_1 := cz BK193 1 (.int .i64 0); have hcz100_2 := cz BK193 2 (.int .i64 0); have hcz100_3 := cz BK193 3 (.bool false); have hfz100_0 := fz BK193 0; have hfz100_1 := fz BK193 1; have hfz100_2 := fz BK193 2; have hfz100_3 := fz BK193 3) | ((with_reducible refine gate_store (t := 24) (p := 9) rfl ?_); refine store_event (t := 24) (p := 9) (v := ?vo_w101) (w1 := ((((w96.setCell ⟨gb193, 0, none⟩ (.int .i64 (wrap64 (a0_0 + t189)))).setCell ⟨gb193, 1, none⟩ (.int .i64 (wrap64 (a0_1 + t190)))).setCell ⟨gb193, 2, none⟩ (.int .i64 (Int.tmod (wrap64 (a0_2 + a1_2)) 4))).setCell ⟨gb193, 3, none⟩ (.bool a1_3))) ?hg ?ho ?hn ?hr ?_; (case ho => rfl); (case hg => rfl); (case hn => rfl); (case hr => first | (go_simp; done) | (go_simp; rfl) | (have hq0_ := (blk_cell BK193.out 0).trans (show _ = some _ from rfl); have hf0_ := blk_frozen BK193.out 0; have hq1_ := (blk_cell BK193.out 1).trans (show _ = some _ from rfl); have hf1_ := blk_frozen BK193.out 1; have hq2_ := (blk_cell BK193.out 2).trans (show _ = some _ from rfl); have hf2_ := blk_frozen BK193.out 2; have hq3_ := (blk_cell BK193.out 3).trans (show _ = some _ from rfl); have hf3_ := blk_frozen BK193.out 3; first | (go_simp; done) | (go_simp; rfl))); intro w101 hw; replace BK184 : Aside0 (w101.heap[gb184]? = some (.cells #[.int .i64 a0_0, .int .i64 a0_1, .int .i64 a0_2, .bool false] 24 (0, 0))) := ⟨(by rw [hw]; exact (bG NB184_193 BK184))⟩; replace BK185 : Aside0 (w101.heap[gb185]? = some (.cells #[.int .i64 a1_0, .int .i64 a1_1, .int .i64 a1_2, .bool a1_3] 24 (0, 0))) := ⟨(by rw [hw]; exact (bG NB185_193 BK185))⟩; replace BK186 : Aside0 (w101.heap[gb186]? = some (.cells #[.int .i64 0, .int .i64 0, .int .i64 0, .bool false] 24 (0, 0))) := ⟨(by rw [hw]; exact (bG NB186_193 BK186))⟩; replace BK193 : Aside0 (w101.heap[gb193]? = some (.cells #[.int .i64 (wrap64 (a0_0 + t189)), .int .i64 (wrap64 (a0_1 + t190)), .int .i64 (Int.tmod (wrap64 (a0_2 + a1_2)) 4), .bool a1_3] 24 (0, 0))) := ⟨(by rw [hw]; exact (by refine bU ?_; refine blk_put (cs := #[.int .i64 (wrap64 (a0_0 + t189)), .int .i64 (wrap64 (a0_1 + t190)), .int .i64 (Int.tmod (wrap64 (a0_2 + a1_2)) 4), .bool false]) ?_ 3 _ rfl; refine bU ?_; refine blk_put (cs := #[.int .i64 (wrap64 (a0_0 + t189)), .int .i64 (wrap64 (a0_1 + t190)), .int .i64 0, .bool false]) ?_ 2 _ rfl; refine bU ?_; refine blk_put (cs := #[.int .i64 (wrap64 (a0_0 + t189)), .int .i64 0, .int .i64 0, .bool false]) ?_ 1 _ rfl; refine bU ?_; refine blk_put (cs := #[.int .i64 0, .int .i64 0, .int .i64 0, .bool false]) ?_ 0 _ rfl; refine bU ?_; exact BK193.out))⟩; replace HB : Aside0 (Below w.heap.size w w101) := ⟨(by rw [hw]; exact (lV4 GE184 GE185 GE186 GE193))⟩; clear hw; have hcz102_0 := cz BK193 0 (.int .i64 (wrap64 (a0_0 + t189))); have hcz102_1 := cz BK193 1 (.int .i64 (wrap64 (a0_1 + t190))); have hcz102_2 := cz BK193 2 (.int .i64 (Int.tmod (wrap64 (a0_2 + a1_2)) 4)); have hcz102_3 := cz BK193 3 (.bool a1_3); have hfz102_0 := fz BK193 0; have hfz102_1 := fz BK193 1; have hfz102_2 := fz BK193 2; have hfz102_3 := fz BK193 3) | ((with_reducible refine gate_callee (f := 13) rfl ?_); refine goesL_ (some 54) rfl rfl Try.func13 (by kernel_rfl) rfl #[.agg #[.int .i64 (wrap64 (a0_0 + t189)), .int .i64 (wrap64 (a0_1 + t190)), .int .i64 (Int.tmod (wrap64 (a0_2 + a1_2)) 4), .bool a1_3]] rfl aE ?_; (with_reducible refine (impl_isSpot.calls (wrap64 (a0_0 + t189)) (wrap64 (a0_1 + t190)) (Int.tmod (wrap64 (a0_2 + a1_2)) 4) a1_3 false _ A67.out).mono ?_); rintro e w103 ⟨rfl, hb⟩; refine ⟨_, rfl, ?_⟩; replace BK184 := bB (bV BK184) hb; replace BK185 := bB (bV BK185) hb; replace BK186 := bB (bV BK186) hb; replace BK193 := bB (bV BK193) hb; replace HB := bH (lV4 GE184 GE185 GE186 GE193) hb; (try clear hb); have hcz104_0 := cz BK186 0 (.int .i64 0); have hcz104_1 := cz BK186 1 (.int .i64 0); have hcz104_2 := cz BK186 2 (.int .i64 0); have hcz104_3 := cz BK186 3 (.bool false); have hfz104_0 := fz BK186 0; have hfz104_1 := fz BK186 1; have hfz104_2 := fz BK186 2; have hfz104_3 := fz BK186 3) | ((with_reducible refine gate_store (t := 24) (p := 4) rfl ?_); refine store_event (t := 24) (p := 4) (v := ?vo_w105) (w1 := ((((w103.setCell ⟨gb186, 0, none⟩ (.int .i64 0)).setCell ⟨gb186, 1, none⟩ (.int .i64 0)).setCell ⟨gb186, 2, none⟩ (.int .i64 0)).setCell ⟨gb186, 3, none⟩ (.bool false))) ?hg ?ho ?hn ?hr ?_; (case ho => rfl); (case hg => rfl); (case hn => rfl); (case hr => first | (go_simp; done) | (go_simp; rfl) | (have hq0_ := (blk_cell BK186.out 0).trans (show _ = some _ from rfl); have hf0_ := blk_frozen BK186.out 0; have hq1_ := (blk_cell BK186.out 1).trans (show _ = some _ from rfl); have hf1_ := blk_frozen BK186.out 1; have hq2_ := (blk_cell BK186.out 2).trans (show _ = some _ from rfl); have hf2_ := blk_frozen BK186.out 2; have hq3_ := (blk_cell BK186.out 3).trans (show _ = some _ from rfl); have hf3_ := blk_frozen BK186.out 3; first | (go_simp; done) | (go_simp; rfl))); intro w105 hw; replace BK184 : Aside0 (w105.heap[gb184]? = some (.cells #[.int .i64 a0_0, .int .i64 a0_1, .int .i64 a0_2, .bool false] 24 (0, 0))) := ⟨(by rw [hw]; exact (bG NB184_186 BK184))⟩; replace BK185 : Aside0 (w105.heap[gb185]? = some (.cells #[.int .i64 a1_0, .int .i64 a1_1, .int .i64 a1_2, .bool a1_3] 24 (0, 0))) := ⟨(by rw [hw]; exact (bG NB185_186 BK185))⟩; replace BK186 : Aside0 (w105.heap[gb186]? = some (.cells #[.int .i64 0, .int .i64 0, .int .i64 0, .bool false] 24 (0, 0))) := ⟨(by rw [hw]; exact (by refine bU ?_; refine blk_put (cs := #[.int .i64 0, .int .i64 0, .int .i64 0, .bool false]) ?_ 3 _ rfl; refine bU ?_; refine blk_put (cs := #[.int .i64 0, .int .i64 0, .int .i64 0, .bool false]) ?_ 2 _ rfl; refine bU ?_; refine blk_put (cs := #[.int .i64 0, .int .i64 0, .int .i64 0, .bool false]) ?_ 1 _ rfl; refine bU ?_; refine blk_put (cs := #[.int .i64 0, .int .i64 0, .int .i64 0, .bool false]) ?_ 0 _ rfl; refine bU ?_; exact BK186.out))⟩; replace BK193 : Aside0 (w105.heap[gb193]? = some (.cells #[.int .i64 (wrap64 (a0_0 + t189)), .int .i64 (wrap64 (a0_1 + t190)), .int .i64 (Int.tmod (wrap64 (a0_2 + a1_2)) 4), .bool a1_3] 24 (0, 0))) := ⟨(by rw [hw]; exact (bG NB193_186 BK193))⟩; replace HB : Aside0 (Below w.heap.size w w105) := ⟨(by rw [hw]; exact (lV4 GE184 GE185 GE186 GE193))⟩; clear hw))
      refine bodyPost_ret (results_ct rfl _ _ gb186 24 #[.int .i64 0, .int .i64 0, .int .i64 0, .bool false] (0, 0) _ rfl (bV BK186) Try.underlying24 rfl (by kernel_rfl)) rfl ?_
      exact ⟨eE, lV4 GE184 GE185 GE186 GE193⟩
def spec_l1Cur_of.f (s0_0 : List Int) (s0_1 : Int) (s0_2 : Int) (l1 : List ByteArray) : Option (ByteArray × Int × Int) := (spec_l1Cur_pick.f s0_0 s0_1 s0_2 (l1.length : Int)).bind fun bt195 => (if 0 ≤ bt195.1 then (if bt195.1 < (l1.length : Int) then (some (rdOf ByteArray.empty l1 bt195.1, bt195.2.1, bt195.2.2)) else (none)) else (none))
set_option maxHeartbeats 8000000 in
set_option maxRecDepth 100000 in
theorem spec_l1Cur_of.calls (g : Nat) (s0_0 : List Int) (s0_1 : Int) (s0_2 : Int) (A1 : Option Addr) (c1 : Nat) (l1 : List ByteArray) (r1 : ByteArray) (r2 : Int) (r3 : Int) (w0 w : World) (hI : IsS41 w0 w g s0_0 s0_1 s0_2) (hB : Below w0.heap.size w0 w) (hr1 : Kd.C Kd.string w A1 l1.length l1) (hc1 : l1.length ≤ c1) (hf1 : ∀ ad, A1 = some ad → 0 < l1.length → ad.block ≠ g) (h : spec_l1Cur_of.f s0_0 s0_1 s0_2 l1 = some (r1, r2, r3)) :
  Calls Try.prog 41 #[.pointer (some ⟨g, 0, none⟩), .slice A1 l1.length c1] w fun e w' => e = .returned (.string r1) ∧ IsS41 w0 w' g s0_0 r2 r3 ∧ Below w0.heap.size w0 w' ∧ KeepBut w w' g none := by
 have HR1 := Aside0.mk hr1
 have HC1 := Aside0.mk hc1
 clear hr1 hc1
 have HI0 := Aside0.mk hI
 have HK := Aside0.mk (KeepBut.refl w g none)
 have HL := Aside0.mk hB.size
 clear hI
 have HW0 := Aside0.mk hB.size
 have HB := Aside0.mk hB
 clear hB
 have H : ((spec_l1Cur_pick.f s0_0 s0_1 s0_2 (l1.length : Int)).bind fun bt195 => (if 0 ≤ bt195.1 then (if bt195.1 < (l1.length : Int) then (some (rdOf ByteArray.empty l1 bt195.1, bt195.2.1, bt195.2.2)) else (none)) else (none))) = some (r1, r2, r3) := h
 clear h
 replace H := Option.bind_eq_some_iff.mp H
 obtain ⟨⟨t195, t196, t197⟩, A30, H⟩ := H
 replace H : (if 0 ≤ t195 then (if t195 < (l1.length : Int) then (some (rdOf ByteArray.empty l1 t195, t196, t197)) else (none)) else (none)) = some (r1, r2, r3) := H
 have A3 := Aside0.mk A30
 clear A30
 by_cases c4 : 0 ≤ t195
 ·rw [if_pos c4] at H
  have c4b0 : decide (0 ≤ t195) = true := decide_eq_true c4
  clear c4
  by_cases c5 : t195 < (l1.length : Int)
  ·rw [if_pos c5] at H
   have c5b0 : decide (t195 < (l1.length : Int)) = true := decide_eq_true c5
   clear c5
   simp only [Option.some.injEq, Prod.mk.injEq] at H
   obtain ⟨rfl, rfl, rfl⟩ := H
   go_enter Try.func41, Try.ntmps41
   go_wp2_with (first | ((with_reducible refine gate_callee (f := 18) rfl ?_); refine goesL_ (some 9) rfl rfl Try.func18 (by kernel_rfl) rfl #[.pointer (some ⟨g, 0, none⟩), .int .i64 (l1.length : Int)] rfl aE ?_; (with_reducible refine (spec_l1Cur_pick.calls g s0_0 s0_1 s0_2 (l1.length : Int) t195 t196 t197 w0 _ ?side1 ?side2 A3.out).mono ?_); (case side1 => repeat (first | (with_reducible first | exact HI0.out | apply IsS41.alloc | apply IsS41.drewN | apply IsS41.drew | apply IsS41.set_1 | apply IsS41.set_2) | exact HI0.out)); (case side2 => repeat (first | (with_reducible first | exact HB.out | apply below_alloc | apply pw_below_drewN | apply below_drew1 | refine below_set ?_ (IsS41.ge HI0.out)) | exact HB.out)); rintro e w6 ⟨rfl, hi, hb, hk⟩; refine ⟨_, rfl, ?_⟩; replace HK := Aside0.mk (KeepBut.trans (by repeat (first | (with_reducible first | exact HK.out | apply KeepBut.set_ | apply keep_drewN | apply keep_drew | apply keep_alloc) | exact HK.out)) hk (.inl rfl)); replace HB := Aside0.mk hb; replace HI0 := Aside0.mk hi; (try clear hb); (try clear hk); (try clear hi); have p198 : 0 ≤ (t195 : Int) := of_decide_eq_true hE; have q198 : t195 < (l1.length : Int) := of_decide_eq_true hE; obtain ⟨ad198, e198, hx198_0⟩ := Kd.at_string HR1.out t195 p198 q198; cases e198; replace hx198_0 := keep_cell HK.out hx198_0 (by first | (rw [add_block]; exact hf1 _ rfl (by omega)) | exact hf1 _ rfl (by omega) | exact hf1 ad198 rfl (by omega)); replace p198 := eq_true p198; replace q198 := eq_true q198))
   go_ret
   exact ⟨eE, by repeat (first | (with_reducible first | exact HI0.out | apply IsS41.alloc | apply IsS41.drewN | apply IsS41.drew | apply IsS41.set_1 | apply IsS41.set_2) | exact HI0.out), by repeat (first | (with_reducible first | exact HB.out | apply below_alloc | apply pw_below_drewN | apply below_drew1 | refine below_set ?_ (IsS41.ge HI0.out)) | exact HB.out), by repeat (first | (with_reducible first | exact HK.out | apply KeepBut.set_ | apply keep_drewN | apply keep_drew | apply keep_alloc) | exact HK.out)⟩
  ·rw [if_neg c5] at H
   exact absurd H (by simp)
 ·rw [if_neg c4] at H
  exact absurd H (by simp)
end Go.Proofs.Ytmmgmbmjlbdpnaa.PFnPlaced
namespace Go.Proofs.Ytmmgmbmjlbdpnaa.PFnPlaced
open Go.RowKit Go.Proofs.YtmmgmbmjlbdpnaaW.PrintWords Go.Proofs.YtmmgmbmjlbdpnaaW.PrintLast Go.Proofs.YtmmgmbmjlbdpnaaW.PrintMore
attribute [local go_sem] max2_int min2_int max_two min_two max_three min_three max_four min_four   -- for this text's walks alone
set_option linter.unusedVariables false
set_option linter.unusedSimpArgs false
def spec_l1Num.f : Nat → Int → Option (ByteArray)
 | 0, _ => none
 | k + 1, a0 => if a0 < 0 then (if a0 = (-9223372036854775808) then (some (⟨#[45, 57, 50, 50, 51, 51, 55, 50, 48, 51, 54, 56, 53, 52, 55, 55, 53, 56, 48, 56]⟩ : ByteArray)) else ((spec_l1Num.f k (wrap64 (-a0))).bind fun t199 => (if 1 + t199.size ≤ 9223372036854775807 then (some ((⟨#[45]⟩ : ByteArray) ++ t199)) else (none)))) else (if a0 < 10 then (some (strOfNums (([(wrap64 (48 + a0)) % 256] : List Int)))) else ((spec_l1Num.f k (wrap64 (Int.tdiv a0 10))).bind fun t203 => ((some (([(wrap64 (48 + (Int.tmod a0 10))) % 256] : List Int) : List Int)).bind fun y204 => (if t203.size + (strOfNums y204).size ≤ 9223372036854775807 then (some (t203 ++ (strOfNums y204))) else (none)))))
theorem spec_l1Num.mono_l : ∀ k, (∀ y0, LeO (spec_l1Num.f k y0) (spec_l1Num.f (k + 1) y0))
 | 0 => fun _ r h => by simp [spec_l1Num.f] at h
 | k + 1 => by
  have ih0 := spec_l1Num.mono_l k
  ·intro y0
   unfold spec_l1Num.f
   repeat' first
   | (with_reducible exact ih0 _)
   | (with_reducible first | exact LeO.refl _ | exact LeO.none _ | refine LeO.ite ?_ ?_ | refine LeO.bind ?_ (fun _ => ?_))
   | exact ih0 _ | exact LeO.none _ | refine LeO.ite ?_ ?_ | refine LeO.bind ?_ (fun _ => ?_)
theorem spec_l1Num.mono : ∀ a0 k, LeO (spec_l1Num.f k a0) (spec_l1Num.f (k + 1) a0) := by
 intro a0 k
 have ih0 := spec_l1Num.mono_l k
 exact ih0 a0
def spec_l1Num.T7 : Bool × List (List Nat × List Nat) := (true, [([], []), ([0], [0]), ([1], [1]), ([], []), ([3], [3]), ([4], [4]), ([5], [5]), ([6], [6]), ([7], [7]), ([2, 8], [2, 8]), ([9, 2, 0, 1, 2, 3, 4, 5, 6, 7, 8, 9], [9])])
def spec_l1Num.B7 : List Nat := [0, 1, 3, 0, 8, 24, 56, 120, 248, 511, 1023]
theorem spec_l1Num.tab7 : rtab .any (opsOf Try.f42 7) = spec_l1Num.T7 := by kernel_rfl
theorem spec_l1Num.bits7 : waitsOk spec_l1Num.T7.2 spec_l1Num.B7 = true := by kernel_rfl
set_option maxHeartbeats 8000000 in
set_option maxRecDepth 100000 in
theorem spec_l1Num.calls (k : Nat) : ∀ (a0 : Int) (r : ByteArray) (w : World) (h : spec_l1Num.f k a0 = some r),
  Calls Try.prog 42 #[.int .i64 a0] w fun e w' => e = .returned (.string r) ∧ Below w.heap.size w w' := by
 induction k using Nat.strongRecOn with
 | _ k ih =>
 intro a0 r w h
 cases k with
 | zero => exact absurd h (by simp [spec_l1Num.f])
 | succ k =>
 simp only [spec_l1Num.f] at h
 have HB := Aside0.mk (Below.refl w.heap.size w)
 have H : (if a0 < 0 then (if a0 = (-9223372036854775808) then (some (⟨#[45, 57, 50, 50, 51, 51, 55, 50, 48, 51, 54, 56, 53, 52, 55, 55, 53, 56, 48, 56]⟩ : ByteArray)) else ((spec_l1Num.f k (wrap64 (-a0))).bind fun t199 => (if 1 + t199.size ≤ 9223372036854775807 then (some ((⟨#[45]⟩ : ByteArray) ++ t199)) else (none)))) else (if a0 < 10 then (some (strOfNums (([(wrap64 (48 + a0)) % 256] : List Int)))) else ((spec_l1Num.f k (wrap64 (Int.tdiv a0 10))).bind fun t203 => ((some (([(wrap64 (48 + (Int.tmod a0 10))) % 256] : List Int) : List Int)).bind fun y204 => (if t203.size + (strOfNums y204).size ≤ 9223372036854775807 then (some (t203 ++ (strOfNums y204))) else (none)))))) = some r := h
 clear h
 by_cases c2 : a0 < 0
 ·rw [if_pos c2] at H
  have c2b0 : decide (a0 < 0) = true := decide_eq_true c2
  clear c2
  by_cases c3 : a0 = (-9223372036854775808)
  ·rw [if_pos c3] at H
   have c3b0 : (a0 == (-9223372036854775808)) = true := beq_iff_eq.mpr c3
   have c3b1 : (a0 != (-9223372036854775808)) = false := bne_eq_false_iff_eq.mpr c3
   clear c3
   obtain rfl := Option.some.inj H
   go_enter Try.func42, Try.ntmps42
   go_wp2
   go_ret
   exact ⟨eE, lU⟩
  ·rw [if_neg c3] at H
   have c3b0 : (a0 == (-9223372036854775808)) = false := beq_eq_false_iff_ne.mpr c3
   have c3b1 : (a0 != (-9223372036854775808)) = true := bne_iff_ne.mpr c3
   replace H := Option.bind_eq_some_iff.mp H
   obtain ⟨t199, A40, H⟩ := H
   replace H : (if 1 + t199.size ≤ 9223372036854775807 then (some ((⟨#[45]⟩ : ByteArray) ++ t199)) else (none)) = some r := H
   have A4 := Aside0.mk A40
   clear A40
   by_cases c5 : 1 + t199.size ≤ 9223372036854775807
   ·rw [if_pos c5] at H
    have c5b0 := eq_true c5
    have c5b1 : decide (1 + t199.size ≤ 9223372036854775807) = true := decide_eq_true c5
    try have c5b2 : (9223372036854775807 < 1 + t199.size) = False := eq_false (Nat.not_lt.2 c5)
    obtain rfl := Option.some.inj H
    go_enter Try.func42, Try.ntmps42
    go_wp2_with (first | ((with_reducible refine gate_callee (f := 42) rfl ?_); refine goesL_ (some 9) rfl rfl Try.func42 (by kernel_rfl) rfl #[.int .i64 (wrap64 (-a0))] rfl aE ?_; (with_reducible refine (ih k (by omega) (wrap64 (-a0)) t199 _ A4.out).mono ?_); rintro e w6 ⟨rfl, hb⟩; refine ⟨_, rfl, ?_⟩; replace HB := bH (lU) hb; (try clear hb)))
    go_ret
    exact ⟨eE, lU⟩
   ·rw [if_neg c5] at H
    exact absurd H (by simp)
 ·rw [if_neg c2] at H
  have c2b0 : decide (a0 < 0) = false := decide_eq_false c2
  clear c2
  by_cases c7 : a0 < 10
  ·rw [if_pos c7] at H
   have c7b0 : decide (a0 < 10) = true := decide_eq_true c7
   clear c7
   obtain ⟨y200, hy200⟩ : ∃ y_ : List Int, y_ = (([(wrap64 (48 + a0)) % 256] : List Int)) := ⟨_, rfl⟩
   replace H : (some (strOfNums y200)) = some r := by first | (rw [hy200]; with_reducible exact H) | (have H2_ := (Option.bind_some _ _).symm.trans H; rw [hy200]; with_reducible exact H2_) | (have H2_ := (Option.bind_some _ _).symm.trans H; with_reducible exact H2_) | with_reducible exact H | (rw [hy200]; exact H) | exact H
   have Ny200 := Aside0.mk hy200
   clear hy200
   obtain rfl := Option.some.inj H
   go_enter Try.func42, Try.ntmps42
   go_wp2_with (first | ((with_reducible refine gate_dst (N := 16) rfl ?_); refine Kd.R_lit (Kd.int .u8) _ 5 ?hg (N := 16) ?hd (xs := ([(wrap64 (48 + a0)) % 256] : List Int)) (inner := [.int .u8 ((wrap64 (48 + a0)) % 256)]) (ok := fun _ => True) (okp := fun _ => True) ?hr ?hp (fun _ hk => hk) trivial (Below.refl _ _) (Nat.le_refl _) (by simp) ?_; (case hd => rfl); (case hg => rfl); (case hr => exact sE); (case hp => exact (Reps.one (show Kd.M (Kd.int .u8) _ _ _ ((wrap64 (48 + a0)) % 256) [.int .u8 ((wrap64 (48 + a0)) % 256)] from rfl) (Reps.none _ _))); intro v201 w8 ho9 hb hg_ hnew_; clear hg_ hnew_; (first | rw [← Ny200.out] at ho9 | (simp only [Int.reduceToNat] at ho9; rw [← Ny200.out] at ho9)); have HO202 := Aside0.mk (Kd.R_lower ho9 (below_size (lU))); replace HB := bH (lU) hb; clear hb ho9; have hcv10 := own_string (P := Try.prog) Try.underlying22 Try.underlying5 Try.underlying9 (Kd.own_of_R HO202.out)))
   go_ret
   exact ⟨eE, lU⟩
  ·rw [if_neg c7] at H
   have c7b0 : decide (a0 < 10) = false := decide_eq_false c7
   clear c7
   replace H := Option.bind_eq_some_iff.mp H
   obtain ⟨t203, A110, H⟩ := H
   replace H : ((some (([(wrap64 (48 + (Int.tmod a0 10))) % 256] : List Int) : List Int)).bind fun y204 => (if t203.size + (strOfNums y204).size ≤ 9223372036854775807 then (some (t203 ++ (strOfNums y204))) else (none))) = some r := H
   have A11 := Aside0.mk A110
   clear A110
   obtain ⟨y204, hy204⟩ : ∃ y_ : List Int, y_ = (([(wrap64 (48 + (Int.tmod a0 10))) % 256] : List Int)) := ⟨_, rfl⟩
   replace H : (if t203.size + (strOfNums y204).size ≤ 9223372036854775807 then (some (t203 ++ (strOfNums y204))) else (none)) = some r := by first | (rw [hy204]; with_reducible exact H) | (have H2_ := (Option.bind_some _ _).symm.trans H; rw [hy204]; with_reducible exact H2_) | (have H2_ := (Option.bind_some _ _).symm.trans H; with_reducible exact H2_) | with_reducible exact H | (rw [hy204]; exact H) | exact H
   have Ny204 := Aside0.mk hy204
   clear hy204
   by_cases c12 : t203.size + (strOfNums y204).size ≤ 9223372036854775807
   ·rw [if_pos c12] at H
    have c12b0 := eq_true c12
    have c12b1 : decide (t203.size + (strOfNums y204).size ≤ 9223372036854775807) = true := decide_eq_true c12
    try have c12b2 : (9223372036854775807 < t203.size + (strOfNums y204).size) = False := eq_false (Nat.not_lt.2 c12)
    obtain rfl := Option.some.inj H
    go_enter Try.func42, Try.ntmps42
    try go_wp2
    replace HB := Aside0.mk (below_drew1 HB.out)
    refine start_ (n := 11) (S := fun w' => True) (ds := []) #[false, false, false, false, false, false, false, false, false, false, false] (by kernel_rfl) rfl rfl trivial (fun hHeld => ?_); refine with_tabW spec_l1Num.tab7 spec_l1Num.bits7 (fun HT_ HW_ => ?_)
    generalize w.drew = w13 at HB hHeld ⊢
    refine pureA 0 18 (bz 11 1) rfl rfl (any_of HT_.out (by kernel_rfl)) ?_
    refine pureA 1 19 (bz 11 3) rfl rfl (any_of HT_.out (by kernel_rfl)) ?_
    refine pureA 3 21 (bz 11 11) rfl rfl (any_of HT_.out (by kernel_rfl)) ?_
    refine pureA 4 22 (bz 11 27) rfl rfl (any_of HT_.out (by kernel_rfl)) ?_
    refine pureA 5 23 (bz 11 59) rfl rfl (any_of HT_.out (by kernel_rfl)) ?_
    refine pureA 6 24 (bz 11 123) rfl rfl (any_of HT_.out (by kernel_rfl)) ?_
    refine join_ (σ := Value) 2 #[true, true, true, true, true, true, true, true, true, false, false] (fun s_ => [(20, .string t203), (25, s_), (26, .string (strOfNums y204))]) (fun s_ w' => (Kd.R (Kd.int .u8) 5 w' w.heap.size (fun _ => True) s_ y204) ∧ (Below w.heap.size w w')) ?_ ?_
    rotate_left
    ·intro hCont
     refine two_ (i := 2) (j := 7) (Ni := some 20) (Nj := some 25) #[true, true, true, true, true, true, true, false, false, false, false] #[true, true, false, true, true, true, true, true, false, false, false] rfl rfl rfl rfl (two_of HT_.out (by kernel_rfl)) (by decide) (by decide) (fun K hK => ?_) (fun K hK => ?_)
     ·skip
      refine goes_ Try.func42 (by kernel_rfl) rfl #[.int .i64 (wrap64 (Int.tdiv a0 10))] (by rfl) rfl rfl aE ?_
      with_reducible refine (ih k (by omega) (wrap64 (Int.tdiv a0 10)) t203 _ A11.out).mono ?_
      rintro e w14 ⟨rfl, hb⟩
      refine ⟨_, rfl, ?_⟩
      replace HB := bH (lU) hb
      (try clear hb)
      (try clear hb2)
      (try clear hk)
      (try clear hi)
      refine hK.out _ _ trivial (fun hHeld => ?_)
      clear hK K
      refine norm_ (a' := ?_) ?_ ?_
      rotate_left
      ·show Act.put _ (some 20) _ = _
       simp only [Act.put, List.setIfInBounds_toArray, List.set_cons_zero, List.set_cons_succ, i64_w, i32_w]
       rfl
      refine one_ (i := 7) (N := some 25) (bz 11 255) rfl rfl (one_of HT_.out (by kernel_rfl)) (by decide) (fun K hK => ?_)
      refine Kd.R_lit_step (Kd.int .u8) _ 5 ?hg (N := 25) ?hd (xs := ([(wrap64 (48 + (Int.tmod a0 10))) % 256] : List Int)) (inner := [.int .u8 ((wrap64 (48 + (Int.tmod a0 10))) % 256)]) (ok := fun _ => True) (okp := fun _ => True) ?hr ?hp (fun _ hk => hk) trivial (Below.refl _ _) (Nat.le_refl _) (by simp) ?_; (case hd => rfl); (case hg => rfl); (case hr => exact sE); (case hp => exact (Reps.one (show Kd.M (Kd.int .u8) _ _ _ ((wrap64 (48 + (Int.tmod a0 10))) % 256) [.int .u8 ((wrap64 (48 + (Int.tmod a0 10))) % 256)] from rfl) (Reps.none _ _)))
      intro v205 w15 ho16 hb hg_ hnew_
      clear hg_ hnew_
      (first | rw [← Ny204.out] at ho16 | (simp only [Int.reduceToNat] at ho16; rw [← Ny204.out] at ho16))
      have HO206 := Aside0.mk (Kd.R_lower ho16 (below_size (lU)))
      replace HB := bH (lU) hb
      clear hb ho16
      refine hK.out _ _ trivial (fun hHeld => ?_)
      clear hK K
      refine norm_ (a' := ?_) ?_ ?_
      rotate_left
      ·show Act.put _ (some 25) _ = _
       simp only [Act.put, List.setIfInBounds_toArray, List.set_cons_zero, List.set_cons_succ, i64_w, i32_w]
       rfl
      refine one_ (i := 8) (N := some 26) (bz 11 511) rfl rfl (one_of HT_.out (by kernel_rfl)) (by decide) (fun K hK => ?_)
      have hcv17 := own_string (P := Try.prog) Try.underlying22 Try.underlying5 Try.underlying9 (Kd.own_of_R HO206.out)
      refine value_ (w1 := ?_) (v := ?_) (by rfl) rfl ?_ ?_
      rotate_left 2
      ·go_simp
       constructor
       ·rfl
       ·rfl
      clear hcv17
      refine hK.out _ _ trivial (fun hHeld => ?_)
      clear hK K
      refine norm_ (a' := ?_) ?_ ?_
      rotate_left
      ·show Act.put _ (some 26) _ = _
       simp only [Act.put, List.setIfInBounds_toArray, List.set_cons_zero, List.set_cons_succ, i64_w, i32_w]
       rfl
      exact norm_ (by simp only [putAll, Act.put, List.setIfInBounds_toArray, List.set_cons_zero, List.set_cons_succ]) (hCont (v205) _ ⟨(rU HO206.out), (lU)⟩)
     ·skip
      refine Kd.R_lit_step (Kd.int .u8) _ 5 ?hg (N := 25) ?hd (xs := ([(wrap64 (48 + (Int.tmod a0 10))) % 256] : List Int)) (inner := [.int .u8 ((wrap64 (48 + (Int.tmod a0 10))) % 256)]) (ok := fun _ => True) (okp := fun _ => True) ?hr ?hp (fun _ hk => hk) trivial (Below.refl _ _) (Nat.le_refl _) (by simp) ?_; (case hd => rfl); (case hg => rfl); (case hr => exact sE); (case hp => exact (Reps.one (show Kd.M (Kd.int .u8) _ _ _ ((wrap64 (48 + (Int.tmod a0 10))) % 256) [.int .u8 ((wrap64 (48 + (Int.tmod a0 10))) % 256)] from rfl) (Reps.none _ _)))
      intro v205 w14 ho15 hb hg_ hnew_
      clear hg_ hnew_
      (first | rw [← Ny204.out] at ho15 | (simp only [Int.reduceToNat] at ho15; rw [← Ny204.out] at ho15))
      have HO206 := Aside0.mk (Kd.R_lower ho15 (below_size (lU)))
      replace HB := bH (lU) hb
      clear hb ho15
      refine hK.out _ _ trivial (fun hHeld => ?_)
      clear hK K
      refine norm_ (a' := ?_) ?_ ?_
      rotate_left
      ·show Act.put _ (some 25) _ = _
       simp only [Act.put, List.setIfInBounds_toArray, List.set_cons_zero, List.set_cons_succ, i64_w, i32_w]
       rfl
      refine two_ (i := 2) (j := 8) (Ni := some 20) (Nj := some 26) #[true, true, true, true, true, true, true, true, false, false, false] #[true, true, false, true, true, true, true, true, true, false, false] rfl rfl rfl rfl (two_of HT_.out (by kernel_rfl)) (by decide) (by decide) (fun K hK => ?_) (fun K hK => ?_)
      ·skip
       refine goes_ Try.func42 (by kernel_rfl) rfl #[.int .i64 (wrap64 (Int.tdiv a0 10))] (by rfl) rfl rfl aE ?_
       with_reducible refine (ih k (by omega) (wrap64 (Int.tdiv a0 10)) t203 _ A11.out).mono ?_
       rintro e w16 ⟨rfl, hb⟩
       refine ⟨_, rfl, ?_⟩
       replace HO206 := Aside0.mk (Kd.R_below (rU HO206.out) hb)
       replace HB := bH (lU) hb
       (try clear hb)
       (try clear hb2)
       (try clear hk)
       (try clear hi)
       refine hK.out _ _ trivial (fun hHeld => ?_)
       clear hK K
       refine norm_ (a' := ?_) ?_ ?_
       rotate_left
       ·show Act.put _ (some 20) _ = _
        simp only [Act.put, List.setIfInBounds_toArray, List.set_cons_zero, List.set_cons_succ, i64_w, i32_w]
        rfl
       refine one_ (i := 8) (N := some 26) (bz 11 511) rfl rfl (one_of HT_.out (by kernel_rfl)) (by decide) (fun K hK => ?_)
       have hcv17 := own_string (P := Try.prog) Try.underlying22 Try.underlying5 Try.underlying9 (Kd.own_of_R HO206.out)
       refine value_ (w1 := ?_) (v := ?_) (by rfl) rfl ?_ ?_
       rotate_left 2
       ·go_simp
        constructor
        ·rfl
        ·rfl
       clear hcv17
       refine hK.out _ _ trivial (fun hHeld => ?_)
       clear hK K
       refine norm_ (a' := ?_) ?_ ?_
       rotate_left
       ·show Act.put _ (some 26) _ = _
        simp only [Act.put, List.setIfInBounds_toArray, List.set_cons_zero, List.set_cons_succ, i64_w, i32_w]
        rfl
       exact norm_ (by simp only [putAll, Act.put, List.setIfInBounds_toArray, List.set_cons_zero, List.set_cons_succ]) (hCont (v205) _ ⟨(rU HO206.out), (lU)⟩)
      ·skip
       have hcv16 := own_string (P := Try.prog) Try.underlying22 Try.underlying5 Try.underlying9 (Kd.own_of_R HO206.out)
       refine value_ (w1 := ?_) (v := ?_) (by rfl) rfl ?_ ?_
       rotate_left 2
       ·go_simp
        constructor
        ·rfl
        ·rfl
       clear hcv16
       refine hK.out _ _ trivial (fun hHeld => ?_)
       clear hK K
       refine norm_ (a' := ?_) ?_ ?_
       rotate_left
       ·show Act.put _ (some 26) _ = _
        simp only [Act.put, List.setIfInBounds_toArray, List.set_cons_zero, List.set_cons_succ, i64_w, i32_w]
        rfl
       refine one_ (i := 2) (N := some 20) (bz 11 511) rfl rfl (one_of HT_.out (by kernel_rfl)) (by decide) (fun K hK => ?_)
       refine goes_ Try.func42 (by kernel_rfl) rfl #[.int .i64 (wrap64 (Int.tdiv a0 10))] (by rfl) rfl rfl aE ?_
       with_reducible refine (ih k (by omega) (wrap64 (Int.tdiv a0 10)) t203 _ A11.out).mono ?_
       rintro e w17 ⟨rfl, hb⟩
       refine ⟨_, rfl, ?_⟩
       replace HO206 := Aside0.mk (Kd.R_below (rU HO206.out) hb)
       replace HB := bH (lU) hb
       (try clear hb)
       (try clear hb2)
       (try clear hk)
       (try clear hi)
       refine hK.out _ _ trivial (fun hHeld => ?_)
       clear hK K
       refine norm_ (a' := ?_) ?_ ?_
       rotate_left
       ·show Act.put _ (some 20) _ = _
        simp only [Act.put, List.setIfInBounds_toArray, List.set_cons_zero, List.set_cons_succ, i64_w, i32_w]
        rfl
       exact norm_ (by simp only [putAll, Act.put, List.setIfInBounds_toArray, List.set_cons_zero, List.set_cons_succ]) (hCont (v205) _ ⟨(rU HO206.out), (lU)⟩)
    rintro v205 w18 ⟨h0_, h1_⟩
    have HO206 : Aside0 (Kd.R (Kd.int .u8) 5 w18 w.heap.size (fun _ => True) v205 y204) := ⟨h0_⟩
    replace HB : Aside0 (Below w.heap.size w w18) := ⟨h1_⟩
    clear h0_ h1_
    have hHeld := trivial
    refine norm_ (a' := ?_) ?_ ?_
    rotate_left
    ·simp only [putAll, Act.put, List.setIfInBounds_toArray, List.set_cons_zero, List.set_cons_succ]
     rfl
    refine pureA 9 27 (bz 11 1023) rfl rfl (any_of HT_.out (by kernel_rfl)) ?_
    refine pureA 10 2 (bz 11 2047) rfl rfl (any_of HT_.out (by kernel_rfl)) ?_
    refine done_ (done_of HT_.out (by kernel_rfl)) ?_
    try go_wp2
    go_ret
    exact ⟨eE, lU⟩
   ·rw [if_neg c12] at H
    exact absurd H (by simp)
end Go.Proofs.Ytmmgmbmjlbdpnaa.PFnPlaced
