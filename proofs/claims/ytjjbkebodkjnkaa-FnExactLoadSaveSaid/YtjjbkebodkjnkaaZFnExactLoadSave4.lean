/- Texts of a row. -/
import Derived.Test.YtjjbkebodkjnkaaZFnExactLoadSave3
namespace Go.Proofs.Ytjjbkebodkjnkaa.PFnExactLoadSave
open Go.RowKit Go.Proofs.YtjjbkebodkjnkaaW.PrintWords Go.Proofs.YtjjbkebodkjnkaaW.PrintLast Go.Proofs.YtjjbkebodkjnkaaW.PrintMore
attribute [local go_sem] max2_int min2_int max_two min_two max_three min_three max_four min_four
set_option linter.unusedVariables false
set_option linter.unusedSimpArgs false
def spec_l22At.l0 : Nat → ByteArray → List (S49) → Int → Int → Option (Int)
 | 0, _, _, _, _ => none
 | k + 1, x1, x7, x8, x9 => if x9 < x8 then (if 0 ≤ x9 then (if x9 < (x7.length : Int) then (if ((rd_T49 x7 x9).f0).toList = x1.toList then (some x9) else (spec_l22At.l0 k x1 x7 x8 (wrap64 (x9 + 1)))) else (none)) else (none)) else (some (-1))
def spec_l22At.f (k : Nat) (l0 : List (S49)) (a1 : ByteArray) : Option (Int) := spec_l22At.l0 k a1 l0 (l0.length : Int) 0
theorem spec_l22At.mono_l : ∀ k, (∀ y0 y1 y2 y3, LeO (spec_l22At.l0 k y0 y1 y2 y3) (spec_l22At.l0 (k + 1) y0 y1 y2 y3))
 | 0 => fun _ _ _ _ r h => by simp [spec_l22At.l0] at h
 | k + 1 => by
  have ih0 := spec_l22At.mono_l k
  ·intro y0 y1 y2 y3
   unfold spec_l22At.l0
   repeat' first
   | (with_reducible exact ih0 _ _ _ _)
   | (with_reducible first | exact LeO.refl _ | exact LeO.none _ | refine LeO.ite ?_ ?_ | refine LeO.bind ?_ (fun _ => ?_))
   | exact ih0 _ _ _ _ | exact LeO.none _ | refine LeO.ite ?_ ?_ | refine LeO.bind ?_ (fun _ => ?_)
theorem spec_l22At.mono : ∀ a0 a1 k, LeO (spec_l22At.f k a0 a1) (spec_l22At.f (k + 1) a0 a1) := by
 intro a0 a1 k
 have ih0 := spec_l22At.mono_l k
 unfold spec_l22At.f
 repeat' first
   | (with_reducible exact ih0 _ _ _ _)
   | (with_reducible first | exact LeO.refl _ | exact LeO.none _ | refine LeO.ite ?_ ?_ | refine LeO.bind ?_ (fun _ => ?_))
   | exact ih0 _ _ _ _ | exact LeO.none _ | refine LeO.ite ?_ ?_ | refine LeO.bind ?_ (fun _ => ?_)
set_option maxHeartbeats 8000000 in
set_option maxRecDepth 100000 in
theorem spec_l22At.calls (k : Nat) (A0 : Option Addr) (c0 : Nat) (l0 : List (S49)) (a1 : ByteArray) (r : Int) (w : World) (hr0 : Kd.C k49 w A0 l0.length l0) (hc0 : l0.length ≤ c0) (h : spec_l22At.f k l0 a1 = some r) :
  Calls Try.prog 31 #[.slice A0 l0.length c0, .string a1] w fun e w' => e = .returned (.int .i64 r) ∧ Below w.heap.size w w' := by
 have hu49 := Try.underlying49
 have HR0 := Aside0.mk hr0
 have HC0 := Aside0.mk hc0
 clear hr0 hc0
 have HB := Aside0.mk (Below.refl w.heap.size w)
 have H : (spec_l22At.l0 k a1 l0 (l0.length : Int) 0) = some r := h
 clear h
 have H' := Aside0.mk H
 clear H
 go_enter Try.func31, Try.ntmps31
 go_wp2
 go_loopg [9] k (fun kq v9 w' => ∃ (x9_1 : Int), v9 = .int .i64 x9_1 ∧ Aside0 (spec_l22At.l0 kq a1 l0 (l0.length : Int) x9_1 = some r) ∧ Aside0 (kq ≤ k) ∧ Aside0 (Below w.heap.size w w'))
 case atStart => exact ⟨(0), tE, H', ⟨Nat.le_refl _⟩, ⟨by repeat (first | (with_reducible first | exact HB.out | apply below_alloc | apply pw_below_drewN | apply below_drew1) | exact HB.out)⟩⟩
 case round =>
  clear H'
  obtain ⟨x9_1, rfl, HA, HK1, HB⟩ := hrel
  cases gk with
  | zero => exact absurd HA.out (by simp [spec_l22At.l0])
  | succ k1 =>
   have H := HA.out
   clear HA
   simp only [spec_l22At.l0] at H
   by_cases c3 : x9_1 < (l0.length : Int)
   ·rw [if_pos c3] at H
    have c3b0 : decide (x9_1 < (l0.length : Int)) = true := decide_eq_true c3
    clear c3
    by_cases c4 : 0 ≤ x9_1
    ·rw [if_pos c4] at H
     have c4b0 : decide (0 ≤ x9_1) = true := decide_eq_true c4
     clear c4
     by_cases c5 : x9_1 < (l0.length : Int)
     ·rw [if_pos c5] at H
      have c5b0 : decide (x9_1 < (l0.length : Int)) = true := decide_eq_true c5
      clear c5
      by_cases c6 : ((rd_T49 l0 x9_1).f0).toList = a1.toList
      ·rw [if_pos c6] at H
       have c6b0 : (((rd_T49 l0 x9_1).f0).toList == a1.toList) = true := beq_iff_eq.mpr c6
       have c6b1 : (((rd_T49 l0 x9_1).f0).toList != a1.toList) = false := bne_eq_false_iff_eq.mpr c6
       clear c6
       obtain rfl := Option.some.inj H
       have p123 : 0 ≤ (x9_1 : Int) := of_decide_eq_true hE
       have q123 : x9_1 < (l0.length : Int) := of_decide_eq_true hE
       obtain ⟨ad123, e123, hx123_0, hx123_1, hx123_2⟩ := at_T49 HR0.out x9_1 p123 q123
       cases e123
       replace hx123_0 := (HB.out.cell (World.block_lt_of_cell? w _ hx123_0)).trans hx123_0
       replace hx123_1 := (HB.out.cell (World.block_lt_of_cell? w _ hx123_1)).trans hx123_1
       replace hx123_2 := (HB.out.cell (World.block_lt_of_cell? w _ hx123_2)).trans hx123_2
       replace p123 := eq_true p123
       replace q123 := eq_true q123
       go_wp2_with (first | ((with_reducible refine gate_dst (N := 6) rfl ?_); refine box_event rfl (N := 6) rfl (cs := #[.string (⟨#[]⟩ : ByteArray), .int .i64 0, .string (⟨#[]⟩ : ByteArray)]) (t := 49) sE ?_; intro gb124 hg w7 hbox hb; have BK124 := Aside0.mk hbox; have GW124 := gS w hg (lU); have GE124 := gS w hg (lU); replace HB := bH (lU) hb; clear hb hbox hg; have hcz8_0 := cz BK124 0 (.string (⟨#[]⟩ : ByteArray)); have hcz8_1 := cz BK124 1 (.int .i64 0); have hcz8_2 := cz BK124 2 (.string (⟨#[]⟩ : ByteArray)); have hfz8_0 := fz BK124 0; have hfz8_1 := fz BK124 1; have hfz8_2 := fz BK124 2) | ((with_reducible refine gate_store (t := 49) (p := 6) rfl ?_); refine store_event (t := 49) (p := 6) (v := ?vo_w9) (w1 := (((w7.setCell ⟨gb124, 0, none⟩ (.string ((rd_T49 l0 x9_1).f0))).setCell ⟨gb124, 1, none⟩ (.int .i64 ((rd_T49 l0 x9_1).f1))).setCell ⟨gb124, 2, none⟩ (.string ((rd_T49 l0 x9_1).f2)))) ?hg ?ho ?hn ?hr ?_; (case ho => rfl); (case hg => rfl); (case hn => rfl); (case hr => first | (go_simp; done) | (go_simp; rfl) | (have hq0_ := (blk_cell BK124.out 0).trans (show _ = some _ from rfl); have hf0_ := blk_frozen BK124.out 0; have hq1_ := (blk_cell BK124.out 1).trans (show _ = some _ from rfl); have hf1_ := blk_frozen BK124.out 1; have hq2_ := (blk_cell BK124.out 2).trans (show _ = some _ from rfl); have hf2_ := blk_frozen BK124.out 2; first | (go_simp; done) | (go_simp; rfl))); intro w9 hw; replace BK124 : Aside0 (w9.heap[gb124]? = some (.cells #[.string ((rd_T49 l0 x9_1).f0), .int .i64 ((rd_T49 l0 x9_1).f1), .string ((rd_T49 l0 x9_1).f2)] 49 (0, 0))) := ⟨(by rw [hw]; exact (by refine bU ?_; refine blk_put (cs := #[.string ((rd_T49 l0 x9_1).f0), .int .i64 ((rd_T49 l0 x9_1).f1), .string (⟨#[]⟩ : ByteArray)]) ?_ 2 _ rfl; refine bU ?_; refine blk_put (cs := #[.string ((rd_T49 l0 x9_1).f0), .int .i64 0, .string (⟨#[]⟩ : ByteArray)]) ?_ 1 _ rfl; refine bU ?_; refine blk_put (cs := #[.string (⟨#[]⟩ : ByteArray), .int .i64 0, .string (⟨#[]⟩ : ByteArray)]) ?_ 0 _ rfl; refine bU ?_; exact BK124.out))⟩; replace HB : Aside0 (Below w.heap.size w w9) := ⟨(by rw [hw]; exact (lV1 GE124))⟩; clear hw; have hcz10_0 := cz BK124 0 (.string ((rd_T49 l0 x9_1).f0)); have hcz10_1 := cz BK124 1 (.int .i64 ((rd_T49 l0 x9_1).f1)); have hcz10_2 := cz BK124 2 (.string ((rd_T49 l0 x9_1).f2)); have hfz10_0 := fz BK124 0; have hfz10_1 := fz BK124 1; have hfz10_2 := fz BK124 2))
       go_ret
       exact ⟨eE, lV1 GE124⟩
      ·rw [if_neg c6] at H
       have c6b0 : (((rd_T49 l0 x9_1).f0).toList == a1.toList) = false := beq_eq_false_iff_ne.mpr c6
       have c6b1 : (((rd_T49 l0 x9_1).f0).toList != a1.toList) = true := bne_iff_ne.mpr c6
       have H' := Aside0.mk H
       clear H
       have p123 : 0 ≤ (x9_1 : Int) := of_decide_eq_true hE
       have q123 : x9_1 < (l0.length : Int) := of_decide_eq_true hE
       obtain ⟨ad123, e123, hx123_0, hx123_1, hx123_2⟩ := at_T49 HR0.out x9_1 p123 q123
       cases e123
       replace hx123_0 := (HB.out.cell (World.block_lt_of_cell? w _ hx123_0)).trans hx123_0
       replace hx123_1 := (HB.out.cell (World.block_lt_of_cell? w _ hx123_1)).trans hx123_1
       replace hx123_2 := (HB.out.cell (World.block_lt_of_cell? w _ hx123_2)).trans hx123_2
       replace p123 := eq_true p123
       replace q123 := eq_true q123
       go_wp2_with (first | ((with_reducible refine gate_dst (N := 6) rfl ?_); refine box_event rfl (N := 6) rfl (cs := #[.string (⟨#[]⟩ : ByteArray), .int .i64 0, .string (⟨#[]⟩ : ByteArray)]) (t := 49) sE ?_; intro gb124 hg w11 hbox hb; have BK124 := Aside0.mk hbox; have GW124 := gS w hg (lU); have GE124 := gS w hg (lU); replace HB := bH (lU) hb; clear hb hbox hg; have hcz12_0 := cz BK124 0 (.string (⟨#[]⟩ : ByteArray)); have hcz12_1 := cz BK124 1 (.int .i64 0); have hcz12_2 := cz BK124 2 (.string (⟨#[]⟩ : ByteArray)); have hfz12_0 := fz BK124 0; have hfz12_1 := fz BK124 1; have hfz12_2 := fz BK124 2) | ((with_reducible refine gate_store (t := 49) (p := 6) rfl ?_); refine store_event (t := 49) (p := 6) (v := ?vo_w13) (w1 := (((w11.setCell ⟨gb124, 0, none⟩ (.string ((rd_T49 l0 x9_1).f0))).setCell ⟨gb124, 1, none⟩ (.int .i64 ((rd_T49 l0 x9_1).f1))).setCell ⟨gb124, 2, none⟩ (.string ((rd_T49 l0 x9_1).f2)))) ?hg ?ho ?hn ?hr ?_; (case ho => rfl); (case hg => rfl); (case hn => rfl); (case hr => first | (go_simp; done) | (go_simp; rfl) | (have hq0_ := (blk_cell BK124.out 0).trans (show _ = some _ from rfl); have hf0_ := blk_frozen BK124.out 0; have hq1_ := (blk_cell BK124.out 1).trans (show _ = some _ from rfl); have hf1_ := blk_frozen BK124.out 1; have hq2_ := (blk_cell BK124.out 2).trans (show _ = some _ from rfl); have hf2_ := blk_frozen BK124.out 2; first | (go_simp; done) | (go_simp; rfl))); intro w13 hw; replace BK124 : Aside0 (w13.heap[gb124]? = some (.cells #[.string ((rd_T49 l0 x9_1).f0), .int .i64 ((rd_T49 l0 x9_1).f1), .string ((rd_T49 l0 x9_1).f2)] 49 (0, 0))) := ⟨(by rw [hw]; exact (by refine bU ?_; refine blk_put (cs := #[.string ((rd_T49 l0 x9_1).f0), .int .i64 ((rd_T49 l0 x9_1).f1), .string (⟨#[]⟩ : ByteArray)]) ?_ 2 _ rfl; refine bU ?_; refine blk_put (cs := #[.string ((rd_T49 l0 x9_1).f0), .int .i64 0, .string (⟨#[]⟩ : ByteArray)]) ?_ 1 _ rfl; refine bU ?_; refine blk_put (cs := #[.string (⟨#[]⟩ : ByteArray), .int .i64 0, .string (⟨#[]⟩ : ByteArray)]) ?_ 0 _ rfl; refine bU ?_; exact BK124.out))⟩; replace HB : Aside0 (Below w.heap.size w w13) := ⟨(by rw [hw]; exact (lV1 GE124))⟩; clear hw; have hcz14_0 := cz BK124 0 (.string ((rd_T49 l0 x9_1).f0)); have hcz14_1 := cz BK124 1 (.int .i64 ((rd_T49 l0 x9_1).f1)); have hcz14_2 := cz BK124 2 (.string ((rd_T49 l0 x9_1).f2)); have hfz14_0 := fz BK124 0; have hfz14_1 := fz BK124 1; have hfz14_2 := fz BK124 2))
       go_roundg k1
       case measure => have := HK1.out; omega
       case rel => exact ⟨(wrap64 (x9_1 + 1)), tE, H', ⟨by have := HK1.out; omega⟩, ⟨by repeat (first | (with_reducible first | exact HB.out | apply below_alloc | apply pw_below_drewN | apply below_drew1 | refine below_set ?_ GE124.out) | exact HB.out)⟩⟩
     ·rw [if_neg c5] at H
      exact absurd H (by simp)
    ·rw [if_neg c4] at H
     exact absurd H (by simp)
   ·rw [if_neg c3] at H
    have c3b0 : decide (x9_1 < (l0.length : Int)) = false := decide_eq_false c3
    clear c3
    obtain rfl := Option.some.inj H
    go_wp2
    go_ret
    exact ⟨eE, lU⟩
def spec_l22Put.l0 : Nat → List (S49) → Int → ByteArray → Int → ByteArray → Option ((List (S49)))
 | 0, _, _, _, _, _ => none
 | k + 1, x0, x5, x126000, x126001, x126002 => if x5 < (x0.length : Int) then (if 0 ≤ x5 then (if (Op.bytesLess (((rd_T49 x0 x5).f0).toList) x126000.toList) = true then (spec_l22Put.l0 k x0 (wrap64 (x5 + 1)) x126000 x126001 x126002) else (if x5 ≤ (x0.length : Int) then ((some (x0.take (x5 : Int).toNat : List (S49))).bind fun y127 => (if ([] : List (S49)).length + y127.length < 3518437208883 then ((some (([] : List (S49)) ++ y127 : List (S49))).bind fun y131 => (if y131.length < 3518437208883 then ((some (y131 ++ [(⟨x126000, x126001, x126002⟩ : S49)] : List (S49))).bind fun y134 => ((some (x0.drop (x5 : Int).toNat : List (S49))).bind fun y137 => (if y134.length + y137.length < 3518437208883 then (some (y134 ++ y137)) else (none)))) else (none))) else (none))) else (none))) else (none)) else (if 0 ≤ x5 then (if x5 ≤ (x0.length : Int) then ((some (x0.take (x5 : Int).toNat : List (S49))).bind fun y144 => (if ([] : List (S49)).length + y144.length < 3518437208883 then ((some (([] : List (S49)) ++ y144 : List (S49))).bind fun y148 => (if y148.length < 3518437208883 then ((some (y148 ++ [(⟨x126000, x126001, x126002⟩ : S49)] : List (S49))).bind fun y151 => ((some (x0.drop (x5 : Int).toNat : List (S49))).bind fun y154 => (if y151.length + y154.length < 3518437208883 then (some (y151 ++ y154)) else (none)))) else (none))) else (none))) else (none)) else (none))
def spec_l22Put.f (k : Nat) (l0 : List (S49)) (a1_0 : ByteArray) (a1_1 : Int) (a1_2 : ByteArray) : Option ((List (S49))) := spec_l22Put.l0 k l0 0 a1_0 a1_1 a1_2
theorem spec_l22Put.mono_l : ∀ k, (∀ y0 y1 y2 y3 y4, LeO (spec_l22Put.l0 k y0 y1 y2 y3 y4) (spec_l22Put.l0 (k + 1) y0 y1 y2 y3 y4))
 | 0 => fun _ _ _ _ _ r h => by simp [spec_l22Put.l0] at h
 | k + 1 => by
  have ih0 := spec_l22Put.mono_l k
  ·intro y0 y1 y2 y3 y4
   unfold spec_l22Put.l0
   repeat' first
   | (with_reducible exact ih0 _ _ _ _ _)
   | (with_reducible first | exact LeO.refl _ | exact LeO.none _ | refine LeO.ite ?_ ?_ | refine LeO.bind ?_ (fun _ => ?_))
   | exact ih0 _ _ _ _ _ | exact LeO.none _ | refine LeO.ite ?_ ?_ | refine LeO.bind ?_ (fun _ => ?_)
theorem spec_l22Put.mono : ∀ a0 a1 a2 a3 k, LeO (spec_l22Put.f k a0 a1 a2 a3) (spec_l22Put.f (k + 1) a0 a1 a2 a3) := by
 intro a0 a1 a2 a3 k
 have ih0 := spec_l22Put.mono_l k
 unfold spec_l22Put.f
 repeat' first
   | (with_reducible exact ih0 _ _ _ _ _)
   | (with_reducible first | exact LeO.refl _ | exact LeO.none _ | refine LeO.ite ?_ ?_ | refine LeO.bind ?_ (fun _ => ?_))
   | exact ih0 _ _ _ _ _ | exact LeO.none _ | refine LeO.ite ?_ ?_ | refine LeO.bind ?_ (fun _ => ?_)
set_option maxHeartbeats 8000000 in
set_option maxRecDepth 100000 in
theorem spec_l22Put.calls (k : Nat) (A0 : Option Addr) (c0 : Nat) (l0 : List (S49)) (a1_0 : ByteArray) (a1_1 : Int) (a1_2 : ByteArray) (r : List (S49)) (w : World) (hr0 : Kd.C k49 w A0 l0.length l0) (hc0 : l0.length ≤ c0) (h : spec_l22Put.f k l0 a1_0 a1_1 a1_2 = some r) :
  Calls Try.prog 32 #[.slice A0 l0.length c0, .agg #[.string a1_0, .int .i64 a1_1, .string a1_2]] w fun e w' => ∃ v0_ : Value, e = .returned (v0_) ∧ Kd.R k49 49 w' w.heap.size (fun _ => True) v0_ r ∧ Below w.heap.size w w' := by
 have hu49 := Try.underlying49
 have HR0 := Aside0.mk hr0
 have HC0 := Aside0.mk hc0
 clear hr0 hc0
 have HB := Aside0.mk (Below.refl w.heap.size w)
 have H : (spec_l22Put.l0 k l0 0 a1_0 a1_1 a1_2) = some r := h
 clear h
 have H' := Aside0.mk H
 clear H
 go_enter Try.func32, Try.ntmps32
 go_wp2_with (first | ((with_reducible refine gate_dst (N := 3) rfl ?_); refine box_event rfl (N := 3) rfl (cs := #[.string a1_0, .int .i64 a1_1, .string a1_2]) (t := 49) sE ?_; intro gb125 hg w3 hbox hb; have BK125 := Aside0.mk hbox; have GW125 := gS w hg (lU); have GE125 := gS w hg (lU); replace HB := bH (lU) hb; clear hb hbox hg))
 repeat (go_quiet (fail); try go_wp2)
 (try simp only [Act.put, List.setIfInBounds_toArray, List.set_cons_zero, List.set_cons_succ])
 go_loopg [5] k (fun kq v5 w' => ∃ (x5_1 : Int), v5 = .int .i64 x5_1 ∧ Aside0 (spec_l22Put.l0 kq l0 x5_1 a1_0 a1_1 a1_2 = some r) ∧ Aside0 (kq ≤ k) ∧ Aside0 (w'.heap[gb125]? = some (.cells #[.string a1_0, .int .i64 a1_1, .string a1_2] 49 (0, 0))) ∧ Aside0 (Below w.heap.size w w'))
 case atStart => exact ⟨(0), tE, H', ⟨Nat.le_refl _⟩, ⟨by refine bU ?_; exact BK125.out⟩, ⟨by repeat (first | (with_reducible first | exact HB.out | apply below_alloc | apply pw_below_drewN | apply below_drew1 | refine below_set ?_ GE125.out) | exact HB.out)⟩⟩
 case round =>
  clear H'
  obtain ⟨x5_1, rfl, HA, HK1, BK125, HB⟩ := hrel
  cases gk with
  | zero => exact absurd HA.out (by simp [spec_l22Put.l0])
  | succ k1 =>
   have H := HA.out
   clear HA
   simp only [spec_l22Put.l0] at H
   by_cases c4 : x5_1 < (l0.length : Int)
   ·rw [if_pos c4] at H
    have c4b0 : decide (x5_1 < (l0.length : Int)) = true := decide_eq_true c4
    clear c4
    by_cases c5 : 0 ≤ x5_1
    ·rw [if_pos c5] at H
     have c5b0 : decide (0 ≤ x5_1) = true := decide_eq_true c5
     clear c5
     by_cases c6 : (Op.bytesLess (((rd_T49 l0 x5_1).f0).toList) a1_0.toList) = true
     ·rw [if_pos c6] at H
      have c6b0 : (Op.bytesLess (((rd_T49 l0 x5_1).f0).toList) a1_0.toList) = true := c6
      clear c6
      have H' := Aside0.mk H
      clear H
      have p126 : 0 ≤ (x5_1 : Int) := of_decide_eq_true hE
      have q126 : x5_1 < (l0.length : Int) := of_decide_eq_true hE
      obtain ⟨ad126, e126, hx126_0, hx126_1, hx126_2⟩ := at_T49 HR0.out x5_1 p126 q126
      cases e126
      replace hx126_0 := (HB.out.cell (World.block_lt_of_cell? w _ hx126_0)).trans hx126_0
      replace hx126_1 := (HB.out.cell (World.block_lt_of_cell? w _ hx126_1)).trans hx126_1
      replace hx126_2 := (HB.out.cell (World.block_lt_of_cell? w _ hx126_2)).trans hx126_2
      replace p126 := eq_true p126
      replace q126 := eq_true q126
      have hcz7_0 := cz BK125 0 (.string a1_0)
      have hcz7_1 := cz BK125 1 (.int .i64 a1_1)
      have hcz7_2 := cz BK125 2 (.string a1_2)
      have hfz7_0 := fz BK125 0
      have hfz7_1 := fz BK125 1
      have hfz7_2 := fz BK125 2
      go_wp2
      repeat (go_quiet (fail); try go_wp2)
      go_roundg k1
      case measure => have := HK1.out; omega
      case rel => exact ⟨(wrap64 (x5_1 + 1)), tE, H', ⟨by have := HK1.out; omega⟩, ⟨by refine bU ?_; exact BK125.out⟩, ⟨by repeat (first | (with_reducible first | exact HB.out | apply below_alloc | apply pw_below_drewN | apply below_drew1 | refine below_set ?_ GE125.out) | exact HB.out)⟩⟩
     ·rw [if_neg c6] at H
      have c6b0 : (Op.bytesLess (((rd_T49 l0 x5_1).f0).toList) a1_0.toList) = false := by simpa using c6
      clear c6
      have c8b0 := eq_true (of_decide_eq_true hE : 0 ≤ x5_1)
      by_cases c9 : x5_1 ≤ (l0.length : Int)
      ·rw [if_pos c9] at H
       have c9b0 := eq_true c9
       have c9b1 : decide (x5_1 ≤ (l0.length : Int)) = true := decide_eq_true c9
       clear c9
       obtain ⟨y127, hy127⟩ : ∃ y_ : List (S49), y_ = (l0.take (x5_1 : Int).toNat) := ⟨_, rfl⟩
       replace H : (if ([] : List (S49)).length + y127.length < 3518437208883 then ((some (([] : List (S49)) ++ y127 : List (S49))).bind fun y131 => (if y131.length < 3518437208883 then ((some (y131 ++ [(⟨a1_0, a1_1, a1_2⟩ : S49)] : List (S49))).bind fun y134 => ((some (l0.drop (x5_1 : Int).toNat : List (S49))).bind fun y137 => (if y134.length + y137.length < 3518437208883 then (some (y134 ++ y137)) else (none)))) else (none))) else (none)) = some r := by first | (rw [hy127]; with_reducible exact H) | (have H2_ := (Option.bind_some _ _).symm.trans H; rw [hy127]; with_reducible exact H2_) | (have H2_ := (Option.bind_some _ _).symm.trans H; with_reducible exact H2_) | with_reducible exact H | (rw [hy127]; exact H) | exact H
       have Ny127 := Aside0.mk hy127
       clear hy127
       by_cases c10 : ([] : List (S49)).length + y127.length < 3518437208883
       ·rw [if_pos c10] at H
        have LMc10 := Aside0.mk c10
        clear c10
        obtain ⟨y131, hy131⟩ : ∃ y_ : List (S49), y_ = (([] : List (S49)) ++ y127) := ⟨_, rfl⟩
        replace H : (if y131.length < 3518437208883 then ((some (y131 ++ [(⟨a1_0, a1_1, a1_2⟩ : S49)] : List (S49))).bind fun y134 => ((some (l0.drop (x5_1 : Int).toNat : List (S49))).bind fun y137 => (if y134.length + y137.length < 3518437208883 then (some (y134 ++ y137)) else (none)))) else (none)) = some r := by first | (rw [hy131]; with_reducible exact H) | (have H2_ := (Option.bind_some _ _).symm.trans H; rw [hy131]; with_reducible exact H2_) | (have H2_ := (Option.bind_some _ _).symm.trans H; with_reducible exact H2_) | with_reducible exact H | (rw [hy131]; exact H) | exact H
        have Ny131 := Aside0.mk hy131
        clear hy131
        by_cases c11 : y131.length < 3518437208883
        ·rw [if_pos c11] at H
         have LMc11 := Aside0.mk c11
         clear c11
         obtain ⟨y134, hy134⟩ : ∃ y_ : List (S49), y_ = (y131 ++ [(⟨a1_0, a1_1, a1_2⟩ : S49)]) := ⟨_, rfl⟩
         replace H : ((some (l0.drop (x5_1 : Int).toNat : List (S49))).bind fun y137 => (if y134.length + y137.length < 3518437208883 then (some (y134 ++ y137)) else (none))) = some r := by first | (rw [hy134]; with_reducible exact H) | (have H2_ := (Option.bind_some _ _).symm.trans H; rw [hy134]; with_reducible exact H2_) | (have H2_ := (Option.bind_some _ _).symm.trans H; with_reducible exact H2_) | with_reducible exact H | (rw [hy134]; exact H) | exact H
         have Ny134 := Aside0.mk hy134
         clear hy134
         have c12b0 := eq_true (of_decide_eq_true hE : 0 ≤ x5_1)
         have c13b0 := eq_true (of_decide_eq_true hE : x5_1 ≤ (l0.length : Int))
         obtain ⟨y137, hy137⟩ : ∃ y_ : List (S49), y_ = (l0.drop (x5_1 : Int).toNat) := ⟨_, rfl⟩
         replace H : (if y134.length + y137.length < 3518437208883 then (some (y134 ++ y137)) else (none)) = some r := by first | (rw [hy137]; with_reducible exact H) | (have H2_ := (Option.bind_some _ _).symm.trans H; rw [hy137]; with_reducible exact H2_) | (have H2_ := (Option.bind_some _ _).symm.trans H; with_reducible exact H2_) | with_reducible exact H | (rw [hy137]; exact H) | exact H
         have Ny137 := Aside0.mk hy137
         clear hy137
         by_cases c14 : y134.length + y137.length < 3518437208883
         ·rw [if_pos c14] at H
          have LMc14 := Aside0.mk c14
          clear c14
          obtain ⟨y141, hy141⟩ : ∃ y_ : List (S49), y_ = (y134 ++ y137) := ⟨_, rfl⟩
          replace H : (some y141) = some r := by first | (rw [hy141]; with_reducible exact H) | (have H2_ := (Option.bind_some _ _).symm.trans H; rw [hy141]; with_reducible exact H2_) | (have H2_ := (Option.bind_some _ _).symm.trans H; with_reducible exact H2_) | with_reducible exact H | (rw [hy141]; exact H) | exact H
          have Ny141 := Aside0.mk hy141
          clear hy141
          obtain rfl := Option.some.inj H
          have p126 : 0 ≤ (x5_1 : Int) := of_decide_eq_true hE
          have q126 : x5_1 < (l0.length : Int) := of_decide_eq_true hE
          obtain ⟨ad126, e126, hx126_0, hx126_1, hx126_2⟩ := at_T49 HR0.out x5_1 p126 q126
          cases e126
          replace hx126_0 := (HB.out.cell (World.block_lt_of_cell? w _ hx126_0)).trans hx126_0
          replace hx126_1 := (HB.out.cell (World.block_lt_of_cell? w _ hx126_1)).trans hx126_1
          replace hx126_2 := (HB.out.cell (World.block_lt_of_cell? w _ hx126_2)).trans hx126_2
          replace p126 := eq_true p126
          replace q126 := eq_true q126
          have hcz15_0 := cz BK125 0 (.string a1_0)
          have hcz15_1 := cz BK125 1 (.int .i64 a1_1)
          have hcz15_2 := cz BK125 2 (.string a1_2)
          have hfz15_0 := fz BK125 0
          have hfz15_1 := fz BK125 1
          have hfz15_2 := fz BK125 2
          have q16 : (x5_1 : Int) ≤ ((l0.length : Int) : Int) := of_decide_eq_true hE
          obtain ⟨i016, hi016, _, hsz16, _⟩ := info_parts info49
          have hroom16 : l0.length ≤ c0 := HC0.out
          have hC16 : Kd.C k49 _ (some ad126) l0.length l0 := HR0.out
          have hcut16 := cut_to (P := Try.prog) 25 49 .i64 Try.underlying25 hi016 (some ad126) l0.length c0 x5_1 (of_decide_eq_true hE) q16 hroom16
          have hr16 := Kd.C_take (m := (x5_1 : Int).toNat) hC16 (by omega)
          have hy16 : y127.length = (x5_1 : Int).toNat := (by rw [Ny127.out, List.length_take]; omega)
          rw [← Ny127.out] at hr16
          rw [← hy16] at hcut16
          have HR130 := Aside0.mk hr16
          have HC130 := Aside0.mk (show y127.length ≤ c0 from by omega)
          clear hr16 hC16 hroom16 hi016 hsz16
          have KY16 := Aside0.mk hy16
          clear hy16
          replace q16 := eq_true q16
          go_wp2
          repeat (go_quiet (fail); try go_wp2_with (first | ((with_reducible refine gate_builtin (b := .append) (xs := #[.tmp 23, .tmp 26]) rfl ?_); at_builtin; refine Kd.R_append_rows k49 (w0 := w) w.heap.size rfl (.tmp 23) (.tmp 26) 25 49 (.agg #[(.string ⟨#[]⟩), (.int .i64 0), (.string ⟨#[]⟩)]) 40 rfl Try.underlying25 info49 rfl (by decide) (by omega) (.slice none 0 0) ([] : List (S49)) y127 _ _ _ (fun k_ => k_ ≠ gb125) (fun _ => False) rfl rfl ?aO ?aR (fun _ _ h => h) (fun _ h => h.elim) ?aF ?aB ?aS ?aL ?_; (case aR => repeat (first | exact (Kd.C_below HR130.out HB.out) | exact (Kd.C_drewN (Kd.C_below HR130.out HB.out) _) | exact (Kd.C_drew (Kd.C_below HR130.out HB.out)) | exact (Kd.C_alloc (Kd.C_below HR130.out HB.out) _) | (with_reducible refine Kd.C_alloc ?_ _) | (with_reducible refine Kd.C_drewN ?_ _) | (with_reducible refine Kd.C_drew ?_))); (case aB => exact (lV1 GE125)); (case aF => exact (fun k_ hk => Kd.freshB (g := gb125) (o := .cells #[.string a1_0, .int .i64 a1_1, .string a1_2] 49 (0, 0)) (bV BK125) k_ hk)); (case aO => exact ((Kd.R_nil _ _ _ _ (fun k_ => k_ ≠ gb125)))); (case aS => exact (below_size (lV1 GE125))); (case aL => have := LMc10.out; omega); intro v132 w17 ho hb hg hat; rw [← Ny131.out] at ho; replace BK125 := Aside0.mk (blk_grown (g := gb125) (o := .cells #[.string a1_0, .int .i64 a1_1, .string a1_2] 49 (0, 0)) (bV BK125) hg (by simp [Value.ownBlock])); replace HB := Aside0.mk hb; have HO133 := Aside0.mk ho; clear ho hb hg hat; have hcz18_0 := cz BK125 0 (.string a1_0); have hcz18_1 := cz BK125 1 (.int .i64 a1_1); have hcz18_2 := cz BK125 2 (.string a1_2); have hfz18_0 := fz BK125 0; have hfz18_1 := fz BK125 1; have hfz18_2 := fz BK125 2) | ((with_reducible refine gate_builtin (b := .append) (xs := #[.tmp 28, .tmp 30]) rfl ?_); at_builtin; refine Kd.R_append k49 (w0 := w) w.heap.size rfl (.tmp 28) (.tmp 30) 25 49 (.agg #[(.string ⟨#[]⟩), (.int .i64 0), (.string ⟨#[]⟩)]) 40 rfl Try.underlying25 info49 rfl (by decide) (by omega) v132 y131 (⟨a1_0, a1_1, a1_2⟩ : S49) [.string a1_0, .int .i64 a1_1, .string a1_2] (fun k_ => k_ ≠ gb125) (fun _ => False) rfl rfl ?aP (fun _ hk => hk.elim) ?aF ?aO ?aB ?aS ?aL ?_; (case aP => exact k49_mkM _ _ _ (⟨a1_0, a1_1, a1_2⟩ : S49)); (case aB => exact (lV1 GE125)); (case aF => exact (fun k_ hk => Kd.freshB (g := gb125) (o := .cells #[.string a1_0, .int .i64 a1_1, .string a1_2] 49 (0, 0)) (bV BK125) k_ hk)); (case aO => exact (rU HO133.out)); (case aS => exact (below_size (lV1 GE125))); (case aL => have := LMc11.out; omega); intro v135 w19 ho hb hg hat; rw [← Ny134.out] at ho; replace BK125 := Aside0.mk (blk_grown (g := gb125) (o := .cells #[.string a1_0, .int .i64 a1_1, .string a1_2] 49 (0, 0)) (bV BK125) hg (Kd.R_away HO133.out (fun _ hk => hk))); replace HB := Aside0.mk hb; have HO136 := Aside0.mk ho; clear HO133; clear ho hb hg hat; have q20 : (x5_1 : Int) ≤ ((l0.length : Int) : Int) := of_decide_eq_true hE; obtain ⟨i020, hi020, _, hsz20, _⟩ := info_parts info49; have hroom20 : l0.length ≤ c0 := HC0.out; have hC20 : Kd.C k49 _ (some ad126) l0.length l0 := HR0.out; have q020 : (0 : Int) ≤ (x5_1 : Int) := of_decide_eq_true hE; have hcut20 := cut_from (P := Try.prog) 25 49 .i64 Try.underlying25 hi020 3 hsz20 (some ad126) l0.length c0 x5_1 q020 q20; have hr20 := Kd.C_drop (m := (x5_1 : Int).toNat) (c := c0) hC20 (by omega) hroom20; obtain ⟨A20, hA20⟩ : ∃ A1, A1 = (if c0 = (x5_1 : Int).toNat then (some ad126) else ((some ad126) : Option Addr).map (·.add ((x5_1 : Int).toNat * 3))) := ⟨_, rfl⟩; obtain ⟨c20, hc20⟩ : ∃ c1, c1 = c0 - (x5_1 : Int).toNat := ⟨_, rfl⟩; have hy20 : y137.length = l0.length - (x5_1 : Int).toNat := (by rw [Ny137.out, List.length_drop] <;> omega); rw [show (l0).drop (x5_1 : Int).toNat = y137 from Ny137.out.symm] at hr20; replace hr20 : Kd.C k49 _ A20 y137.length y137 := (by rw [hA20]; exact hr20); rw [← hy20, ← hA20, ← hc20] at hcut20; have HR140 := Aside0.mk hr20; have HC140 := Aside0.mk (show y137.length ≤ c20 from by rw [hy20, hc20]; exact Nat.sub_le_sub_right hroom20 _); clear hr20 hC20 hroom20 hi020 hsz20 hc20; have KY20 := Aside0.mk hy20; have KA20 := Aside0.mk hA20; (try clear hy20); (try clear hA20); replace q20 := eq_true q20) | ((with_reducible refine gate_builtin (b := .append) (xs := #[.tmp 32, .tmp 35]) rfl ?_); at_builtin; refine Kd.R_append_rows k49 (w0 := w) w.heap.size rfl (.tmp 32) (.tmp 35) 25 49 (.agg #[(.string ⟨#[]⟩), (.int .i64 0), (.string ⟨#[]⟩)]) 40 rfl Try.underlying25 info49 rfl (by decide) (by omega) v135 y134 y137 _ _ _ (fun k_ => k_ ≠ gb125) (fun _ => False) rfl rfl ?aO ?aR (fun _ _ h => h) (fun _ h => h.elim) ?aF ?aB ?aS ?aL ?_; (case aR => repeat (first | exact (Kd.C_below HR140.out HB.out) | exact (Kd.C_drewN (Kd.C_below HR140.out HB.out) _) | exact (Kd.C_drew (Kd.C_below HR140.out HB.out)) | exact (Kd.C_alloc (Kd.C_below HR140.out HB.out) _) | (with_reducible refine Kd.C_alloc ?_ _) | (with_reducible refine Kd.C_drewN ?_ _) | (with_reducible refine Kd.C_drew ?_))); (case aB => exact (lV1 GE125)); (case aF => exact (fun k_ hk => Kd.freshB (g := gb125) (o := .cells #[.string a1_0, .int .i64 a1_1, .string a1_2] 49 (0, 0)) (bV BK125) k_ hk)); (case aO => exact (rU HO136.out)); (case aS => exact (below_size (lV1 GE125))); (case aL => have := LMc14.out; omega); intro v142 w21 ho hb hg hat; rw [← Ny141.out] at ho; replace BK125 := Aside0.mk (blk_grown (g := gb125) (o := .cells #[.string a1_0, .int .i64 a1_1, .string a1_2] 49 (0, 0)) (bV BK125) hg (Kd.R_away HO136.out (fun _ hk => hk))); replace HB := Aside0.mk hb; have HO143 := Aside0.mk ho; clear HO136; clear ho hb hg hat)))
          go_ret
          exact ⟨_, eE, by (with_reducible repeat (first | apply Kd.R_alloc | apply Kd.R_drewN | apply Kd.R_drew)); exact Kd.R_mono HO143.out (fun _ hk => trivial), lV1 GE125⟩
         ·rw [if_neg c14] at H
          exact absurd H (by simp)
        ·rw [if_neg c11] at H
         exact absurd H (by simp)
       ·rw [if_neg c10] at H
        exact absurd H (by simp)
      ·rw [if_neg c9] at H
       exact absurd H (by simp)
    ·rw [if_neg c5] at H
     exact absurd H (by simp)
   ·rw [if_neg c4] at H
    have c4b0 : decide (x5_1 < (l0.length : Int)) = false := decide_eq_false c4
    clear c4
    by_cases c22 : 0 ≤ x5_1
    ·rw [if_pos c22] at H
     have c22b0 := eq_true c22
     have c22b1 : decide (0 ≤ x5_1) = true := decide_eq_true c22
     clear c22
     by_cases c23 : x5_1 ≤ (l0.length : Int)
     ·rw [if_pos c23] at H
      have c23b0 := eq_true c23
      have c23b1 : decide (x5_1 ≤ (l0.length : Int)) = true := decide_eq_true c23
      clear c23
      obtain ⟨y144, hy144⟩ : ∃ y_ : List (S49), y_ = (l0.take (x5_1 : Int).toNat) := ⟨_, rfl⟩
      replace H : (if ([] : List (S49)).length + y144.length < 3518437208883 then ((some (([] : List (S49)) ++ y144 : List (S49))).bind fun y148 => (if y148.length < 3518437208883 then ((some (y148 ++ [(⟨a1_0, a1_1, a1_2⟩ : S49)] : List (S49))).bind fun y151 => ((some (l0.drop (x5_1 : Int).toNat : List (S49))).bind fun y154 => (if y151.length + y154.length < 3518437208883 then (some (y151 ++ y154)) else (none)))) else (none))) else (none)) = some r := by first | (rw [hy144]; with_reducible exact H) | (have H2_ := (Option.bind_some _ _).symm.trans H; rw [hy144]; with_reducible exact H2_) | (have H2_ := (Option.bind_some _ _).symm.trans H; with_reducible exact H2_) | with_reducible exact H | (rw [hy144]; exact H) | exact H
      have Ny144 := Aside0.mk hy144
      clear hy144
      by_cases c24 : ([] : List (S49)).length + y144.length < 3518437208883
      ·rw [if_pos c24] at H
       have LMc24 := Aside0.mk c24
       clear c24
       obtain ⟨y148, hy148⟩ : ∃ y_ : List (S49), y_ = (([] : List (S49)) ++ y144) := ⟨_, rfl⟩
       replace H : (if y148.length < 3518437208883 then ((some (y148 ++ [(⟨a1_0, a1_1, a1_2⟩ : S49)] : List (S49))).bind fun y151 => ((some (l0.drop (x5_1 : Int).toNat : List (S49))).bind fun y154 => (if y151.length + y154.length < 3518437208883 then (some (y151 ++ y154)) else (none)))) else (none)) = some r := by first | (rw [hy148]; with_reducible exact H) | (have H2_ := (Option.bind_some _ _).symm.trans H; rw [hy148]; with_reducible exact H2_) | (have H2_ := (Option.bind_some _ _).symm.trans H; with_reducible exact H2_) | with_reducible exact H | (rw [hy148]; exact H) | exact H
       have Ny148 := Aside0.mk hy148
       clear hy148
       by_cases c25 : y148.length < 3518437208883
       ·rw [if_pos c25] at H
        have LMc25 := Aside0.mk c25
        clear c25
        obtain ⟨y151, hy151⟩ : ∃ y_ : List (S49), y_ = (y148 ++ [(⟨a1_0, a1_1, a1_2⟩ : S49)]) := ⟨_, rfl⟩
        replace H : ((some (l0.drop (x5_1 : Int).toNat : List (S49))).bind fun y154 => (if y151.length + y154.length < 3518437208883 then (some (y151 ++ y154)) else (none))) = some r := by first | (rw [hy151]; with_reducible exact H) | (have H2_ := (Option.bind_some _ _).symm.trans H; rw [hy151]; with_reducible exact H2_) | (have H2_ := (Option.bind_some _ _).symm.trans H; with_reducible exact H2_) | with_reducible exact H | (rw [hy151]; exact H) | exact H
        have Ny151 := Aside0.mk hy151
        clear hy151
        have c26b0 := eq_true (of_decide_eq_true hE : 0 ≤ x5_1)
        have c27b0 := eq_true (of_decide_eq_true hE : x5_1 ≤ (l0.length : Int))
        obtain ⟨y154, hy154⟩ : ∃ y_ : List (S49), y_ = (l0.drop (x5_1 : Int).toNat) := ⟨_, rfl⟩
        replace H : (if y151.length + y154.length < 3518437208883 then (some (y151 ++ y154)) else (none)) = some r := by first | (rw [hy154]; with_reducible exact H) | (have H2_ := (Option.bind_some _ _).symm.trans H; rw [hy154]; with_reducible exact H2_) | (have H2_ := (Option.bind_some _ _).symm.trans H; with_reducible exact H2_) | with_reducible exact H | (rw [hy154]; exact H) | exact H
        have Ny154 := Aside0.mk hy154
        clear hy154
        by_cases c28 : y151.length + y154.length < 3518437208883
        ·rw [if_pos c28] at H
         have LMc28 := Aside0.mk c28
         clear c28
         obtain ⟨y158, hy158⟩ : ∃ y_ : List (S49), y_ = (y151 ++ y154) := ⟨_, rfl⟩
         replace H : (some y158) = some r := by first | (rw [hy158]; with_reducible exact H) | (have H2_ := (Option.bind_some _ _).symm.trans H; rw [hy158]; with_reducible exact H2_) | (have H2_ := (Option.bind_some _ _).symm.trans H; with_reducible exact H2_) | with_reducible exact H | (rw [hy158]; exact H) | exact H
         have Ny158 := Aside0.mk hy158
         clear hy158
         obtain rfl := Option.some.inj H
         have q29 : (x5_1 : Int) ≤ ((l0.length : Int) : Int) := of_decide_eq_true hE
         obtain ⟨i029, hi029, _, hsz29, _⟩ := info_parts info49
         have hroom29 : l0.length ≤ c0 := HC0.out
         have hC29 : Kd.C k49 _ A0 l0.length l0 := HR0.out
         have hcut29 := cut_to (P := Try.prog) 25 49 .i64 Try.underlying25 hi029 A0 l0.length c0 x5_1 (of_decide_eq_true hE) q29 hroom29
         have hr29 := Kd.C_take (m := (x5_1 : Int).toNat) hC29 (by omega)
         have hy29 : y144.length = (x5_1 : Int).toNat := (by rw [Ny144.out, List.length_take]; omega)
         rw [← Ny144.out] at hr29
         rw [← hy29] at hcut29
         have HR147 := Aside0.mk hr29
         have HC147 := Aside0.mk (show y144.length ≤ c0 from by omega)
         clear hr29 hC29 hroom29 hi029 hsz29
         have KY29 := Aside0.mk hy29
         clear hy29
         replace q29 := eq_true q29
         go_wp2
         repeat (go_quiet (fail); try go_wp2_with (first | ((with_reducible refine gate_builtin (b := .append) (xs := #[.tmp 23, .tmp 26]) rfl ?_); at_builtin; refine Kd.R_append_rows k49 (w0 := w) w.heap.size rfl (.tmp 23) (.tmp 26) 25 49 (.agg #[(.string ⟨#[]⟩), (.int .i64 0), (.string ⟨#[]⟩)]) 40 rfl Try.underlying25 info49 rfl (by decide) (by omega) (.slice none 0 0) ([] : List (S49)) y144 _ _ _ (fun k_ => k_ ≠ gb125) (fun _ => False) rfl rfl ?aO ?aR (fun _ _ h => h) (fun _ h => h.elim) ?aF ?aB ?aS ?aL ?_; (case aR => repeat (first | exact (Kd.C_below HR147.out HB.out) | exact (Kd.C_drewN (Kd.C_below HR147.out HB.out) _) | exact (Kd.C_drew (Kd.C_below HR147.out HB.out)) | exact (Kd.C_alloc (Kd.C_below HR147.out HB.out) _) | (with_reducible refine Kd.C_alloc ?_ _) | (with_reducible refine Kd.C_drewN ?_ _) | (with_reducible refine Kd.C_drew ?_))); (case aB => exact (lV1 GE125)); (case aF => exact (fun k_ hk => Kd.freshB (g := gb125) (o := .cells #[.string a1_0, .int .i64 a1_1, .string a1_2] 49 (0, 0)) (bV BK125) k_ hk)); (case aO => exact ((Kd.R_nil _ _ _ _ (fun k_ => k_ ≠ gb125)))); (case aS => exact (below_size (lV1 GE125))); (case aL => have := LMc24.out; omega); intro v149 w30 ho hb hg hat; rw [← Ny148.out] at ho; replace BK125 := Aside0.mk (blk_grown (g := gb125) (o := .cells #[.string a1_0, .int .i64 a1_1, .string a1_2] 49 (0, 0)) (bV BK125) hg (by simp [Value.ownBlock])); replace HB := Aside0.mk hb; have HO150 := Aside0.mk ho; clear ho hb hg hat; have hcz31_0 := cz BK125 0 (.string a1_0); have hcz31_1 := cz BK125 1 (.int .i64 a1_1); have hcz31_2 := cz BK125 2 (.string a1_2); have hfz31_0 := fz BK125 0; have hfz31_1 := fz BK125 1; have hfz31_2 := fz BK125 2) | ((with_reducible refine gate_builtin (b := .append) (xs := #[.tmp 28, .tmp 30]) rfl ?_); at_builtin; refine Kd.R_append k49 (w0 := w) w.heap.size rfl (.tmp 28) (.tmp 30) 25 49 (.agg #[(.string ⟨#[]⟩), (.int .i64 0), (.string ⟨#[]⟩)]) 40 rfl Try.underlying25 info49 rfl (by decide) (by omega) v149 y148 (⟨a1_0, a1_1, a1_2⟩ : S49) [.string a1_0, .int .i64 a1_1, .string a1_2] (fun k_ => k_ ≠ gb125) (fun _ => False) rfl rfl ?aP (fun _ hk => hk.elim) ?aF ?aO ?aB ?aS ?aL ?_; (case aP => exact k49_mkM _ _ _ (⟨a1_0, a1_1, a1_2⟩ : S49)); (case aB => exact (lV1 GE125)); (case aF => exact (fun k_ hk => Kd.freshB (g := gb125) (o := .cells #[.string a1_0, .int .i64 a1_1, .string a1_2] 49 (0, 0)) (bV BK125) k_ hk)); (case aO => exact (rU HO150.out)); (case aS => exact (below_size (lV1 GE125))); (case aL => have := LMc25.out; omega); intro v152 w32 ho hb hg hat; rw [← Ny151.out] at ho; replace BK125 := Aside0.mk (blk_grown (g := gb125) (o := .cells #[.string a1_0, .int .i64 a1_1, .string a1_2] 49 (0, 0)) (bV BK125) hg (Kd.R_away HO150.out (fun _ hk => hk))); replace HB := Aside0.mk hb; have HO153 := Aside0.mk ho; clear HO150; clear ho hb hg hat; have q33 : (x5_1 : Int) ≤ ((l0.length : Int) : Int) := of_decide_eq_true hE; obtain ⟨i033, hi033, _, hsz33, _⟩ := info_parts info49; have hroom33 : l0.length ≤ c0 := HC0.out; have hC33 : Kd.C k49 _ A0 l0.length l0 := HR0.out; have q033 : (0 : Int) ≤ (x5_1 : Int) := of_decide_eq_true hE; have hcut33 := cut_from (P := Try.prog) 25 49 .i64 Try.underlying25 hi033 3 hsz33 A0 l0.length c0 x5_1 q033 q33; have hr33 := Kd.C_drop (m := (x5_1 : Int).toNat) (c := c0) hC33 (by omega) hroom33; obtain ⟨A33, hA33⟩ : ∃ A1, A1 = (if c0 = (x5_1 : Int).toNat then A0 else (A0 : Option Addr).map (·.add ((x5_1 : Int).toNat * 3))) := ⟨_, rfl⟩; obtain ⟨c33, hc33⟩ : ∃ c1, c1 = c0 - (x5_1 : Int).toNat := ⟨_, rfl⟩; have hy33 : y154.length = l0.length - (x5_1 : Int).toNat := (by rw [Ny154.out, List.length_drop] <;> omega); rw [show (l0).drop (x5_1 : Int).toNat = y154 from Ny154.out.symm] at hr33; replace hr33 : Kd.C k49 _ A33 y154.length y154 := (by rw [hA33]; exact hr33); rw [← hy33, ← hA33, ← hc33] at hcut33; have HR157 := Aside0.mk hr33; have HC157 := Aside0.mk (show y154.length ≤ c33 from by rw [hy33, hc33]; exact Nat.sub_le_sub_right hroom33 _); clear hr33 hC33 hroom33 hi033 hsz33 hc33; have KY33 := Aside0.mk hy33; have KA33 := Aside0.mk hA33; (try clear hy33); (try clear hA33); replace q33 := eq_true q33) | ((with_reducible refine gate_builtin (b := .append) (xs := #[.tmp 32, .tmp 35]) rfl ?_); at_builtin; refine Kd.R_append_rows k49 (w0 := w) w.heap.size rfl (.tmp 32) (.tmp 35) 25 49 (.agg #[(.string ⟨#[]⟩), (.int .i64 0), (.string ⟨#[]⟩)]) 40 rfl Try.underlying25 info49 rfl (by decide) (by omega) v152 y151 y154 _ _ _ (fun k_ => k_ ≠ gb125) (fun _ => False) rfl rfl ?aO ?aR (fun _ _ h => h) (fun _ h => h.elim) ?aF ?aB ?aS ?aL ?_; (case aR => repeat (first | exact (Kd.C_below HR157.out HB.out) | exact (Kd.C_drewN (Kd.C_below HR157.out HB.out) _) | exact (Kd.C_drew (Kd.C_below HR157.out HB.out)) | exact (Kd.C_alloc (Kd.C_below HR157.out HB.out) _) | (with_reducible refine Kd.C_alloc ?_ _) | (with_reducible refine Kd.C_drewN ?_ _) | (with_reducible refine Kd.C_drew ?_))); (case aB => exact (lV1 GE125)); (case aF => exact (fun k_ hk => Kd.freshB (g := gb125) (o := .cells #[.string a1_0, .int .i64 a1_1, .string a1_2] 49 (0, 0)) (bV BK125) k_ hk)); (case aO => exact (rU HO153.out)); (case aS => exact (below_size (lV1 GE125))); (case aL => have := LMc28.out; omega); intro v159 w34 ho hb hg hat; rw [← Ny158.out] at ho; replace BK125 := Aside0.mk (blk_grown (g := gb125) (o := .cells #[.string a1_0, .int .i64 a1_1, .string a1_2] 49 (0, 0)) (bV BK125) hg (Kd.R_away HO153.out (fun _ hk => hk))); replace HB := Aside0.mk hb; have HO160 := Aside0.mk ho; clear HO153; clear ho hb hg hat)))
         go_ret
         exact ⟨_, eE, by (with_reducible repeat (first | apply Kd.R_alloc | apply Kd.R_drewN | apply Kd.R_drew)); exact Kd.R_mono HO160.out (fun _ hk => trivial), lV1 GE125⟩
        ·rw [if_neg c28] at H
         exact absurd H (by simp)
       ·rw [if_neg c25] at H
        exact absurd H (by simp)
      ·rw [if_neg c24] at H
       exact absurd H (by simp)
     ·rw [if_neg c23] at H
      exact absurd H (by simp)
    ·rw [if_neg c22] at H
     exact absurd H (by simp)
def spec_l22Drop.f (l0 : List (S49)) (a1 : Int) : Option ((List (S49))) := if 0 ≤ a1 then (if a1 ≤ (l0.length : Int) then ((some (l0.take (a1 : Int).toNat : List (S49))).bind fun y161 => (if ([] : List (S49)).length + y161.length < 3518437208883 then ((some (([] : List (S49)) ++ y161 : List (S49))).bind fun y165 => (if 0 ≤ (wrap64 (a1 + 1)) then (if (wrap64 (a1 + 1)) ≤ (l0.length : Int) then ((some (l0.drop ((wrap64 (a1 + 1)) : Int).toNat : List (S49))).bind fun y168 => (if y165.length + y168.length < 3518437208883 then (some (y165 ++ y168)) else (none))) else (none)) else (none))) else (none))) else (none)) else (none)
set_option maxHeartbeats 8000000 in
set_option maxRecDepth 100000 in
theorem spec_l22Drop.calls (A0 : Option Addr) (c0 : Nat) (l0 : List (S49)) (a1 : Int) (r : List (S49)) (w : World) (hr0 : Kd.C k49 w A0 l0.length l0) (hc0 : l0.length ≤ c0) (h : spec_l22Drop.f l0 a1 = some r) :
  Calls Try.prog 33 #[.slice A0 l0.length c0, .int .i64 a1] w fun e w' => ∃ v0_ : Value, e = .returned (v0_) ∧ Kd.R k49 49 w' w.heap.size (fun _ => True) v0_ r ∧ Below w.heap.size w w' := by
 have HR0 := Aside0.mk hr0
 have HC0 := Aside0.mk hc0
 clear hr0 hc0
 have HB := Aside0.mk (Below.refl w.heap.size w)
 have H : (if 0 ≤ a1 then (if a1 ≤ (l0.length : Int) then ((some (l0.take (a1 : Int).toNat : List (S49))).bind fun y161 => (if ([] : List (S49)).length + y161.length < 3518437208883 then ((some (([] : List (S49)) ++ y161 : List (S49))).bind fun y165 => (if 0 ≤ (wrap64 (a1 + 1)) then (if (wrap64 (a1 + 1)) ≤ (l0.length : Int) then ((some (l0.drop ((wrap64 (a1 + 1)) : Int).toNat : List (S49))).bind fun y168 => (if y165.length + y168.length < 3518437208883 then (some (y165 ++ y168)) else (none))) else (none)) else (none))) else (none))) else (none)) else (none)) = some r := h
 clear h
 by_cases c3 : 0 ≤ a1
 ·rw [if_pos c3] at H
  have c3b0 := eq_true c3
  have c3b1 : decide (0 ≤ a1) = true := decide_eq_true c3
  clear c3
  by_cases c4 : a1 ≤ (l0.length : Int)
  ·rw [if_pos c4] at H
   have c4b0 := eq_true c4
   have c4b1 : decide (a1 ≤ (l0.length : Int)) = true := decide_eq_true c4
   clear c4
   obtain ⟨y161, hy161⟩ : ∃ y_ : List (S49), y_ = (l0.take (a1 : Int).toNat) := ⟨_, rfl⟩
   replace H : (if ([] : List (S49)).length + y161.length < 3518437208883 then ((some (([] : List (S49)) ++ y161 : List (S49))).bind fun y165 => (if 0 ≤ (wrap64 (a1 + 1)) then (if (wrap64 (a1 + 1)) ≤ (l0.length : Int) then ((some (l0.drop ((wrap64 (a1 + 1)) : Int).toNat : List (S49))).bind fun y168 => (if y165.length + y168.length < 3518437208883 then (some (y165 ++ y168)) else (none))) else (none)) else (none))) else (none)) = some r := by first | (rw [hy161]; with_reducible exact H) | (have H2_ := (Option.bind_some _ _).symm.trans H; rw [hy161]; with_reducible exact H2_) | (have H2_ := (Option.bind_some _ _).symm.trans H; with_reducible exact H2_) | with_reducible exact H | (rw [hy161]; exact H) | exact H
   have Ny161 := Aside0.mk hy161
   clear hy161
   by_cases c5 : ([] : List (S49)).length + y161.length < 3518437208883
   ·rw [if_pos c5] at H
    have LMc5 := Aside0.mk c5
    clear c5
    obtain ⟨y165, hy165⟩ : ∃ y_ : List (S49), y_ = (([] : List (S49)) ++ y161) := ⟨_, rfl⟩
    replace H : (if 0 ≤ (wrap64 (a1 + 1)) then (if (wrap64 (a1 + 1)) ≤ (l0.length : Int) then ((some (l0.drop ((wrap64 (a1 + 1)) : Int).toNat : List (S49))).bind fun y168 => (if y165.length + y168.length < 3518437208883 then (some (y165 ++ y168)) else (none))) else (none)) else (none)) = some r := by first | (rw [hy165]; with_reducible exact H) | (have H2_ := (Option.bind_some _ _).symm.trans H; rw [hy165]; with_reducible exact H2_) | (have H2_ := (Option.bind_some _ _).symm.trans H; with_reducible exact H2_) | with_reducible exact H | (rw [hy165]; exact H) | exact H
    have Ny165 := Aside0.mk hy165
    clear hy165
    obtain ⟨ji6, hji6⟩ : ∃ j_ : Int, (wrap64 (a1 + 1)) = j_ := ⟨_, rfl⟩
    replace H : (if 0 ≤ (ji6) then (if (ji6) ≤ (l0.length : Int) then ((some (l0.drop ((ji6) : Int).toNat : List (S49))).bind fun y168 => (if y165.length + y168.length < 3518437208883 then (some (y165 ++ y168)) else (none))) else (none)) else (none)) = some r := by first | (rw [hji6] at H; exact H) | (simp only [hji6] at H ⊢; exact H)
    have hji6w : (IntKind.i64.wrap (a1 + 1)) = ji6 := (i64_w _).trans hji6
    by_cases c7 : 0 ≤ (ji6)
    ·rw [if_pos c7] at H
     have c7b0 := eq_true c7
     have c7b1 : decide (0 ≤ (ji6)) = true := decide_eq_true c7
     clear c7
     by_cases c8 : (ji6) ≤ (l0.length : Int)
     ·rw [if_pos c8] at H
      have c8b0 := eq_true c8
      have c8b1 : decide ((ji6) ≤ (l0.length : Int)) = true := decide_eq_true c8
      clear c8
      obtain ⟨y168, hy168⟩ : ∃ y_ : List (S49), y_ = (l0.drop ((ji6) : Int).toNat) := ⟨_, rfl⟩
      replace H : (if y165.length + y168.length < 3518437208883 then (some (y165 ++ y168)) else (none)) = some r := by first | (rw [hy168]; with_reducible exact H) | (have H2_ := (Option.bind_some _ _).symm.trans H; rw [hy168]; with_reducible exact H2_) | (have H2_ := (Option.bind_some _ _).symm.trans H; with_reducible exact H2_) | with_reducible exact H | (rw [hy168]; exact H) | exact H
      have Ny168 := Aside0.mk hy168
      clear hy168
      by_cases c9 : y165.length + y168.length < 3518437208883
      ·rw [if_pos c9] at H
       have LMc9 := Aside0.mk c9
       clear c9
       obtain ⟨y172, hy172⟩ : ∃ y_ : List (S49), y_ = (y165 ++ y168) := ⟨_, rfl⟩
       replace H : (some y172) = some r := by first | (rw [hy172]; with_reducible exact H) | (have H2_ := (Option.bind_some _ _).symm.trans H; rw [hy172]; with_reducible exact H2_) | (have H2_ := (Option.bind_some _ _).symm.trans H; with_reducible exact H2_) | with_reducible exact H | (rw [hy172]; exact H) | exact H
       have Ny172 := Aside0.mk hy172
       clear hy172
       obtain rfl := Option.some.inj H
       have q10 : (a1 : Int) ≤ ((l0.length : Int) : Int) := of_decide_eq_true hE
       obtain ⟨i010, hi010, _, hsz10, _⟩ := info_parts info49
       have hroom10 : l0.length ≤ c0 := HC0.out
       have hC10 : Kd.C k49 _ A0 l0.length l0 := HR0.out
       have hcut10 := cut_to (P := Try.prog) 25 49 .i64 Try.underlying25 hi010 A0 l0.length c0 a1 (of_decide_eq_true hE) q10 hroom10
       have hr10 := Kd.C_take (m := (a1 : Int).toNat) hC10 (by omega)
       have hy10 : y161.length = (a1 : Int).toNat := (by rw [Ny161.out, List.length_take]; omega)
       rw [← Ny161.out] at hr10
       rw [← hy10] at hcut10
       have HR164 := Aside0.mk hr10
       have HC164 := Aside0.mk (show y161.length ≤ c0 from by omega)
       clear hr10 hC10 hroom10 hi010 hsz10
       have KY10 := Aside0.mk hy10
       clear hy10
       replace q10 := eq_true q10
       go_enter Try.func33, Try.ntmps33
       go_wp2_with (first | ((with_reducible refine gate_builtin (b := .append) (xs := #[.tmp 6, .tmp 9]) rfl ?_); at_builtin; refine Kd.R_append_rows k49 (w0 := w) w.heap.size rfl (.tmp 6) (.tmp 9) 25 49 (.agg #[(.string ⟨#[]⟩), (.int .i64 0), (.string ⟨#[]⟩)]) 40 rfl Try.underlying25 info49 rfl (by decide) (by omega) (.slice none 0 0) ([] : List (S49)) y161 _ _ _ (fun _ => True) (fun _ => False) rfl rfl ?aO ?aR (fun _ _ h => h) (fun _ h => h.elim) ?aF ?aB ?aS ?aL ?_; (case aR => repeat (first | exact HR164.out | exact (Kd.C_drewN (HR164.out) _) | exact (Kd.C_drew (HR164.out)) | exact (Kd.C_alloc (HR164.out) _) | (with_reducible refine Kd.C_alloc ?_ _) | (with_reducible refine Kd.C_drewN ?_ _) | (with_reducible refine Kd.C_drew ?_))); (case aB => exact (lU)); (case aF => exact (fun _ _ => trivial)); (case aO => exact ((Kd.R_nil _ _ _ _ (fun _ => True)))); (case aS => exact (below_size (lU))); (case aL => have := LMc5.out; omega); intro v166 w11 ho hb hg hat; rw [← Ny165.out] at ho; replace HB := Aside0.mk hb; have HO167 := Aside0.mk ho; clear ho hb hg hat; have q12 : ((ji6) : Int) ≤ ((l0.length : Int) : Int) := of_decide_eq_true hE; obtain ⟨i012, hi012, _, hsz12, _⟩ := info_parts info49; have hroom12 : l0.length ≤ c0 := HC0.out; have hC12 : Kd.C k49 _ A0 l0.length l0 := HR0.out; have q012 : (0 : Int) ≤ ((ji6) : Int) := of_decide_eq_true hE; have hcut12 := cut_from (P := Try.prog) 25 49 .i64 Try.underlying25 hi012 3 hsz12 A0 l0.length c0 (ji6) q012 q12; have hr12 := Kd.C_drop (m := ((ji6) : Int).toNat) (c := c0) hC12 (by omega) hroom12; obtain ⟨A12, hA12⟩ : ∃ A1, A1 = (if c0 = ((ji6) : Int).toNat then A0 else (A0 : Option Addr).map (·.add (((ji6) : Int).toNat * 3))) := ⟨_, rfl⟩; obtain ⟨c12, hc12⟩ : ∃ c1, c1 = c0 - ((ji6) : Int).toNat := ⟨_, rfl⟩; have hy12 : y168.length = l0.length - ((ji6) : Int).toNat := (by rw [Ny168.out, List.length_drop] <;> omega); rw [show (l0).drop ((ji6) : Int).toNat = y168 from Ny168.out.symm] at hr12; replace hr12 : Kd.C k49 _ A12 y168.length y168 := (by rw [hA12]; exact hr12); rw [← hy12, ← hA12, ← hc12] at hcut12; have HR171 := Aside0.mk hr12; have HC171 := Aside0.mk (show y168.length ≤ c12 from by rw [hy12, hc12]; exact Nat.sub_le_sub_right hroom12 _); clear hr12 hC12 hroom12 hi012 hsz12 hc12; have KY12 := Aside0.mk hy12; have KA12 := Aside0.mk hA12; (try clear hy12); (try clear hA12); replace q12 := eq_true q12) | ((with_reducible refine gate_builtin (b := .append) (xs := #[.tmp 11, .tmp 15]) rfl ?_); at_builtin; refine Kd.R_append_rows k49 (w0 := w) w.heap.size rfl (.tmp 11) (.tmp 15) 25 49 (.agg #[(.string ⟨#[]⟩), (.int .i64 0), (.string ⟨#[]⟩)]) 40 rfl Try.underlying25 info49 rfl (by decide) (by omega) v166 y165 y168 _ _ _ (fun _ => True) (fun _ => False) rfl rfl ?aO ?aR (fun _ _ h => h) (fun _ h => h.elim) ?aF ?aB ?aS ?aL ?_; (case aR => repeat (first | exact (Kd.C_below HR171.out HB.out) | exact (Kd.C_drewN (Kd.C_below HR171.out HB.out) _) | exact (Kd.C_drew (Kd.C_below HR171.out HB.out)) | exact (Kd.C_alloc (Kd.C_below HR171.out HB.out) _) | (with_reducible refine Kd.C_alloc ?_ _) | (with_reducible refine Kd.C_drewN ?_ _) | (with_reducible refine Kd.C_drew ?_))); (case aB => exact (lU)); (case aF => exact (fun _ _ => trivial)); (case aO => exact (rU HO167.out)); (case aS => exact (below_size (lU))); (case aL => have := LMc9.out; omega); intro v173 w13 ho hb hg hat; rw [← Ny172.out] at ho; replace HB := Aside0.mk hb; have HO174 := Aside0.mk ho; clear HO167; clear ho hb hg hat))
       go_ret
       exact ⟨_, by first | rfl | (simp [errW_none, errW_some] <;> rfl) | (simp only [← hji6]; first | rfl | (simp [errW_none, errW_some] <;> rfl)) | (simp [*, errW_none, errW_some] <;> rfl), by (with_reducible repeat (first | apply Kd.R_alloc | apply Kd.R_drewN | apply Kd.R_drew)); exact HO174.out, lU⟩
      ·rw [if_neg c9] at H
       exact absurd H (by simp)
     ·rw [if_neg c8] at H
      exact absurd H (by simp)
    ·rw [if_neg c7] at H
     exact absurd H (by simp)
   ·rw [if_neg c5] at H
    exact absurd H (by simp)
  ·rw [if_neg c4] at H
   exact absurd H (by simp)
 ·rw [if_neg c3] at H
  exact absurd H (by simp)
def spec_l1Times.f (a0 : Int) (a1 : Int) : Option (Int × Int) := some (IntKind.u64.wrap ((IntKind.u64.wrap ((IntKind.u64.wrap ((IntKind.u64.wrap (Int.tdiv a0 4294967296)) * (IntKind.u64.wrap (Int.tdiv a1 4294967296)))) + (IntKind.u64.wrap (Int.tdiv (IntKind.u64.wrap ((IntKind.u64.wrap ((IntKind.u64.wrap (Int.tdiv a0 4294967296)) * (Int.tmod a1 4294967296))) + (IntKind.u64.wrap (Int.tdiv (IntKind.u64.wrap ((Int.tmod a0 4294967296) * (Int.tmod a1 4294967296))) 4294967296)))) 4294967296)))) + (IntKind.u64.wrap (Int.tdiv (IntKind.u64.wrap ((IntKind.u64.wrap ((Int.tmod a0 4294967296) * (IntKind.u64.wrap (Int.tdiv a1 4294967296)))) + (Int.tmod (IntKind.u64.wrap ((IntKind.u64.wrap ((IntKind.u64.wrap (Int.tdiv a0 4294967296)) * (Int.tmod a1 4294967296))) + (IntKind.u64.wrap (Int.tdiv (IntKind.u64.wrap ((Int.tmod a0 4294967296) * (Int.tmod a1 4294967296))) 4294967296)))) 4294967296))) 4294967296))), Go.bits .or .u64 (IntKind.u64.wrap ((IntKind.u64.wrap ((IntKind.u64.wrap ((Int.tmod a0 4294967296) * (IntKind.u64.wrap (Int.tdiv a1 4294967296)))) + (Int.tmod (IntKind.u64.wrap ((IntKind.u64.wrap ((IntKind.u64.wrap (Int.tdiv a0 4294967296)) * (Int.tmod a1 4294967296))) + (IntKind.u64.wrap (Int.tdiv (IntKind.u64.wrap ((Int.tmod a0 4294967296) * (Int.tmod a1 4294967296))) 4294967296)))) 4294967296))) * 4294967296)) (Int.tmod (IntKind.u64.wrap ((Int.tmod a0 4294967296) * (Int.tmod a1 4294967296))) 4294967296))
set_option maxHeartbeats 8000000 in
set_option maxRecDepth 100000 in
theorem spec_l1Times.calls (a0 : Int) (a1 : Int) (r1 : Int) (r2 : Int) (w : World) (h : spec_l1Times.f a0 a1 = some (r1, r2)) :
  Calls Try.prog 46 #[.int .u64 a0, .int .u64 a1] w fun e w' => e = .returned (.agg #[.int .u64 r1, .int .u64 r2]) ∧ Below w.heap.size w w' := by
 have hu78 := Try.underlying78
 have HB := Aside0.mk (Below.refl w.heap.size w)
 have H : (some (IntKind.u64.wrap ((IntKind.u64.wrap ((IntKind.u64.wrap ((IntKind.u64.wrap (Int.tdiv a0 4294967296)) * (IntKind.u64.wrap (Int.tdiv a1 4294967296)))) + (IntKind.u64.wrap (Int.tdiv (IntKind.u64.wrap ((IntKind.u64.wrap ((IntKind.u64.wrap (Int.tdiv a0 4294967296)) * (Int.tmod a1 4294967296))) + (IntKind.u64.wrap (Int.tdiv (IntKind.u64.wrap ((Int.tmod a0 4294967296) * (Int.tmod a1 4294967296))) 4294967296)))) 4294967296)))) + (IntKind.u64.wrap (Int.tdiv (IntKind.u64.wrap ((IntKind.u64.wrap ((Int.tmod a0 4294967296) * (IntKind.u64.wrap (Int.tdiv a1 4294967296)))) + (Int.tmod (IntKind.u64.wrap ((IntKind.u64.wrap ((IntKind.u64.wrap (Int.tdiv a0 4294967296)) * (Int.tmod a1 4294967296))) + (IntKind.u64.wrap (Int.tdiv (IntKind.u64.wrap ((Int.tmod a0 4294967296) * (Int.tmod a1 4294967296))) 4294967296)))) 4294967296))) 4294967296))), Go.bits .or .u64 (IntKind.u64.wrap ((IntKind.u64.wrap ((IntKind.u64.wrap ((Int.tmod a0 4294967296) * (IntKind.u64.wrap (Int.tdiv a1 4294967296)))) + (Int.tmod (IntKind.u64.wrap ((IntKind.u64.wrap ((IntKind.u64.wrap (Int.tdiv a0 4294967296)) * (Int.tmod a1 4294967296))) + (IntKind.u64.wrap (Int.tdiv (IntKind.u64.wrap ((Int.tmod a0 4294967296) * (Int.tmod a1 4294967296))) 4294967296)))) 4294967296))) * 4294967296)) (Int.tmod (IntKind.u64.wrap ((Int.tmod a0 4294967296) * (Int.tmod a1 4294967296))) 4294967296))) = some (r1, r2) := h
 clear h
 simp only [Option.some.injEq, Prod.mk.injEq] at H
 obtain ⟨rfl, rfl⟩ := H
 go_enter Try.func46, Try.ntmps46
 go_wp2_with (first | ((with_reducible refine gate_dst (N := 4) rfl ?_); refine box_event rfl (N := 4) rfl (cs := #[.int .u64 0, .int .u64 0]) (t := 78) sE ?_; intro gb175 hg w3 hbox hb; have BK175 := Aside0.mk hbox; have GW175 := gS w hg (lU); have GE175 := gS w hg (lU); replace HB := bH (lU) hb; clear hb hbox hg; have hcz4_0 := cz BK175 0 (.int .u64 0); have hcz4_1 := cz BK175 1 (.int .u64 0); have hfz4_0 := fz BK175 0; have hfz4_1 := fz BK175 1) | ((with_reducible refine gate_store (t := 78) (p := 4) rfl ?_); refine store_event (t := 78) (p := 4) (v := ?vo_w5) (w1 := ((w3.setCell ⟨gb175, 0, none⟩ (.int .u64 (IntKind.u64.wrap ((IntKind.u64.wrap ((IntKind.u64.wrap ((IntKind.u64.wrap (Int.tdiv a0 4294967296)) * (IntKind.u64.wrap (Int.tdiv a1 4294967296)))) + (IntKind.u64.wrap (Int.tdiv (IntKind.u64.wrap ((IntKind.u64.wrap ((IntKind.u64.wrap (Int.tdiv a0 4294967296)) * (Int.tmod a1 4294967296))) + (IntKind.u64.wrap (Int.tdiv (IntKind.u64.wrap ((Int.tmod a0 4294967296) * (Int.tmod a1 4294967296))) 4294967296)))) 4294967296)))) + (IntKind.u64.wrap (Int.tdiv (IntKind.u64.wrap ((IntKind.u64.wrap ((Int.tmod a0 4294967296) * (IntKind.u64.wrap (Int.tdiv a1 4294967296)))) + (Int.tmod (IntKind.u64.wrap ((IntKind.u64.wrap ((IntKind.u64.wrap (Int.tdiv a0 4294967296)) * (Int.tmod a1 4294967296))) + (IntKind.u64.wrap (Int.tdiv (IntKind.u64.wrap ((Int.tmod a0 4294967296) * (Int.tmod a1 4294967296))) 4294967296)))) 4294967296))) 4294967296)))))).setCell ⟨gb175, 1, none⟩ (.int .u64 (Go.bits .or .u64 (IntKind.u64.wrap ((IntKind.u64.wrap ((IntKind.u64.wrap ((Int.tmod a0 4294967296) * (IntKind.u64.wrap (Int.tdiv a1 4294967296)))) + (Int.tmod (IntKind.u64.wrap ((IntKind.u64.wrap ((IntKind.u64.wrap (Int.tdiv a0 4294967296)) * (Int.tmod a1 4294967296))) + (IntKind.u64.wrap (Int.tdiv (IntKind.u64.wrap ((Int.tmod a0 4294967296) * (Int.tmod a1 4294967296))) 4294967296)))) 4294967296))) * 4294967296)) (Int.tmod (IntKind.u64.wrap ((Int.tmod a0 4294967296) * (Int.tmod a1 4294967296))) 4294967296))))) ?hg ?ho ?hn ?hr ?_; (case ho => rfl); (case hg => rfl); (case hn => rfl); (case hr => first | (go_simp; done) | (go_simp; rfl) | (have hq0_ := (blk_cell BK175.out 0).trans (show _ = some _ from rfl); have hf0_ := blk_frozen BK175.out 0; have hq1_ := (blk_cell BK175.out 1).trans (show _ = some _ from rfl); have hf1_ := blk_frozen BK175.out 1; first | (go_simp; done) | (go_simp; rfl))); intro w5 hw; replace BK175 : Aside0 (w5.heap[gb175]? = some (.cells #[.int .u64 (IntKind.u64.wrap ((IntKind.u64.wrap ((IntKind.u64.wrap ((IntKind.u64.wrap (Int.tdiv a0 4294967296)) * (IntKind.u64.wrap (Int.tdiv a1 4294967296)))) + (IntKind.u64.wrap (Int.tdiv (IntKind.u64.wrap ((IntKind.u64.wrap ((IntKind.u64.wrap (Int.tdiv a0 4294967296)) * (Int.tmod a1 4294967296))) + (IntKind.u64.wrap (Int.tdiv (IntKind.u64.wrap ((Int.tmod a0 4294967296) * (Int.tmod a1 4294967296))) 4294967296)))) 4294967296)))) + (IntKind.u64.wrap (Int.tdiv (IntKind.u64.wrap ((IntKind.u64.wrap ((Int.tmod a0 4294967296) * (IntKind.u64.wrap (Int.tdiv a1 4294967296)))) + (Int.tmod (IntKind.u64.wrap ((IntKind.u64.wrap ((IntKind.u64.wrap (Int.tdiv a0 4294967296)) * (Int.tmod a1 4294967296))) + (IntKind.u64.wrap (Int.tdiv (IntKind.u64.wrap ((Int.tmod a0 4294967296) * (Int.tmod a1 4294967296))) 4294967296)))) 4294967296))) 4294967296)))), .int .u64 (Go.bits .or .u64 (IntKind.u64.wrap ((IntKind.u64.wrap ((IntKind.u64.wrap ((Int.tmod a0 4294967296) * (IntKind.u64.wrap (Int.tdiv a1 4294967296)))) + (Int.tmod (IntKind.u64.wrap ((IntKind.u64.wrap ((IntKind.u64.wrap (Int.tdiv a0 4294967296)) * (Int.tmod a1 4294967296))) + (IntKind.u64.wrap (Int.tdiv (IntKind.u64.wrap ((Int.tmod a0 4294967296) * (Int.tmod a1 4294967296))) 4294967296)))) 4294967296))) * 4294967296)) (Int.tmod (IntKind.u64.wrap ((Int.tmod a0 4294967296) * (Int.tmod a1 4294967296))) 4294967296))] 78 (0, 0))) := ⟨(by rw [hw]; exact (by refine bU ?_; refine blk_put (cs := #[.int .u64 (IntKind.u64.wrap ((IntKind.u64.wrap ((IntKind.u64.wrap ((IntKind.u64.wrap (Int.tdiv a0 4294967296)) * (IntKind.u64.wrap (Int.tdiv a1 4294967296)))) + (IntKind.u64.wrap (Int.tdiv (IntKind.u64.wrap ((IntKind.u64.wrap ((IntKind.u64.wrap (Int.tdiv a0 4294967296)) * (Int.tmod a1 4294967296))) + (IntKind.u64.wrap (Int.tdiv (IntKind.u64.wrap ((Int.tmod a0 4294967296) * (Int.tmod a1 4294967296))) 4294967296)))) 4294967296)))) + (IntKind.u64.wrap (Int.tdiv (IntKind.u64.wrap ((IntKind.u64.wrap ((Int.tmod a0 4294967296) * (IntKind.u64.wrap (Int.tdiv a1 4294967296)))) + (Int.tmod (IntKind.u64.wrap ((IntKind.u64.wrap ((IntKind.u64.wrap (Int.tdiv a0 4294967296)) * (Int.tmod a1 4294967296))) + (IntKind.u64.wrap (Int.tdiv (IntKind.u64.wrap ((Int.tmod a0 4294967296) * (Int.tmod a1 4294967296))) 4294967296)))) 4294967296))) 4294967296)))), .int .u64 0]) ?_ 1 _ rfl; refine bU ?_; refine blk_put (cs := #[.int .u64 0, .int .u64 0]) ?_ 0 _ rfl; refine bU ?_; exact BK175.out))⟩; replace HB : Aside0 (Below w.heap.size w w5) := ⟨(by rw [hw]; exact (lV1 GE175))⟩; clear hw))
 refine bodyPost_ret (results_cell_row rfl _ _ gb175 78 #[.int .u64 (IntKind.u64.wrap ((IntKind.u64.wrap ((IntKind.u64.wrap ((IntKind.u64.wrap (Int.tdiv a0 4294967296)) * (IntKind.u64.wrap (Int.tdiv a1 4294967296)))) + (IntKind.u64.wrap (Int.tdiv (IntKind.u64.wrap ((IntKind.u64.wrap ((IntKind.u64.wrap (Int.tdiv a0 4294967296)) * (Int.tmod a1 4294967296))) + (IntKind.u64.wrap (Int.tdiv (IntKind.u64.wrap ((Int.tmod a0 4294967296) * (Int.tmod a1 4294967296))) 4294967296)))) 4294967296)))) + (IntKind.u64.wrap (Int.tdiv (IntKind.u64.wrap ((IntKind.u64.wrap ((Int.tmod a0 4294967296) * (IntKind.u64.wrap (Int.tdiv a1 4294967296)))) + (Int.tmod (IntKind.u64.wrap ((IntKind.u64.wrap ((IntKind.u64.wrap (Int.tdiv a0 4294967296)) * (Int.tmod a1 4294967296))) + (IntKind.u64.wrap (Int.tdiv (IntKind.u64.wrap ((Int.tmod a0 4294967296) * (Int.tmod a1 4294967296))) 4294967296)))) 4294967296))) 4294967296)))), .int .u64 (Go.bits .or .u64 (IntKind.u64.wrap ((IntKind.u64.wrap ((IntKind.u64.wrap ((Int.tmod a0 4294967296) * (IntKind.u64.wrap (Int.tdiv a1 4294967296)))) + (Int.tmod (IntKind.u64.wrap ((IntKind.u64.wrap ((IntKind.u64.wrap (Int.tdiv a0 4294967296)) * (Int.tmod a1 4294967296))) + (IntKind.u64.wrap (Int.tdiv (IntKind.u64.wrap ((Int.tmod a0 4294967296) * (Int.tmod a1 4294967296))) 4294967296)))) 4294967296))) * 4294967296)) (Int.tmod (IntKind.u64.wrap ((Int.tmod a0 4294967296) * (Int.tmod a1 4294967296))) 4294967296))] (0, 0) _ rfl (bV BK175) Try.underlying78 rfl (by kernel_rfl)) rfl ?_
 exact ⟨eE, lV1 GE175⟩
def spec_l1Abs.f (a0 : Int) : Option (Int) := if a0 < 0 then (some (wrap64 (-a0))) else (some a0)
set_option maxHeartbeats 8000000 in
set_option maxRecDepth 100000 in
theorem spec_l1Abs.calls (a0 : Int) (r : Int) (w : World) (h : spec_l1Abs.f a0 = some r) :
  Calls Try.prog 47 #[.int .i64 a0] w fun e w' => e = .returned (.int .i64 r) ∧ Drawn0 w w' := by
 have H : (if a0 < 0 then (some (wrap64 (-a0))) else (some a0)) = some r := h
 clear h
 by_cases c2 : a0 < 0
 ·rw [if_pos c2] at H
  have c2b0 : decide (a0 < 0) = true := decide_eq_true c2
  clear c2
  obtain rfl := Option.some.inj H
  go_enter Try.func47, Try.ntmps47
  go_wp2
  go_ret
  exact ⟨tE, by repeat (first | exact Drawn0.refl _ | apply Drawn0.step)⟩
 ·rw [if_neg c2] at H
  have c2b0 : decide (a0 < 0) = false := decide_eq_false c2
  clear c2
  obtain rfl := Option.some.inj H
  go_enter Try.func47, Try.ntmps47
  go_wp2
  go_ret
  exact ⟨tE, by repeat (first | exact Drawn0.refl _ | apply Drawn0.step)⟩
def spec_l22Size.f (a0 : Int) : Option (Int) := if a0 < 0 then (some (IntKind.u64.wrap ((IntKind.u64.wrap (wrap64 (-(wrap64 (a0 + 1))))) + 1))) else (some (IntKind.u64.wrap (a0)))
set_option maxHeartbeats 8000000 in
set_option maxRecDepth 100000 in
theorem spec_l22Size.calls (a0 : Int) (r : Int) (w : World) (h : spec_l22Size.f a0 = some r) :
  Calls Try.prog 48 #[.int .i64 a0] w fun e w' => e = .returned (.int .u64 r) ∧ Drawn0 w w' := by
 have H : (if a0 < 0 then (some (IntKind.u64.wrap ((IntKind.u64.wrap (wrap64 (-(wrap64 (a0 + 1))))) + 1))) else (some (IntKind.u64.wrap (a0)))) = some r := h
 clear h
 by_cases c2 : a0 < 0
 ·rw [if_pos c2] at H
  have c2b0 : decide (a0 < 0) = true := decide_eq_true c2
  clear c2
  obtain rfl := Option.some.inj H
  go_enter Try.func48, Try.ntmps48
  go_wp2
  go_ret
  exact ⟨tE, by repeat (first | exact Drawn0.refl _ | apply Drawn0.step)⟩
 ·rw [if_neg c2] at H
  have c2b0 : decide (a0 < 0) = false := decide_eq_false c2
  clear c2
  obtain rfl := Option.some.inj H
  go_enter Try.func48, Try.ntmps48
  go_wp2
  go_ret
  exact ⟨tE, by repeat (first | exact Drawn0.refl _ | apply Drawn0.step)⟩
def spec_l22Turn.f (a0_0 : Int) (a0_1 : Int) (a0_2 : ByteArray) (a0_3 : ByteArray) (a0_4 : Int) (a1 : Int) : Option (Int × Bool) := if a0_1 = 3 then ((spec_l1Abs.f a0_4).bind fun t177 => ((spec_l22Size.f a1).bind fun t178 => ((spec_l1Times.f (IntKind.u64.wrap (t177)) t178).bind fun bt179 => (if bt179.1 > 0 then (some (0, false)) else (if bt179.2 > 1000000000000000 then (some (0, false)) else (some (wrap64 (a0_4 * a1), true))))))) else ((spec_l1In.f a1 (-2000000000000000) 2000000000000000).bind fun t182 => (if t182 = true then ((spec_l1In.f (wrap64 (a1 + a0_4)) (-1000000000000000) 1000000000000000).bind fun t183 => (some (wrap64 (a1 + a0_4), t183))) else (some (0, false))))
set_option maxHeartbeats 8000000 in
set_option maxRecDepth 100000 in
theorem spec_l22Turn.calls (a0_0 : Int) (a0_1 : Int) (a0_2 : ByteArray) (a0_3 : ByteArray) (a0_4 : Int) (a1 : Int) (r1 : Int) (r2 : Bool) (w : World) (h : spec_l22Turn.f a0_0 a0_1 a0_2 a0_3 a0_4 a1 = some (r1, r2)) :
  Calls Try.prog 34 #[.agg #[.int .i64 a0_0, .int .i64 a0_1, .string a0_2, .string a0_3, .int .i64 a0_4], .int .i64 a1] w fun e w' => e = .returned (.tuple #[.int .i64 r1, .bool r2]) ∧ Below w.heap.size w w' := by
 have hu45 := Try.underlying45
 have hu78 := Try.underlying78
 have HB := Aside0.mk (Below.refl w.heap.size w)
 have H : (if a0_1 = 3 then ((spec_l1Abs.f a0_4).bind fun t177 => ((spec_l22Size.f a1).bind fun t178 => ((spec_l1Times.f (IntKind.u64.wrap (t177)) t178).bind fun bt179 => (if bt179.1 > 0 then (some (0, false)) else (if bt179.2 > 1000000000000000 then (some (0, false)) else (some (wrap64 (a0_4 * a1), true))))))) else ((spec_l1In.f a1 (-2000000000000000) 2000000000000000).bind fun t182 => (if t182 = true then ((spec_l1In.f (wrap64 (a1 + a0_4)) (-1000000000000000) 1000000000000000).bind fun t183 => (some (wrap64 (a1 + a0_4), t183))) else (some (0, false))))) = some (r1, r2) := h
 clear h
 by_cases c3 : a0_1 = 3
 ·rw [if_pos c3] at H
  have c3b0 : (a0_1 == 3) = true := beq_iff_eq.mpr c3
  have c3b1 : (a0_1 != 3) = false := bne_eq_false_iff_eq.mpr c3
  clear c3
  replace H := Option.bind_eq_some_iff.mp H
  obtain ⟨t177, A40, H⟩ := H
  replace H : ((spec_l22Size.f a1).bind fun t178 => ((spec_l1Times.f (IntKind.u64.wrap (t177)) t178).bind fun bt179 => (if bt179.1 > 0 then (some (0, false)) else (if bt179.2 > 1000000000000000 then (some (0, false)) else (some (wrap64 (a0_4 * a1), true)))))) = some (r1, r2) := H
  have A4 := Aside0.mk A40
  clear A40
  replace H := Option.bind_eq_some_iff.mp H
  obtain ⟨t178, A50, H⟩ := H
  replace H : ((spec_l1Times.f (IntKind.u64.wrap (t177)) t178).bind fun bt179 => (if bt179.1 > 0 then (some (0, false)) else (if bt179.2 > 1000000000000000 then (some (0, false)) else (some (wrap64 (a0_4 * a1), true))))) = some (r1, r2) := H
  have A5 := Aside0.mk A50
  clear A50
  replace H := Option.bind_eq_some_iff.mp H
  obtain ⟨⟨t179, t180⟩, A60, H⟩ := H
  replace H : (if t179 > 0 then (some (0, false)) else (if t180 > 1000000000000000 then (some (0, false)) else (some (wrap64 (a0_4 * a1), true)))) = some (r1, r2) := H
  have A6 := Aside0.mk A60
  clear A60
  by_cases c7 : t179 > 0
  ·rw [if_pos c7] at H
   have c7b0 : decide (0 < t179) = true := decide_eq_true c7
   clear c7
   simp only [Option.some.injEq, Prod.mk.injEq] at H
   obtain ⟨rfl, rfl⟩ := H
   go_enter Try.func34, Try.ntmps34
   go_wp2_with (first | ((with_reducible refine gate_dst (N := 2) rfl ?_); refine box_event rfl (N := 2) rfl (cs := #[.int .i64 a0_0, .int .i64 a0_1, .string a0_2, .string a0_3, .int .i64 a0_4]) (t := 45) sE ?_; intro gb176 hg w8 hbox hb; have BK176 := Aside0.mk hbox; have GW176 := gS w hg (lU); have GE176 := gS w hg (lU); replace HB := bH (lU) hb; clear hb hbox hg; have hcz9_0 := cz BK176 0 (.int .i64 a0_0); have hcz9_1 := cz BK176 1 (.int .i64 a0_1); have hcz9_2 := cz BK176 2 (.string a0_2); have hcz9_3 := cz BK176 3 (.string a0_3); have hcz9_4 := cz BK176 4 (.int .i64 a0_4); have hfz9_0 := fz BK176 0; have hfz9_1 := fz BK176 1; have hfz9_2 := fz BK176 2; have hfz9_3 := fz BK176 3; have hfz9_4 := fz BK176 4) | (go_at_call 47; (with_reducible refine (spec_l1Abs.calls a0_4 t177 _ A4.out).mono ?_); rintro e w' ⟨rfl, ⟨nd, rfl⟩⟩; (try first | exact ⟨rfl, _, World.drewN_drewN _ _ _⟩ | exact ⟨rfl, _, Eq.trans (World.drewN_drewN _ _ _) (congrArg (World.drewN _) (Nat.add_assoc _ _ _))⟩)) | (go_at_call 48; (with_reducible refine (spec_l22Size.calls a1 t178 _ A5.out).mono ?_); rintro e w' ⟨rfl, ⟨nd, rfl⟩⟩; (try first | exact ⟨rfl, _, World.drewN_drewN _ _ _⟩ | exact ⟨rfl, _, Eq.trans (World.drewN_drewN _ _ _) (congrArg (World.drewN _) (Nat.add_assoc _ _ _))⟩)) | (go_at_call 46; (with_reducible refine (spec_l1Times.calls (IntKind.u64.wrap (t177)) t178 t179 t180 _ A6.out).mono ?_); rintro e w10 ⟨rfl, hb⟩; replace BK176 := bB (bV BK176) hb; replace HB := bH (lV1 GE176) hb; (try clear hb)) | ((with_reducible refine gate_dst (N := 6) rfl ?_); refine box_event rfl (N := 6) rfl (cs := #[.int .u64 0, .int .u64 0]) (t := 78) sE ?_; intro gb181 hg w11 hbox hb; have BK181 := Aside0.mk hbox; have GW181 := gS w hg (lV1 GE176); have GE181 := gS w hg (lV1 GE176); replace HB := bH (lV1 GE176) hb; have NB176_181 := nL hg (bV BK176); have NB181_176 := nG hg (bV BK176); replace BK176 := bB (bV BK176) hb; clear hb hbox hg; have hnb12 := NB181_176.out; have hnc12 := NB176_181.out; have hcz13_0 := cz BK181 0 (.int .u64 0); have hcz13_1 := cz BK181 1 (.int .u64 0); have hfz13_0 := fz BK181 0; have hfz13_1 := fz BK181 1) | ((with_reducible refine gate_store (t := 78) (p := 6) rfl ?_); (try (rw [drewN_self w11]; generalize hq_ : World.drewN w11 _ = w11; replace BK176 := Aside0.mk (blk_at hq_ BK176.out); replace BK181 := Aside0.mk (blk_at hq_ BK181.out); replace HB := Aside0.mk (below_at hq_ HB.out); clear hq_)); refine store_event (t := 78) (p := 6) (v := ?vo_w14) (w1 := ((w11.setCell ⟨gb181, 0, none⟩ (.int .u64 t179)).setCell ⟨gb181, 1, none⟩ (.int .u64 t180))) ?hg ?ho ?hn ?hr ?_; (case ho => rfl); (case hg => rfl); (case hn => rfl); (case hr => first | (go_simp; done) | (go_simp; rfl) | (have hq0_ := (blk_cell BK181.out 0).trans (show _ = some _ from rfl); have hf0_ := blk_frozen BK181.out 0; have hq1_ := (blk_cell BK181.out 1).trans (show _ = some _ from rfl); have hf1_ := blk_frozen BK181.out 1; first | (go_simp; done) | (go_simp; rfl))); intro w14 hw; replace BK176 : Aside0 (w14.heap[gb176]? = some (.cells #[.int .i64 a0_0, .int .i64 a0_1, .string a0_2, .string a0_3, .int .i64 a0_4] 45 (0, 0))) := ⟨(by rw [hw]; exact (bG NB176_181 BK176))⟩; replace BK181 : Aside0 (w14.heap[gb181]? = some (.cells #[.int .u64 t179, .int .u64 t180] 78 (0, 0))) := ⟨(by rw [hw]; exact (by refine bU ?_; refine blk_put (cs := #[.int .u64 t179, .int .u64 0]) ?_ 1 _ rfl; refine bU ?_; refine blk_put (cs := #[.int .u64 0, .int .u64 0]) ?_ 0 _ rfl; refine bU ?_; exact BK181.out))⟩; replace HB : Aside0 (Below w.heap.size w w14) := ⟨(by rw [hw]; exact (lV2 GE176 GE181))⟩; clear hw; have hcz15_0 := cz BK181 0 (.int .u64 t179); have hcz15_1 := cz BK181 1 (.int .u64 t180); have hfz15_0 := fz BK181 0; have hfz15_1 := fz BK181 1))
   repeat (go_quiet (fail); try go_wp2)
   go_ret2
   exact ⟨eE, lV2 GE176 GE181⟩
  ·rw [if_neg c7] at H
   have c7b0 : decide (0 < t179) = false := decide_eq_false c7
   clear c7
   by_cases c16 : t180 > 1000000000000000
   ·rw [if_pos c16] at H
    have c16b0 : decide (1000000000000000 < t180) = true := decide_eq_true c16
    clear c16
    simp only [Option.some.injEq, Prod.mk.injEq] at H
    obtain ⟨rfl, rfl⟩ := H
    go_enter Try.func34, Try.ntmps34
    go_wp2_with (first | ((with_reducible refine gate_dst (N := 2) rfl ?_); refine box_event rfl (N := 2) rfl (cs := #[.int .i64 a0_0, .int .i64 a0_1, .string a0_2, .string a0_3, .int .i64 a0_4]) (t := 45) sE ?_; intro gb176 hg w17 hbox hb; have BK176 := Aside0.mk hbox; have GW176 := gS w hg (lU); have GE176 := gS w hg (lU); replace HB := bH (lU) hb; clear hb hbox hg; have hcz18_0 := cz BK176 0 (.int .i64 a0_0); have hcz18_1 := cz BK176 1 (.int .i64 a0_1); have hcz18_2 := cz BK176 2 (.string a0_2); have hcz18_3 := cz BK176 3 (.string a0_3); have hcz18_4 := cz BK176 4 (.int .i64 a0_4); have hfz18_0 := fz BK176 0; have hfz18_1 := fz BK176 1; have hfz18_2 := fz BK176 2; have hfz18_3 := fz BK176 3; have hfz18_4 := fz BK176 4) | (go_at_call 47; (with_reducible refine (spec_l1Abs.calls a0_4 t177 _ A4.out).mono ?_); rintro e w' ⟨rfl, ⟨nd, rfl⟩⟩; (try first | exact ⟨rfl, _, World.drewN_drewN _ _ _⟩ | exact ⟨rfl, _, Eq.trans (World.drewN_drewN _ _ _) (congrArg (World.drewN _) (Nat.add_assoc _ _ _))⟩)) | (go_at_call 48; (with_reducible refine (spec_l22Size.calls a1 t178 _ A5.out).mono ?_); rintro e w' ⟨rfl, ⟨nd, rfl⟩⟩; (try first | exact ⟨rfl, _, World.drewN_drewN _ _ _⟩ | exact ⟨rfl, _, Eq.trans (World.drewN_drewN _ _ _) (congrArg (World.drewN _) (Nat.add_assoc _ _ _))⟩)) | (go_at_call 46; (with_reducible refine (spec_l1Times.calls (IntKind.u64.wrap (t177)) t178 t179 t180 _ A6.out).mono ?_); rintro e w19 ⟨rfl, hb⟩; replace BK176 := bB (bV BK176) hb; replace HB := bH (lV1 GE176) hb; (try clear hb)) | ((with_reducible refine gate_dst (N := 6) rfl ?_); refine box_event rfl (N := 6) rfl (cs := #[.int .u64 0, .int .u64 0]) (t := 78) sE ?_; intro gb181 hg w20 hbox hb; have BK181 := Aside0.mk hbox; have GW181 := gS w hg (lV1 GE176); have GE181 := gS w hg (lV1 GE176); replace HB := bH (lV1 GE176) hb; have NB176_181 := nL hg (bV BK176); have NB181_176 := nG hg (bV BK176); replace BK176 := bB (bV BK176) hb; clear hb hbox hg; have hnb21 := NB181_176.out; have hnc21 := NB176_181.out; have hcz22_0 := cz BK181 0 (.int .u64 0); have hcz22_1 := cz BK181 1 (.int .u64 0); have hfz22_0 := fz BK181 0; have hfz22_1 := fz BK181 1) | ((with_reducible refine gate_store (t := 78) (p := 6) rfl ?_); (try (rw [drewN_self w20]; generalize hq_ : World.drewN w20 _ = w20; replace BK176 := Aside0.mk (blk_at hq_ BK176.out); replace BK181 := Aside0.mk (blk_at hq_ BK181.out); replace HB := Aside0.mk (below_at hq_ HB.out); clear hq_)); refine store_event (t := 78) (p := 6) (v := ?vo_w23) (w1 := ((w20.setCell ⟨gb181, 0, none⟩ (.int .u64 t179)).setCell ⟨gb181, 1, none⟩ (.int .u64 t180))) ?hg ?ho ?hn ?hr ?_; (case ho => rfl); (case hg => rfl); (case hn => rfl); (case hr => first | (go_simp; done) | (go_simp; rfl) | (have hq0_ := (blk_cell BK181.out 0).trans (show _ = some _ from rfl); have hf0_ := blk_frozen BK181.out 0; have hq1_ := (blk_cell BK181.out 1).trans (show _ = some _ from rfl); have hf1_ := blk_frozen BK181.out 1; first | (go_simp; done) | (go_simp; rfl))); intro w23 hw; replace BK176 : Aside0 (w23.heap[gb176]? = some (.cells #[.int .i64 a0_0, .int .i64 a0_1, .string a0_2, .string a0_3, .int .i64 a0_4] 45 (0, 0))) := ⟨(by rw [hw]; exact (bG NB176_181 BK176))⟩; replace BK181 : Aside0 (w23.heap[gb181]? = some (.cells #[.int .u64 t179, .int .u64 t180] 78 (0, 0))) := ⟨(by rw [hw]; exact (by refine bU ?_; refine blk_put (cs := #[.int .u64 t179, .int .u64 0]) ?_ 1 _ rfl; refine bU ?_; refine blk_put (cs := #[.int .u64 0, .int .u64 0]) ?_ 0 _ rfl; refine bU ?_; exact BK181.out))⟩; replace HB : Aside0 (Below w.heap.size w w23) := ⟨(by rw [hw]; exact (lV2 GE176 GE181))⟩; clear hw; have hcz24_0 := cz BK181 0 (.int .u64 t179); have hcz24_1 := cz BK181 1 (.int .u64 t180); have hfz24_0 := fz BK181 0; have hfz24_1 := fz BK181 1))
    repeat (go_quiet (fail); try go_wp2)
    go_ret2
    exact ⟨eE, lV2 GE176 GE181⟩
   ·rw [if_neg c16] at H
    have c16b0 : decide (1000000000000000 < t180) = false := decide_eq_false c16
    clear c16
    simp only [Option.some.injEq, Prod.mk.injEq] at H
    obtain ⟨rfl, rfl⟩ := H
    go_enter Try.func34, Try.ntmps34
    go_wp2_with (first | ((with_reducible refine gate_dst (N := 2) rfl ?_); refine box_event rfl (N := 2) rfl (cs := #[.int .i64 a0_0, .int .i64 a0_1, .string a0_2, .string a0_3, .int .i64 a0_4]) (t := 45) sE ?_; intro gb176 hg w25 hbox hb; have BK176 := Aside0.mk hbox; have GW176 := gS w hg (lU); have GE176 := gS w hg (lU); replace HB := bH (lU) hb; clear hb hbox hg; have hcz26_0 := cz BK176 0 (.int .i64 a0_0); have hcz26_1 := cz BK176 1 (.int .i64 a0_1); have hcz26_2 := cz BK176 2 (.string a0_2); have hcz26_3 := cz BK176 3 (.string a0_3); have hcz26_4 := cz BK176 4 (.int .i64 a0_4); have hfz26_0 := fz BK176 0; have hfz26_1 := fz BK176 1; have hfz26_2 := fz BK176 2; have hfz26_3 := fz BK176 3; have hfz26_4 := fz BK176 4) | (go_at_call 47; (with_reducible refine (spec_l1Abs.calls a0_4 t177 _ A4.out).mono ?_); rintro e w' ⟨rfl, ⟨nd, rfl⟩⟩; (try first | exact ⟨rfl, _, World.drewN_drewN _ _ _⟩ | exact ⟨rfl, _, Eq.trans (World.drewN_drewN _ _ _) (congrArg (World.drewN _) (Nat.add_assoc _ _ _))⟩)) | (go_at_call 48; (with_reducible refine (spec_l22Size.calls a1 t178 _ A5.out).mono ?_); rintro e w' ⟨rfl, ⟨nd, rfl⟩⟩; (try first | exact ⟨rfl, _, World.drewN_drewN _ _ _⟩ | exact ⟨rfl, _, Eq.trans (World.drewN_drewN _ _ _) (congrArg (World.drewN _) (Nat.add_assoc _ _ _))⟩)) | (go_at_call 46; (with_reducible refine (spec_l1Times.calls (IntKind.u64.wrap (t177)) t178 t179 t180 _ A6.out).mono ?_); rintro e w27 ⟨rfl, hb⟩; replace BK176 := bB (bV BK176) hb; replace HB := bH (lV1 GE176) hb; (try clear hb)) | ((with_reducible refine gate_dst (N := 6) rfl ?_); refine box_event rfl (N := 6) rfl (cs := #[.int .u64 0, .int .u64 0]) (t := 78) sE ?_; intro gb181 hg w28 hbox hb; have BK181 := Aside0.mk hbox; have GW181 := gS w hg (lV1 GE176); have GE181 := gS w hg (lV1 GE176); replace HB := bH (lV1 GE176) hb; have NB176_181 := nL hg (bV BK176); have NB181_176 := nG hg (bV BK176); replace BK176 := bB (bV BK176) hb; clear hb hbox hg; have hnb29 := NB181_176.out; have hnc29 := NB176_181.out; have hcz30_0 := cz BK181 0 (.int .u64 0); have hcz30_1 := cz BK181 1 (.int .u64 0); have hfz30_0 := fz BK181 0; have hfz30_1 := fz BK181 1) | ((with_reducible refine gate_store (t := 78) (p := 6) rfl ?_); (try (rw [drewN_self w28]; generalize hq_ : World.drewN w28 _ = w28; replace BK176 := Aside0.mk (blk_at hq_ BK176.out); replace BK181 := Aside0.mk (blk_at hq_ BK181.out); replace HB := Aside0.mk (below_at hq_ HB.out); clear hq_)); refine store_event (t := 78) (p := 6) (v := ?vo_w31) (w1 := ((w28.setCell ⟨gb181, 0, none⟩ (.int .u64 t179)).setCell ⟨gb181, 1, none⟩ (.int .u64 t180))) ?hg ?ho ?hn ?hr ?_; (case ho => rfl); (case hg => rfl); (case hn => rfl); (case hr => first | (go_simp; done) | (go_simp; rfl) | (have hq0_ := (blk_cell BK181.out 0).trans (show _ = some _ from rfl); have hf0_ := blk_frozen BK181.out 0; have hq1_ := (blk_cell BK181.out 1).trans (show _ = some _ from rfl); have hf1_ := blk_frozen BK181.out 1; first | (go_simp; done) | (go_simp; rfl))); intro w31 hw; replace BK176 : Aside0 (w31.heap[gb176]? = some (.cells #[.int .i64 a0_0, .int .i64 a0_1, .string a0_2, .string a0_3, .int .i64 a0_4] 45 (0, 0))) := ⟨(by rw [hw]; exact (bG NB176_181 BK176))⟩; replace BK181 : Aside0 (w31.heap[gb181]? = some (.cells #[.int .u64 t179, .int .u64 t180] 78 (0, 0))) := ⟨(by rw [hw]; exact (by refine bU ?_; refine blk_put (cs := #[.int .u64 t179, .int .u64 0]) ?_ 1 _ rfl; refine bU ?_; refine blk_put (cs := #[.int .u64 0, .int .u64 0]) ?_ 0 _ rfl; refine bU ?_; exact BK181.out))⟩; replace HB : Aside0 (Below w.heap.size w w31) := ⟨(by rw [hw]; exact (lV2 GE176 GE181))⟩; clear hw; have hcz32_0 := cz BK181 0 (.int .u64 t179); have hcz32_1 := cz BK181 1 (.int .u64 t180); have hfz32_0 := fz BK181 0; have hfz32_1 := fz BK181 1; have hcz33_0 := cz BK176 0 (.int .i64 a0_0); have hcz33_1 := cz BK176 1 (.int .i64 a0_1); have hcz33_2 := cz BK176 2 (.string a0_2); have hcz33_3 := cz BK176 3 (.string a0_3); have hcz33_4 := cz BK176 4 (.int .i64 a0_4); have hfz33_0 := fz BK176 0; have hfz33_1 := fz BK176 1; have hfz33_2 := fz BK176 2; have hfz33_3 := fz BK176 3; have hfz33_4 := fz BK176 4))
    repeat (go_quiet (fail); try go_wp2)
    go_ret2
    exact ⟨eE, lV2 GE176 GE181⟩
 ·rw [if_neg c3] at H
  have c3b0 : (a0_1 == 3) = false := beq_eq_false_iff_ne.mpr c3
  have c3b1 : (a0_1 != 3) = true := bne_iff_ne.mpr c3
  replace H := Option.bind_eq_some_iff.mp H
  obtain ⟨t182, A340, H⟩ := H
  replace H : (if t182 = true then ((spec_l1In.f (wrap64 (a1 + a0_4)) (-1000000000000000) 1000000000000000).bind fun t183 => (some (wrap64 (a1 + a0_4), t183))) else (some (0, false))) = some (r1, r2) := H
  have A34 := Aside0.mk A340
  clear A340
  by_cases c35 : t182 = true
  ·subst c35
   have H1 : ((spec_l1In.f (wrap64 (a1 + a0_4)) (-1000000000000000) 1000000000000000).bind fun t183 => (some (wrap64 (a1 + a0_4), t183))) = some (r1, r2) := by rw [if_pos rfl] at H; exact H
   clear H
   have H := H1
   clear H1
   replace H := Option.bind_eq_some_iff.mp H
   obtain ⟨t183, A360, H⟩ := H
   replace H : (some (wrap64 (a1 + a0_4), t183)) = some (r1, r2) := H
   have A36 := Aside0.mk A360
   clear A360
   simp only [Option.some.injEq, Prod.mk.injEq] at H
   obtain ⟨rfl, rfl⟩ := H
   go_enter Try.func34, Try.ntmps34
   go_wp2_with (first | ((with_reducible refine gate_dst (N := 2) rfl ?_); refine box_event rfl (N := 2) rfl (cs := #[.int .i64 a0_0, .int .i64 a0_1, .string a0_2, .string a0_3, .int .i64 a0_4]) (t := 45) sE ?_; intro gb176 hg w37 hbox hb; have BK176 := Aside0.mk hbox; have GW176 := gS w hg (lU); have GE176 := gS w hg (lU); replace HB := bH (lU) hb; clear hb hbox hg; have hcz38_0 := cz BK176 0 (.int .i64 a0_0); have hcz38_1 := cz BK176 1 (.int .i64 a0_1); have hcz38_2 := cz BK176 2 (.string a0_2); have hcz38_3 := cz BK176 3 (.string a0_3); have hcz38_4 := cz BK176 4 (.int .i64 a0_4); have hfz38_0 := fz BK176 0; have hfz38_1 := fz BK176 1; have hfz38_2 := fz BK176 2; have hfz38_3 := fz BK176 3; have hfz38_4 := fz BK176 4) | (go_at_call 28; (with_reducible refine (spec_l1In.calls a1 (-2000000000000000) 2000000000000000 true _ A34.out).mono ?_); rintro e w' ⟨rfl, ⟨nd, rfl⟩⟩; (try first | exact ⟨rfl, _, World.drewN_drewN _ _ _⟩ | exact ⟨rfl, _, Eq.trans (World.drewN_drewN _ _ _) (congrArg (World.drewN _) (Nat.add_assoc _ _ _))⟩)))
   repeat (go_quiet (first | (go_at_call 28; (with_reducible refine (spec_l1In.calls (wrap64 (a1 + a0_4)) (-1000000000000000) 1000000000000000 t183 _ A36.out).mono ?_); rintro e w' ⟨rfl, ⟨nd, rfl⟩⟩; (try first | exact ⟨rfl, _, World.drewN_drewN _ _ _⟩ | exact ⟨rfl, _, Eq.trans (World.drewN_drewN _ _ _) (congrArg (World.drewN _) (Nat.add_assoc _ _ _))⟩))); try go_wp2)
   go_ret2
   exact ⟨eE, lV1 GE176⟩
  ·replace c35 := Bool.eq_false_iff.mpr c35
   subst c35
   have H1 : (some (0, false)) = some (r1, r2) := by rw [if_neg (show ¬ (false = true) by decide)] at H; exact H
   clear H
   have H := H1
   clear H1
   simp only [Option.some.injEq, Prod.mk.injEq] at H
   obtain ⟨rfl, rfl⟩ := H
   go_enter Try.func34, Try.ntmps34
   go_wp2_with (first | ((with_reducible refine gate_dst (N := 2) rfl ?_); refine box_event rfl (N := 2) rfl (cs := #[.int .i64 a0_0, .int .i64 a0_1, .string a0_2, .string a0_3, .int .i64 a0_4]) (t := 45) sE ?_; intro gb176 hg w39 hbox hb; have BK176 := Aside0.mk hbox; have GW176 := gS w hg (lU); have GE176 := gS w hg (lU); replace HB := bH (lU) hb; clear hb hbox hg; have hcz40_0 := cz BK176 0 (.int .i64 a0_0); have hcz40_1 := cz BK176 1 (.int .i64 a0_1); have hcz40_2 := cz BK176 2 (.string a0_2); have hcz40_3 := cz BK176 3 (.string a0_3); have hcz40_4 := cz BK176 4 (.int .i64 a0_4); have hfz40_0 := fz BK176 0; have hfz40_1 := fz BK176 1; have hfz40_2 := fz BK176 2; have hfz40_3 := fz BK176 3; have hfz40_4 := fz BK176 4) | (go_at_call 28; (with_reducible refine (spec_l1In.calls a1 (-2000000000000000) 2000000000000000 false _ A34.out).mono ?_); rintro e w' ⟨rfl, ⟨nd, rfl⟩⟩; (try first | exact ⟨rfl, _, World.drewN_drewN _ _ _⟩ | exact ⟨rfl, _, Eq.trans (World.drewN_drewN _ _ _) (congrArg (World.drewN _) (Nat.add_assoc _ _ _))⟩)))
   repeat (go_quiet (fail); try go_wp2)
   go_ret2
   exact ⟨eE, lV1 GE176⟩
end Go.Proofs.Ytjjbkebodkjnkaa.PFnExactLoadSave
namespace Go.Proofs.Ytjjbkebodkjnkaa.PFnExactLoadSave
open Go.RowKit Go.Proofs.YtjjbkebodkjnkaaW.PrintWords Go.Proofs.YtjjbkebodkjnkaaW.PrintLast Go.Proofs.YtjjbkebodkjnkaaW.PrintMore
attribute [local go_sem] max2_int min2_int max_two min_two max_three min_three max_four min_four
set_option linter.unusedVariables false
set_option linter.unusedSimpArgs false
mutual
def spec_MigrateSave.j0 : Nat → Int → List (S49) → List (S45) → Bool → Option ((List (S49)) × Bool)
 | 0, _, _, _, _ => none
 | k + 1, x0, x1, x2, x27 => if x27 = true then (some (([] : List (S49)), false)) else ((some (([] : List (S49)) : List (S49))).bind fun y187 => (if y187.length + x1.length < 3518437208883 then (spec_MigrateSave.l0 k x0 (y187 ++ x1) x2 (x2.length : Int) 0) else (none)))
def spec_MigrateSave.l0 : Nat → Int → List (S49) → List (S45) → Int → Int → Option ((List (S49)) × Bool)
 | 0, _, _, _, _, _ => none
 | k + 1, x0, x8, x31, x32, x33 => if x33 < x32 then (if 0 ≤ x33 then (if x33 < (x31.length : Int) then (if ((rd_T45 x31 x33).f0) < x0 then (spec_MigrateSave.l0 k x0 x8 x31 x32 (wrap64 (x33 + 1))) else ((spec_l22At.f k x8 ((rd_T45 x31 x33).f2)).bind fun t195 => (if ((rd_T45 x31 x33).f1) = 5 then (if t195 < 0 then ((spec_l22Put.f k x8 ((rd_T45 x31 x33).f2) ((rd_T45 x31 x33).f4) (⟨#[]⟩ : ByteArray)).bind fun t196 => (if (t196.length : Int) > 30 then (some (([] : List (S49)), false)) else (spec_MigrateSave.l0 k x0 t196 x31 x32 (wrap64 (x33 + 1))))) else (if (x8.length : Int) > 30 then (some (([] : List (S49)), false)) else (spec_MigrateSave.l0 k x0 x8 x31 x32 (wrap64 (x33 + 1))))) else (if t195 < 0 then (spec_MigrateSave.l0 k x0 x8 x31 x32 (wrap64 (x33 + 1))) else (if ((rd_T45 x31 x33).f1) = 1 then ((spec_l22At.f k x8 ((rd_T45 x31 x33).f3)).bind fun t199 => (if t199 ≥ 0 then (some (([] : List (S49)), false)) else (if 0 ≤ t195 then (if t195 < (x8.length : Int) then ((spec_l22Drop.f x8 t195).bind fun t202 => ((spec_l22Put.f k t202 ((rd_T45 x31 x33).f3) ((rd_T49 x8 t195).f1) ((rd_T49 x8 t195).f2)).bind fun t205 => (spec_MigrateSave.l0 k x0 t205 x31 x32 (wrap64 (x33 + 1))))) else (none)) else (none)))) else (if ((rd_T45 x31 x33).f1) = 4 then ((spec_l22Drop.f x8 t195).bind fun t208 => (spec_MigrateSave.l0 k x0 t208 x31 x32 (wrap64 (x33 + 1)))) else (if 0 ≤ t195 then (if t195 < (x8.length : Int) then ((spec_l22Turn.f ((rd_T45 x31 x33).f0) ((rd_T45 x31 x33).f1) ((rd_T45 x31 x33).f2) ((rd_T45 x31 x33).f3) ((rd_T45 x31 x33).f4) ((rd_T49 x8 t195).f1)).bind fun bt212 => (if bt212.2 = true then (spec_MigrateSave.l0 k x0 (x8.set (t195 : Int).toNat (⟨(rd_T49 x8 t195).f0, bt212.1, (rd_T49 x8 t195).f2⟩ : S49)) x31 x32 (wrap64 (x33 + 1))) else (some (([] : List (S49)), false)))) else (none)) else (none)))))))) else (none)) else (none)) else (some (x8, true))
end
def spec_MigrateSave.f (k : Nat) (a0 : Int) (l1 : List (S49)) (l2 : List (S45)) : Option ((List (S49)) × Bool) := (spec_l1In.f a0 1 3).bind fun t184 => (if t184 = true then ((spec_GoodValues.f k l1).bind fun t185 => (if t185 = true then ((spec_GoodChanges.f k l2).bind fun t186 => (spec_MigrateSave.j0 k a0 l1 l2 (!t186))) else (spec_MigrateSave.j0 k a0 l1 l2 true))) else (spec_MigrateSave.j0 k a0 l1 l2 true))
theorem spec_MigrateSave.mono_l : ∀ k, (∀ y0 y1 y2 y3, LeO (spec_MigrateSave.j0 k y0 y1 y2 y3) (spec_MigrateSave.j0 (k + 1) y0 y1 y2 y3)) ∧ (∀ y0 y1 y2 y3 y4, LeO (spec_MigrateSave.l0 k y0 y1 y2 y3 y4) (spec_MigrateSave.l0 (k + 1) y0 y1 y2 y3 y4))
 | 0 => ⟨fun _ _ _ _ r h => by simp [spec_MigrateSave.j0] at h, fun _ _ _ _ _ r h => by simp [spec_MigrateSave.l0] at h⟩
 | k + 1 => by
  obtain ⟨ih0, ih1⟩ := spec_MigrateSave.mono_l k
  refine ⟨?_, ?_⟩
  ·intro y0 y1 y2 y3
   unfold spec_MigrateSave.j0
   repeat' first
   | (with_reducible exact ih0 _ _ _ _)
   | (with_reducible exact ih1 _ _ _ _ _)
   | (with_reducible exact spec_GoodChanges.mono _ _)
   | (with_reducible exact spec_GoodValues.mono _ _)
   | (with_reducible exact spec_l22At.mono _ _ _)
   | (with_reducible exact spec_l22Put.mono _ _ _ _ _)
   | (with_reducible first | exact LeO.refl _ | exact LeO.none _ | refine LeO.ite ?_ ?_ | refine LeO.bind ?_ (fun _ => ?_))
   | exact ih0 _ _ _ _
   | exact ih1 _ _ _ _ _
   | exact spec_GoodChanges.mono _ _
   | exact spec_GoodValues.mono _ _
   | exact spec_l22At.mono _ _ _
   | exact spec_l22Put.mono _ _ _ _ _ | exact LeO.none _ | refine LeO.ite ?_ ?_ | refine LeO.bind ?_ (fun _ => ?_)
  ·intro y0 y1 y2 y3 y4
   unfold spec_MigrateSave.l0
   repeat' first
   | (with_reducible exact ih0 _ _ _ _)
   | (with_reducible exact ih1 _ _ _ _ _)
   | (with_reducible exact spec_GoodChanges.mono _ _)
   | (with_reducible exact spec_GoodValues.mono _ _)
   | (with_reducible exact spec_l22At.mono _ _ _)
   | (with_reducible exact spec_l22Put.mono _ _ _ _ _)
   | (with_reducible first | exact LeO.refl _ | exact LeO.none _ | refine LeO.ite ?_ ?_ | refine LeO.bind ?_ (fun _ => ?_))
   | exact ih0 _ _ _ _
   | exact ih1 _ _ _ _ _
   | exact spec_GoodChanges.mono _ _
   | exact spec_GoodValues.mono _ _
   | exact spec_l22At.mono _ _ _
   | exact spec_l22Put.mono _ _ _ _ _ | exact LeO.none _ | refine LeO.ite ?_ ?_ | refine LeO.bind ?_ (fun _ => ?_)
theorem spec_MigrateSave.mono : ∀ a0 a1 a2 k, LeO (spec_MigrateSave.f k a0 a1 a2) (spec_MigrateSave.f (k + 1) a0 a1 a2) := by
 intro a0 a1 a2 k
 obtain ⟨ih0, ih1⟩ := spec_MigrateSave.mono_l k
 unfold spec_MigrateSave.f
 repeat' first
   | (with_reducible exact ih0 _ _ _ _)
   | (with_reducible exact ih1 _ _ _ _ _)
   | (with_reducible exact spec_GoodChanges.mono _ _)
   | (with_reducible exact spec_GoodValues.mono _ _)
   | (with_reducible exact spec_l22At.mono _ _ _)
   | (with_reducible exact spec_l22Put.mono _ _ _ _ _)
   | (with_reducible first | exact LeO.refl _ | exact LeO.none _ | refine LeO.ite ?_ ?_ | refine LeO.bind ?_ (fun _ => ?_))
   | exact ih0 _ _ _ _
   | exact ih1 _ _ _ _ _
   | exact spec_GoodChanges.mono _ _
   | exact spec_GoodValues.mono _ _
   | exact spec_l22At.mono _ _ _
   | exact spec_l22Put.mono _ _ _ _ _ | exact LeO.none _ | refine LeO.ite ?_ ?_ | refine LeO.bind ?_ (fun _ => ?_)
def spec_MigrateSave.T16 : Bool × List (List Nat × List Nat) := (true, [([], []), ([], []), ([], []), ([1, 2], [1, 2]), ([3], [3]), ([4], [4]), ([0, 5], [0, 5]), ([6], [6]), ([7], [7]), ([7], [7]), ([8, 6, 0, 1, 2, 3, 4, 5, 6, 7, 8], [8]), ([9, 10, 0, 1, 2, 3, 4, 5, 6, 7, 8, 9, 10], [9])])
def spec_MigrateSave.B16 : List Nat := [0, 0, 0, 6, 14, 30, 63, 127, 255, 255, 511, 2047]
theorem spec_MigrateSave.tab16 : rtab .any (opsOf Try.f18 16) = spec_MigrateSave.T16 := by kernel_rfl
theorem spec_MigrateSave.bits16 : waitsOk spec_MigrateSave.T16.2 spec_MigrateSave.B16 = true := by kernel_rfl
set_option maxHeartbeats 8000000 in
set_option maxRecDepth 100000 in
theorem spec_MigrateSave.calls (k : Nat) (a0 : Int) (A1 : Option Addr) (c1 : Nat) (l1 : List (S49)) (A2 : Option Addr) (c2 : Nat) (l2 : List (S45)) (r1 : List (S49)) (r2 : Bool) (w : World) (hr1 : Kd.C k49 w A1 l1.length l1) (hc1 : l1.length ≤ c1) (hr2 : Kd.C k45 w A2 l2.length l2) (hc2 : l2.length ≤ c2) (h : spec_MigrateSave.f k a0 l1 l2 = some (r1, r2)) :
  Calls Try.prog 18 #[.int .i64 a0, .slice A1 l1.length c1, .slice A2 l2.length c2] w fun e w' => ∃ v0_ : Value, e = .returned (.tuple #[v0_, .bool r2]) ∧ Kd.R k49 49 w' w.heap.size (fun _ => True) v0_ r1 ∧ Below w.heap.size w w' := by
 have hu45 := Try.underlying45
 have hu49 := Try.underlying49
 have HR1 := Aside0.mk hr1
 have HC1 := Aside0.mk hc1
 clear hr1 hc1
 have HR2 := Aside0.mk hr2
 have HC2 := Aside0.mk hc2
 clear hr2 hc2
 have HB := Aside0.mk (Below.refl w.heap.size w)
 have H : ((spec_l1In.f a0 1 3).bind fun t184 => (if t184 = true then ((spec_GoodValues.f k l1).bind fun t185 => (if t185 = true then ((spec_GoodChanges.f k l2).bind fun t186 => (spec_MigrateSave.j0 k a0 l1 l2 (!t186))) else (spec_MigrateSave.j0 k a0 l1 l2 true))) else (spec_MigrateSave.j0 k a0 l1 l2 true))) = some (r1, r2) := h
 clear h
 have HC4 := Aside0.mk H
 clear H
 go_enter Try.func18, Try.ntmps18
 go_upto_region 1 with (fail)
 go_cut [27] (fun v27 wc => ∃ (kq : Nat) (x27_3 : Bool), v27 = .bool x27_3 ∧ Aside0 (spec_MigrateSave.j0 kq a0 l1 l2 x27_3 = some (r1, r2)) ∧ Aside0 (kq ≤ k) ∧ Aside0 (Below w.heap.size w wc))
 case first =>
  have H := HC4.out
  clear HC4
  replace H := Option.bind_eq_some_iff.mp H
  obtain ⟨t184, A50, H⟩ := H
  replace H : (if t184 = true then ((spec_GoodValues.f k l1).bind fun t185 => (if t185 = true then ((spec_GoodChanges.f k l2).bind fun t186 => (spec_MigrateSave.j0 k a0 l1 l2 (!t186))) else (spec_MigrateSave.j0 k a0 l1 l2 true))) else (spec_MigrateSave.j0 k a0 l1 l2 true)) = some (r1, r2) := H
  have A5 := Aside0.mk A50
  clear A50
  by_cases c6 : t184 = true
  ·subst c6
   have H1 : ((spec_GoodValues.f k l1).bind fun t185 => (if t185 = true then ((spec_GoodChanges.f k l2).bind fun t186 => (spec_MigrateSave.j0 k a0 l1 l2 (!t186))) else (spec_MigrateSave.j0 k a0 l1 l2 true))) = some (r1, r2) := by rw [if_pos rfl] at H; exact H
   clear H
   have H := H1
   clear H1
   replace H := Option.bind_eq_some_iff.mp H
   obtain ⟨t185, A70, H⟩ := H
   replace H : (if t185 = true then ((spec_GoodChanges.f k l2).bind fun t186 => (spec_MigrateSave.j0 k a0 l1 l2 (!t186))) else (spec_MigrateSave.j0 k a0 l1 l2 true)) = some (r1, r2) := H
   have A7 := Aside0.mk A70
   clear A70
   by_cases c8 : t185 = true
   ·subst c8
    have H1 : ((spec_GoodChanges.f k l2).bind fun t186 => (spec_MigrateSave.j0 k a0 l1 l2 (!t186))) = some (r1, r2) := by rw [if_pos rfl] at H; exact H
    clear H
    have H := H1
    clear H1
    replace H := Option.bind_eq_some_iff.mp H
    obtain ⟨t186, A90, H⟩ := H
    replace H : (spec_MigrateSave.j0 k a0 l1 l2 (!t186)) = some (r1, r2) := H
    have A9 := Aside0.mk A90
    clear A90
    have H' := Aside0.mk H
    clear H
    go_wp2_with (first | ((with_reducible refine gate_callee (f := 28) rfl ?_); refine goesL_ (some 16) rfl rfl Try.func28 (by kernel_rfl) rfl #[.int .i64 a0, .int .i64 1, .int .i64 3] rfl aE ?_; (with_reducible refine (spec_l1In.calls a0 1 3 true _ A5.out).mono ?_); rintro e w' ⟨rfl, ⟨nd, rfl⟩⟩; refine ⟨_, rfl, ?_⟩) | (go_at_call 29; (with_reducible refine (spec_GoodValues.calls k _ _ l1 true _ ?side1 ?side2 A7.out).mono ?_); (case side1 => exact cU (Kd.C_below HR1.out (lU))); (case side2 => exact HC1.out); rintro e w10 ⟨rfl, hb⟩; replace HB := bH (lU) hb; (try clear hb)) | (go_at_call 30; (with_reducible refine (spec_GoodChanges.calls k _ _ l2 t186 _ ?side1 ?side2 A9.out).mono ?_); (case side1 => exact cU (Kd.C_below HR2.out HB.out)); (case side2 => exact HC2.out); rintro e w11 ⟨rfl, hb⟩; replace HB := bH (lU) hb; (try clear hb)))
    go_meet
    case rel => exact ⟨_, (!t186), tE, H', ⟨by first | omega | exact Nat.le_refl _⟩, ⟨by repeat (first | (with_reducible first | exact HB.out | apply below_alloc | apply pw_below_drewN | apply below_drew1) | exact HB.out)⟩⟩
   ·replace c8 := Bool.eq_false_iff.mpr c8
    subst c8
    have H1 : (spec_MigrateSave.j0 k a0 l1 l2 true) = some (r1, r2) := by rw [if_neg (show ¬ (false = true) by decide)] at H; exact H
    clear H
    have H := H1
    clear H1
    have H' := Aside0.mk H
    clear H
    go_wp2_with (first | ((with_reducible refine gate_callee (f := 28) rfl ?_); refine goesL_ (some 16) rfl rfl Try.func28 (by kernel_rfl) rfl #[.int .i64 a0, .int .i64 1, .int .i64 3] rfl aE ?_; (with_reducible refine (spec_l1In.calls a0 1 3 true _ A5.out).mono ?_); rintro e w' ⟨rfl, ⟨nd, rfl⟩⟩; refine ⟨_, rfl, ?_⟩) | (go_at_call 29; (with_reducible refine (spec_GoodValues.calls k _ _ l1 false _ ?side1 ?side2 A7.out).mono ?_); (case side1 => exact cU (Kd.C_below HR1.out (lU))); (case side2 => exact HC1.out); rintro e w12 ⟨rfl, hb⟩; replace HB := bH (lU) hb; (try clear hb)))
    go_meet
    case rel => exact ⟨_, (true), tE, H', ⟨by first | omega | exact Nat.le_refl _⟩, ⟨by repeat (first | (with_reducible first | exact HB.out | apply below_alloc | apply pw_below_drewN | apply below_drew1) | exact HB.out)⟩⟩
  ·replace c6 := Bool.eq_false_iff.mpr c6
   subst c6
   have H1 : (spec_MigrateSave.j0 k a0 l1 l2 true) = some (r1, r2) := by rw [if_neg (show ¬ (false = true) by decide)] at H; exact H
   clear H
   have H := H1
   clear H1
   have H' := Aside0.mk H
   clear H
   go_wp2_with (first | ((with_reducible refine gate_callee (f := 28) rfl ?_); refine goesL_ (some 16) rfl rfl Try.func28 (by kernel_rfl) rfl #[.int .i64 a0, .int .i64 1, .int .i64 3] rfl aE ?_; (with_reducible refine (spec_l1In.calls a0 1 3 false _ A5.out).mono ?_); rintro e w' ⟨rfl, ⟨nd, rfl⟩⟩; refine ⟨_, rfl, ?_⟩))
   go_meet
   case rel => exact ⟨_, (true), tE, H', ⟨by first | omega | exact Nat.le_refl _⟩, ⟨by repeat (first | (with_reducible first | exact HB.out | apply below_alloc | apply pw_below_drewN | apply below_drew1) | exact HB.out)⟩⟩
 case rest =>
  clear HC4
  try clear c1; try clear c2
  obtain ⟨kq, x27_3, rfl, HA, HJ3, HB⟩ := hcut
  cases kq with
  | zero => exact absurd HA.out (by simp [spec_MigrateSave.j0])
  | succ kj3 =>
   have H := HA.out
   clear HA
   simp only [spec_MigrateSave.j0] at H
   by_cases c13 : x27_3 = true
   ·subst c13
    have H1 : (some (([] : List (S49)), false)) = some (r1, r2) := by rw [if_pos rfl] at H; exact H
    clear H
    have H := H1
    clear H1
    simp only [Option.some.injEq, Prod.mk.injEq] at H
    obtain ⟨rfl, rfl⟩ := H
    go_wp2
    go_ret2
    exact ⟨_, eE, by first | exact Kd.R_nil _ _ _ _ _ | exact Kd.N_nil _ _ _ _ _ | exact Kd.V_nil _ _ _ _ _ | exact Kd.Q_nil _ _ _ _ _ | exact Kd.S_nil _ _ _ _ _, lU⟩
   ·replace c13 := Bool.eq_false_iff.mpr c13
    subst c13
    have H1 : ((some (([] : List (S49)) : List (S49))).bind fun y187 => (if y187.length + l1.length < 3518437208883 then (spec_MigrateSave.l0 kj3 a0 (y187 ++ l1) l2 (l2.length : Int) 0) else (none))) = some (r1, r2) := by rw [if_neg (show ¬ (false = true) by decide)] at H; exact H
    clear H
    have H := H1
    clear H1
    obtain ⟨y187, hy187⟩ : ∃ y_ : List (S49), y_ = (([] : List (S49))) := ⟨_, rfl⟩
    replace H : (if y187.length + l1.length < 3518437208883 then (spec_MigrateSave.l0 kj3 a0 (y187 ++ l1) l2 (l2.length : Int) 0) else (none)) = some (r1, r2) := by first | (rw [hy187]; with_reducible exact H) | (have H2_ := (Option.bind_some _ _).symm.trans H; rw [hy187]; with_reducible exact H2_) | (have H2_ := (Option.bind_some _ _).symm.trans H; with_reducible exact H2_) | with_reducible exact H | (rw [hy187]; exact H) | exact H
    have Ny187 := Aside0.mk hy187
    clear hy187
    by_cases c14 : y187.length + l1.length < 3518437208883
    ·rw [if_pos c14] at H
     have LMc14 := Aside0.mk c14
     clear c14
     obtain ⟨y190, hy190⟩ : ∃ y_ : List (S49), y_ = (y187 ++ l1) := ⟨_, rfl⟩
     replace H : (spec_MigrateSave.l0 kj3 a0 y190 l2 (l2.length : Int) 0) = some (r1, r2) := by first | (rw [hy190]; with_reducible exact H) | (have H2_ := (Option.bind_some _ _).symm.trans H; rw [hy190]; with_reducible exact H2_) | (have H2_ := (Option.bind_some _ _).symm.trans H; with_reducible exact H2_) | with_reducible exact H | (rw [hy190]; exact H) | exact H
     have Ny190 := Aside0.mk hy190
     clear hy190
     have H' := Aside0.mk H
     clear H
     go_wp2_with (first | ((with_reducible refine gate_dst (N := 28) rfl ?_); refine Kd.R_lit k49 _ 49 ?hg (N := 28) ?hd (xs := ([] : List (S49))) (inner := []) (ok := fun _ => True) (okp := fun _ => True) ?hr ?hp (fun _ hk => hk) trivial (Below.refl _ _) (Nat.le_refl _) (by simp) ?_; (case hd => rfl); (case hg => rfl); (case hr => exact sE); (case hp => exact (Reps.none _ _)); intro v188 w15 ho16 hb hg_ hnew_; clear hg_ hnew_; (first | rw [← Ny187.out] at ho16 | (simp only [Int.reduceToNat] at ho16; rw [← Ny187.out] at ho16)); have HO189 := Aside0.mk (Kd.R_lower ho16 (below_size (lU))); replace HB := bH (lU) hb; clear hb ho16) | ((with_reducible refine gate_builtin (b := .append) (xs := #[.tmp 28, .tmp 29]) rfl ?_); at_builtin; refine Kd.R_append_rows k49 (w0 := w) w.heap.size rfl (.tmp 28) (.tmp 29) 25 49 (.agg #[(.string ⟨#[]⟩), (.int .i64 0), (.string ⟨#[]⟩)]) 40 rfl Try.underlying25 info49 rfl (by decide) (by omega) v188 y187 l1 _ _ _ (fun _ => True) (fun _ => False) rfl rfl ?aO ?aR (fun _ _ h => h) (fun _ h => h.elim) ?aF ?aB ?aS ?aL ?_; (case aR => repeat (first | exact (Kd.C_below HR1.out HB.out) | exact (Kd.C_drewN (Kd.C_below HR1.out HB.out) _) | exact (Kd.C_drew (Kd.C_below HR1.out HB.out)) | exact (Kd.C_alloc (Kd.C_below HR1.out HB.out) _) | (with_reducible refine Kd.C_alloc ?_ _) | (with_reducible refine Kd.C_drewN ?_ _) | (with_reducible refine Kd.C_drew ?_))); (case aB => exact (lU)); (case aF => exact (fun _ _ => trivial)); (case aO => exact (rU HO189.out)); (case aS => exact (below_size (lU))); (case aL => have := LMc14.out; omega); intro v191 w17 ho hb hg hat; rw [← Ny190.out] at ho; replace HB := Aside0.mk hb; have HO192 := Aside0.mk ho; clear HO189; clear ho hb hg hat))
     (try simp only [Act.put, List.setIfInBounds_toArray, List.set_cons_zero, List.set_cons_succ])
     go_loopg [8, 33] kj3 (fun kq v8 v33 w' => ∃ (x8_2 : List (S49)) (x33_2 : Int), v33 = .int .i64 x33_2 ∧ Aside0 (spec_MigrateSave.l0 kq a0 x8_2 l2 (l2.length : Int) x33_2 = some (r1, r2)) ∧ Aside0 (kq ≤ kj3) ∧ Aside0 (Kd.R k49 49 w' w.heap.size (fun _ => True) v8 x8_2) ∧ Aside0 (Below w.heap.size w w'))
     case atStart => exact ⟨(y190), (0), tE, H', ⟨Nat.le_refl _⟩, ⟨by (with_reducible repeat (first | apply Kd.R_alloc | apply Kd.R_drewN | apply Kd.R_drew)); exact HO192.out⟩, ⟨by repeat (first | (with_reducible first | exact HB.out | apply below_alloc | apply pw_below_drewN | apply below_drew1) | exact HB.out)⟩⟩
     case round =>
      clear H'
      try clear c1; try clear c2; try clear c13; try clear c14
      obtain ⟨x8_2, x33_2, rfl, HA, HK2, HO_8, HB⟩ := hrel
      cases gk with
      | zero => exact absurd HA.out (by simp [spec_MigrateSave.l0])
      | succ k2 =>
       have H := HA.out
       clear HA
       simp only [spec_MigrateSave.l0] at H
       by_cases c18 : x33_2 < (l2.length : Int)
       ·rw [if_pos c18] at H
        have c18b0 : decide (x33_2 < (l2.length : Int)) = true := decide_eq_true c18
        clear c18
        by_cases c19 : 0 ≤ x33_2
        ·rw [if_pos c19] at H
         have c19b0 : decide (0 ≤ x33_2) = true := decide_eq_true c19
         clear c19
         by_cases c20 : x33_2 < (l2.length : Int)
         ·rw [if_pos c20] at H
          have c20b0 : decide (x33_2 < (l2.length : Int)) = true := decide_eq_true c20
          clear c20
          by_cases c21 : ((rd_T45 l2 x33_2).f0) < a0
          ·rw [if_pos c21] at H
           have c21b0 : decide (((rd_T45 l2 x33_2).f0) < a0) = true := decide_eq_true c21
           clear c21
           have H' := Aside0.mk H
           clear H
           have p193 : 0 ≤ (x33_2 : Int) := of_decide_eq_true hE
           have q193 : x33_2 < (l2.length : Int) := of_decide_eq_true hE
           obtain ⟨ad193, e193, hx193_0, hx193_1, hx193_2, hx193_3, hx193_4⟩ := at_T45 HR2.out x33_2 p193 q193
           cases e193
           replace hx193_0 := (HB.out.cell (World.block_lt_of_cell? w _ hx193_0)).trans hx193_0
           replace hx193_1 := (HB.out.cell (World.block_lt_of_cell? w _ hx193_1)).trans hx193_1
           replace hx193_2 := (HB.out.cell (World.block_lt_of_cell? w _ hx193_2)).trans hx193_2
           replace hx193_3 := (HB.out.cell (World.block_lt_of_cell? w _ hx193_3)).trans hx193_3
           replace hx193_4 := (HB.out.cell (World.block_lt_of_cell? w _ hx193_4)).trans hx193_4
           replace p193 := eq_true p193
           replace q193 := eq_true q193
           go_wp2_with (first | ((with_reducible refine gate_dst (N := 10) rfl ?_); refine box_event rfl (N := 10) rfl (cs := #[.int .i64 0, .int .i64 0, .string (⟨#[]⟩ : ByteArray), .string (⟨#[]⟩ : ByteArray), .int .i64 0]) (t := 45) sE ?_; intro gb194 hg w22 hbox hb; replace HO_8 := Aside0.mk (Kd.R_below (rU HO_8.out) hb); have BK194 := Aside0.mk hbox; have GW194 := gS w hg (lU); have GE194 := gS w hg (lU); replace HB := bH (lU) hb; clear hb hbox hg; have hcz23_0 := cz BK194 0 (.int .i64 0); have hcz23_1 := cz BK194 1 (.int .i64 0); have hcz23_2 := cz BK194 2 (.string (⟨#[]⟩ : ByteArray)); have hcz23_3 := cz BK194 3 (.string (⟨#[]⟩ : ByteArray)); have hcz23_4 := cz BK194 4 (.int .i64 0); have hfz23_0 := fz BK194 0; have hfz23_1 := fz BK194 1; have hfz23_2 := fz BK194 2; have hfz23_3 := fz BK194 3; have hfz23_4 := fz BK194 4) | ((with_reducible refine gate_store (t := 45) (p := 10) rfl ?_); refine store_event (t := 45) (p := 10) (v := ?vo_w24) (w1 := (((((w22.setCell ⟨gb194, 0, none⟩ (.int .i64 ((rd_T45 l2 x33_2).f0))).setCell ⟨gb194, 1, none⟩ (.int .i64 ((rd_T45 l2 x33_2).f1))).setCell ⟨gb194, 2, none⟩ (.string ((rd_T45 l2 x33_2).f2))).setCell ⟨gb194, 3, none⟩ (.string ((rd_T45 l2 x33_2).f3))).setCell ⟨gb194, 4, none⟩ (.int .i64 ((rd_T45 l2 x33_2).f4)))) ?hg ?ho ?hn ?hr ?_; (case ho => rfl); (case hg => rfl); (case hn => rfl); (case hr => first | (go_simp; done) | (go_simp; rfl) | (have hq0_ := (blk_cell BK194.out 0).trans (show _ = some _ from rfl); have hf0_ := blk_frozen BK194.out 0; have hq1_ := (blk_cell BK194.out 1).trans (show _ = some _ from rfl); have hf1_ := blk_frozen BK194.out 1; have hq2_ := (blk_cell BK194.out 2).trans (show _ = some _ from rfl); have hf2_ := blk_frozen BK194.out 2; have hq3_ := (blk_cell BK194.out 3).trans (show _ = some _ from rfl); have hf3_ := blk_frozen BK194.out 3; have hq4_ := (blk_cell BK194.out 4).trans (show _ = some _ from rfl); have hf4_ := blk_frozen BK194.out 4; first | (go_simp; done) | (go_simp; rfl))); intro w24 hw; replace HO_8 : Aside0 (Kd.R k49 49 w24 w.heap.size (fun _ => True) u8 x8_2) := ⟨(by rw [hw]; exact (by (with_reducible repeat (first | apply Kd.R_alloc | apply Kd.R_drewN | apply Kd.R_drew)); exact Kd.R_mono (Kd.R_far (p := ⟨gb194, 4, none⟩) (Kd.R_far (p := ⟨gb194, 3, none⟩) (Kd.R_far (p := ⟨gb194, 2, none⟩) (Kd.R_far (p := ⟨gb194, 1, none⟩) (Kd.R_far (p := ⟨gb194, 0, none⟩) (Kd.R_types HO_8.out BK194.out (by decide)) (fun _ hk => hk.2) (.int .i64 ((rd_T45 l2 x33_2).f0))) (fun _ hk => hk.2) (.int .i64 ((rd_T45 l2 x33_2).f1))) (fun _ hk => hk.2) (.string ((rd_T45 l2 x33_2).f2))) (fun _ hk => hk.2) (.string ((rd_T45 l2 x33_2).f3))) (fun _ hk => hk.2) (.int .i64 ((rd_T45 l2 x33_2).f4))) (fun _ hk => trivial)))⟩; replace BK194 : Aside0 (w24.heap[gb194]? = some (.cells #[.int .i64 ((rd_T45 l2 x33_2).f0), .int .i64 ((rd_T45 l2 x33_2).f1), .string ((rd_T45 l2 x33_2).f2), .string ((rd_T45 l2 x33_2).f3), .int .i64 ((rd_T45 l2 x33_2).f4)] 45 (0, 0))) := ⟨(by rw [hw]; exact (by refine bU ?_; refine blk_put (cs := #[.int .i64 ((rd_T45 l2 x33_2).f0), .int .i64 ((rd_T45 l2 x33_2).f1), .string ((rd_T45 l2 x33_2).f2), .string ((rd_T45 l2 x33_2).f3), .int .i64 0]) ?_ 4 _ rfl; refine bU ?_; refine blk_put (cs := #[.int .i64 ((rd_T45 l2 x33_2).f0), .int .i64 ((rd_T45 l2 x33_2).f1), .string ((rd_T45 l2 x33_2).f2), .string (⟨#[]⟩ : ByteArray), .int .i64 0]) ?_ 3 _ rfl; refine bU ?_; refine blk_put (cs := #[.int .i64 ((rd_T45 l2 x33_2).f0), .int .i64 ((rd_T45 l2 x33_2).f1), .string (⟨#[]⟩ : ByteArray), .string (⟨#[]⟩ : ByteArray), .int .i64 0]) ?_ 2 _ rfl; refine bU ?_; refine blk_put (cs := #[.int .i64 ((rd_T45 l2 x33_2).f0), .int .i64 0, .string (⟨#[]⟩ : ByteArray), .string (⟨#[]⟩ : ByteArray), .int .i64 0]) ?_ 1 _ rfl; refine bU ?_; refine blk_put (cs := #[.int .i64 0, .int .i64 0, .string (⟨#[]⟩ : ByteArray), .string (⟨#[]⟩ : ByteArray), .int .i64 0]) ?_ 0 _ rfl; refine bU ?_; exact BK194.out))⟩; replace HB : Aside0 (Below w.heap.size w w24) := ⟨(by rw [hw]; exact (lV1 GE194))⟩; clear hw; have hcz25_0 := cz BK194 0 (.int .i64 ((rd_T45 l2 x33_2).f0)); have hcz25_1 := cz BK194 1 (.int .i64 ((rd_T45 l2 x33_2).f1)); have hcz25_2 := cz BK194 2 (.string ((rd_T45 l2 x33_2).f2)); have hcz25_3 := cz BK194 3 (.string ((rd_T45 l2 x33_2).f3)); have hcz25_4 := cz BK194 4 (.int .i64 ((rd_T45 l2 x33_2).f4)); have hfz25_0 := fz BK194 0; have hfz25_1 := fz BK194 1; have hfz25_2 := fz BK194 2; have hfz25_3 := fz BK194 3; have hfz25_4 := fz BK194 4))
           go_roundg k2
           case measure => have := HJ3.out; have := HK2.out; omega
           case rel => exact ⟨(x8_2), (wrap64 (x33_2 + 1)), tE, H', ⟨by have := HJ3.out; have := HK2.out; omega⟩, ⟨by (with_reducible repeat (first | apply Kd.R_alloc | apply Kd.R_drewN | apply Kd.R_drew)); exact HO_8.out⟩, ⟨by repeat (first | (with_reducible first | exact HB.out | apply below_alloc | apply pw_below_drewN | apply below_drew1 | refine below_set ?_ GE194.out) | exact HB.out)⟩⟩
          ·rw [if_neg c21] at H
           have c21b0 : decide (((rd_T45 l2 x33_2).f0) < a0) = false := decide_eq_false c21
           clear c21
           replace H := Option.bind_eq_some_iff.mp H
           obtain ⟨t195, A260, H⟩ := H
           replace H : (if ((rd_T45 l2 x33_2).f1) = 5 then (if t195 < 0 then ((spec_l22Put.f k2 x8_2 ((rd_T45 l2 x33_2).f2) ((rd_T45 l2 x33_2).f4) (⟨#[]⟩ : ByteArray)).bind fun t196 => (if (t196.length : Int) > 30 then (some (([] : List (S49)), false)) else (spec_MigrateSave.l0 k2 a0 t196 l2 (l2.length : Int) (wrap64 (x33_2 + 1))))) else (if (x8_2.length : Int) > 30 then (some (([] : List (S49)), false)) else (spec_MigrateSave.l0 k2 a0 x8_2 l2 (l2.length : Int) (wrap64 (x33_2 + 1))))) else (if t195 < 0 then (spec_MigrateSave.l0 k2 a0 x8_2 l2 (l2.length : Int) (wrap64 (x33_2 + 1))) else (if ((rd_T45 l2 x33_2).f1) = 1 then ((spec_l22At.f k2 x8_2 ((rd_T45 l2 x33_2).f3)).bind fun t199 => (if t199 ≥ 0 then (some (([] : List (S49)), false)) else (if 0 ≤ t195 then (if t195 < (x8_2.length : Int) then ((spec_l22Drop.f x8_2 t195).bind fun t202 => ((spec_l22Put.f k2 t202 ((rd_T45 l2 x33_2).f3) ((rd_T49 x8_2 t195).f1) ((rd_T49 x8_2 t195).f2)).bind fun t205 => (spec_MigrateSave.l0 k2 a0 t205 l2 (l2.length : Int) (wrap64 (x33_2 + 1))))) else (none)) else (none)))) else (if ((rd_T45 l2 x33_2).f1) = 4 then ((spec_l22Drop.f x8_2 t195).bind fun t208 => (spec_MigrateSave.l0 k2 a0 t208 l2 (l2.length : Int) (wrap64 (x33_2 + 1)))) else (if 0 ≤ t195 then (if t195 < (x8_2.length : Int) then ((spec_l22Turn.f ((rd_T45 l2 x33_2).f0) ((rd_T45 l2 x33_2).f1) ((rd_T45 l2 x33_2).f2) ((rd_T45 l2 x33_2).f3) ((rd_T45 l2 x33_2).f4) ((rd_T49 x8_2 t195).f1)).bind fun bt212 => (if bt212.2 = true then (spec_MigrateSave.l0 k2 a0 (x8_2.set (t195 : Int).toNat (⟨(rd_T49 x8_2 t195).f0, bt212.1, (rd_T49 x8_2 t195).f2⟩ : S49)) l2 (l2.length : Int) (wrap64 (x33_2 + 1))) else (some (([] : List (S49)), false)))) else (none)) else (none)))))) = some (r1, r2) := H
           have A26 := Aside0.mk A260
           clear A260
           by_cases c27 : ((rd_T45 l2 x33_2).f1) = 5
           ·rw [if_pos c27] at H
            have c27b0 : (((rd_T45 l2 x33_2).f1) == 5) = true := beq_iff_eq.mpr c27
            have c27b1 : (((rd_T45 l2 x33_2).f1) != 5) = false := bne_eq_false_iff_eq.mpr c27
            clear c27
            by_cases c28 : t195 < 0
            ·rw [if_pos c28] at H
             have c28b0 : decide (t195 < 0) = true := decide_eq_true c28
             clear c28
             replace H := Option.bind_eq_some_iff.mp H
             obtain ⟨t196, A290, H⟩ := H
             replace H : (if (t196.length : Int) > 30 then (some (([] : List (S49)), false)) else (spec_MigrateSave.l0 k2 a0 t196 l2 (l2.length : Int) (wrap64 (x33_2 + 1)))) = some (r1, r2) := H
             have A29 := Aside0.mk A290
             clear A290
             by_cases c30 : (t196.length : Int) > 30
             ·rw [if_pos c30] at H
              have c30b0 : decide (30 < (t196.length : Int)) = true := decide_eq_true c30
              have c30b1 : decide (30 < t196.length) = true := decide_eq_true (by omega)
              clear c30
              simp only [Option.some.injEq, Prod.mk.injEq] at H
              obtain ⟨rfl, rfl⟩ := H
              have p193 : 0 ≤ (x33_2 : Int) := of_decide_eq_true hE
              have q193 : x33_2 < (l2.length : Int) := of_decide_eq_true hE
              obtain ⟨ad193, e193, hx193_0, hx193_1, hx193_2, hx193_3, hx193_4⟩ := at_T45 HR2.out x33_2 p193 q193
              cases e193
              replace hx193_0 := (HB.out.cell (World.block_lt_of_cell? w _ hx193_0)).trans hx193_0
              replace hx193_1 := (HB.out.cell (World.block_lt_of_cell? w _ hx193_1)).trans hx193_1
              replace hx193_2 := (HB.out.cell (World.block_lt_of_cell? w _ hx193_2)).trans hx193_2
              replace hx193_3 := (HB.out.cell (World.block_lt_of_cell? w _ hx193_3)).trans hx193_3
              replace hx193_4 := (HB.out.cell (World.block_lt_of_cell? w _ hx193_4)).trans hx193_4
              replace p193 := eq_true p193
              replace q193 := eq_true q193
              go_wp2_with (first | ((with_reducible refine gate_dst (N := 10) rfl ?_); refine box_event rfl (N := 10) rfl (cs := #[.int .i64 0, .int .i64 0, .string (⟨#[]⟩ : ByteArray), .string (⟨#[]⟩ : ByteArray), .int .i64 0]) (t := 45) sE ?_; intro gb194 hg w31 hbox hb; replace HO_8 := Aside0.mk (Kd.R_below (rU HO_8.out) hb); have BK194 := Aside0.mk hbox; have GW194 := gS w hg (lU); have GE194 := gS w hg (lU); replace HB := bH (lU) hb; clear hb hbox hg; have hcz32_0 := cz BK194 0 (.int .i64 0); have hcz32_1 := cz BK194 1 (.int .i64 0); have hcz32_2 := cz BK194 2 (.string (⟨#[]⟩ : ByteArray)); have hcz32_3 := cz BK194 3 (.string (⟨#[]⟩ : ByteArray)); have hcz32_4 := cz BK194 4 (.int .i64 0); have hfz32_0 := fz BK194 0; have hfz32_1 := fz BK194 1; have hfz32_2 := fz BK194 2; have hfz32_3 := fz BK194 3; have hfz32_4 := fz BK194 4) | ((with_reducible refine gate_store (t := 45) (p := 10) rfl ?_); refine store_event (t := 45) (p := 10) (v := ?vo_w33) (w1 := (((((w31.setCell ⟨gb194, 0, none⟩ (.int .i64 ((rd_T45 l2 x33_2).f0))).setCell ⟨gb194, 1, none⟩ (.int .i64 ((rd_T45 l2 x33_2).f1))).setCell ⟨gb194, 2, none⟩ (.string ((rd_T45 l2 x33_2).f2))).setCell ⟨gb194, 3, none⟩ (.string ((rd_T45 l2 x33_2).f3))).setCell ⟨gb194, 4, none⟩ (.int .i64 ((rd_T45 l2 x33_2).f4)))) ?hg ?ho ?hn ?hr ?_; (case ho => rfl); (case hg => rfl); (case hn => rfl); (case hr => first | (go_simp; done) | (go_simp; rfl) | (have hq0_ := (blk_cell BK194.out 0).trans (show _ = some _ from rfl); have hf0_ := blk_frozen BK194.out 0; have hq1_ := (blk_cell BK194.out 1).trans (show _ = some _ from rfl); have hf1_ := blk_frozen BK194.out 1; have hq2_ := (blk_cell BK194.out 2).trans (show _ = some _ from rfl); have hf2_ := blk_frozen BK194.out 2; have hq3_ := (blk_cell BK194.out 3).trans (show _ = some _ from rfl); have hf3_ := blk_frozen BK194.out 3; have hq4_ := (blk_cell BK194.out 4).trans (show _ = some _ from rfl); have hf4_ := blk_frozen BK194.out 4; first | (go_simp; done) | (go_simp; rfl))); intro w33 hw; replace HO_8 : Aside0 (Kd.R k49 49 w33 w.heap.size (fun _ => True) u8 x8_2) := ⟨(by rw [hw]; exact (by (with_reducible repeat (first | apply Kd.R_alloc | apply Kd.R_drewN | apply Kd.R_drew)); exact Kd.R_mono (Kd.R_far (p := ⟨gb194, 4, none⟩) (Kd.R_far (p := ⟨gb194, 3, none⟩) (Kd.R_far (p := ⟨gb194, 2, none⟩) (Kd.R_far (p := ⟨gb194, 1, none⟩) (Kd.R_far (p := ⟨gb194, 0, none⟩) (Kd.R_types HO_8.out BK194.out (by decide)) (fun _ hk => hk.2) (.int .i64 ((rd_T45 l2 x33_2).f0))) (fun _ hk => hk.2) (.int .i64 ((rd_T45 l2 x33_2).f1))) (fun _ hk => hk.2) (.string ((rd_T45 l2 x33_2).f2))) (fun _ hk => hk.2) (.string ((rd_T45 l2 x33_2).f3))) (fun _ hk => hk.2) (.int .i64 ((rd_T45 l2 x33_2).f4))) (fun _ hk => trivial)))⟩; replace BK194 : Aside0 (w33.heap[gb194]? = some (.cells #[.int .i64 ((rd_T45 l2 x33_2).f0), .int .i64 ((rd_T45 l2 x33_2).f1), .string ((rd_T45 l2 x33_2).f2), .string ((rd_T45 l2 x33_2).f3), .int .i64 ((rd_T45 l2 x33_2).f4)] 45 (0, 0))) := ⟨(by rw [hw]; exact (by refine bU ?_; refine blk_put (cs := #[.int .i64 ((rd_T45 l2 x33_2).f0), .int .i64 ((rd_T45 l2 x33_2).f1), .string ((rd_T45 l2 x33_2).f2), .string ((rd_T45 l2 x33_2).f3), .int .i64 0]) ?_ 4 _ rfl; refine bU ?_; refine blk_put (cs := #[.int .i64 ((rd_T45 l2 x33_2).f0), .int .i64 ((rd_T45 l2 x33_2).f1), .string ((rd_T45 l2 x33_2).f2), .string (⟨#[]⟩ : ByteArray), .int .i64 0]) ?_ 3 _ rfl; refine bU ?_; refine blk_put (cs := #[.int .i64 ((rd_T45 l2 x33_2).f0), .int .i64 ((rd_T45 l2 x33_2).f1), .string (⟨#[]⟩ : ByteArray), .string (⟨#[]⟩ : ByteArray), .int .i64 0]) ?_ 2 _ rfl; refine bU ?_; refine blk_put (cs := #[.int .i64 ((rd_T45 l2 x33_2).f0), .int .i64 0, .string (⟨#[]⟩ : ByteArray), .string (⟨#[]⟩ : ByteArray), .int .i64 0]) ?_ 1 _ rfl; refine bU ?_; refine blk_put (cs := #[.int .i64 0, .int .i64 0, .string (⟨#[]⟩ : ByteArray), .string (⟨#[]⟩ : ByteArray), .int .i64 0]) ?_ 0 _ rfl; refine bU ?_; exact BK194.out))⟩; replace HB : Aside0 (Below w.heap.size w w33) := ⟨(by rw [hw]; exact (lV1 GE194))⟩; clear hw; have hcz34_0 := cz BK194 0 (.int .i64 ((rd_T45 l2 x33_2).f0)); have hcz34_1 := cz BK194 1 (.int .i64 ((rd_T45 l2 x33_2).f1)); have hcz34_2 := cz BK194 2 (.string ((rd_T45 l2 x33_2).f2)); have hcz34_3 := cz BK194 3 (.string ((rd_T45 l2 x33_2).f3)); have hcz34_4 := cz BK194 4 (.int .i64 ((rd_T45 l2 x33_2).f4)); have hfz34_0 := fz BK194 0; have hfz34_1 := fz BK194 1; have hfz34_2 := fz BK194 2; have hfz34_3 := fz BK194 3; have hfz34_4 := fz BK194 4; obtain ⟨Ao35, co35, eo35⟩ := Kd.R_slice HO_8.out; subst eo35) | ((with_reducible refine gate_callee (f := 31) rfl ?_); refine goesL_ (some 44) rfl rfl Try.func31 (by kernel_rfl) rfl #[.slice Ao35 x8_2.length co35, .string ((rd_T45 l2 x33_2).f2)] rfl aE ?_; (with_reducible refine (spec_l22At.calls k2 _ _ x8_2 ((rd_T45 l2 x33_2).f2) t195 _ ?side1 ?side2 A26.out).mono ?_); (case side1 => exact cU (Kd.R_reads' HO_8.out).2.2); (case side2 => exact (Kd.R_reads' HO_8.out).2.1); rintro e w36 ⟨rfl, hb⟩; refine ⟨_, rfl, ?_⟩; replace HO_8 := Aside0.mk (Kd.R_below (rU HO_8.out) hb); replace BK194 := bB (bV BK194) hb; replace HB := bH (lV1 GE194) hb; (try clear hb); have hcz37_0 := cz BK194 0 (.int .i64 ((rd_T45 l2 x33_2).f0)); have hcz37_1 := cz BK194 1 (.int .i64 ((rd_T45 l2 x33_2).f1)); have hcz37_2 := cz BK194 2 (.string ((rd_T45 l2 x33_2).f2)); have hcz37_3 := cz BK194 3 (.string ((rd_T45 l2 x33_2).f3)); have hcz37_4 := cz BK194 4 (.int .i64 ((rd_T45 l2 x33_2).f4)); have hfz37_0 := fz BK194 0; have hfz37_1 := fz BK194 1; have hfz37_2 := fz BK194 2; have hfz37_3 := fz BK194 3; have hfz37_4 := fz BK194 4) | ((with_reducible refine gate_callee (f := 32) rfl ?_); refine goesL_ (some 56) rfl rfl Try.func32 (by kernel_rfl) rfl #[.slice Ao35 x8_2.length co35, .agg #[.string ((rd_T45 l2 x33_2).f2), .int .i64 ((rd_T45 l2 x33_2).f4), .string (⟨#[]⟩ : ByteArray)]] rfl aE ?_; (with_reducible refine (spec_l22Put.calls k2 _ _ x8_2 ((rd_T45 l2 x33_2).f2) ((rd_T45 l2 x33_2).f4) (⟨#[]⟩ : ByteArray) t196 _ ?side1 ?side2 A29.out).mono ?_); (case side1 => exact cU (Kd.R_reads' HO_8.out).2.2); (case side2 => exact (Kd.R_reads' HO_8.out).2.1); rintro e w38 ⟨v197, rfl, ho0, hb⟩; refine ⟨_, rfl, ?_⟩; have HO198 := Aside0.mk (Kd.R_lower (Kd.R_new' ho0 (Kd.R_lt (rU HO_8.out))) (below_size (lV1 GE194))); replace HO_8 := Aside0.mk (Kd.R_elder' (rU HO_8.out) (Kd.R_base ho0) hb); replace BK194 := bB (bV BK194) hb; replace HB := bH (lV1 GE194) hb; (try clear hb); (try clear ho0); obtain ⟨Ao39, co39, eo39⟩ := Kd.R_slice HO198.out; subst eo39))
              go_ret2
              exact ⟨_, eE, by first | exact Kd.R_nil _ _ _ _ _ | exact Kd.N_nil _ _ _ _ _ | exact Kd.V_nil _ _ _ _ _ | exact Kd.Q_nil _ _ _ _ _ | exact Kd.S_nil _ _ _ _ _, lV1 GE194⟩
             ·rw [if_neg c30] at H
              have c30b0 : decide (30 < (t196.length : Int)) = false := decide_eq_false c30
              have c30b1 : decide (30 < t196.length) = false := decide_eq_false (by omega)
              clear c30
              have H' := Aside0.mk H
              clear H
              have p193 : 0 ≤ (x33_2 : Int) := of_decide_eq_true hE
              have q193 : x33_2 < (l2.length : Int) := of_decide_eq_true hE
              obtain ⟨ad193, e193, hx193_0, hx193_1, hx193_2, hx193_3, hx193_4⟩ := at_T45 HR2.out x33_2 p193 q193
              cases e193
              replace hx193_0 := (HB.out.cell (World.block_lt_of_cell? w _ hx193_0)).trans hx193_0
              replace hx193_1 := (HB.out.cell (World.block_lt_of_cell? w _ hx193_1)).trans hx193_1
              replace hx193_2 := (HB.out.cell (World.block_lt_of_cell? w _ hx193_2)).trans hx193_2
              replace hx193_3 := (HB.out.cell (World.block_lt_of_cell? w _ hx193_3)).trans hx193_3
              replace hx193_4 := (HB.out.cell (World.block_lt_of_cell? w _ hx193_4)).trans hx193_4
              replace p193 := eq_true p193
              replace q193 := eq_true q193
              go_wp2_with (first | ((with_reducible refine gate_dst (N := 10) rfl ?_); refine box_event rfl (N := 10) rfl (cs := #[.int .i64 0, .int .i64 0, .string (⟨#[]⟩ : ByteArray), .string (⟨#[]⟩ : ByteArray), .int .i64 0]) (t := 45) sE ?_; intro gb194 hg w40 hbox hb; replace HO_8 := Aside0.mk (Kd.R_below (rU HO_8.out) hb); have BK194 := Aside0.mk hbox; have GW194 := gS w hg (lU); have GE194 := gS w hg (lU); replace HB := bH (lU) hb; clear hb hbox hg; have hcz41_0 := cz BK194 0 (.int .i64 0); have hcz41_1 := cz BK194 1 (.int .i64 0); have hcz41_2 := cz BK194 2 (.string (⟨#[]⟩ : ByteArray)); have hcz41_3 := cz BK194 3 (.string (⟨#[]⟩ : ByteArray)); have hcz41_4 := cz BK194 4 (.int .i64 0); have hfz41_0 := fz BK194 0; have hfz41_1 := fz BK194 1; have hfz41_2 := fz BK194 2; have hfz41_3 := fz BK194 3; have hfz41_4 := fz BK194 4) | ((with_reducible refine gate_store (t := 45) (p := 10) rfl ?_); refine store_event (t := 45) (p := 10) (v := ?vo_w42) (w1 := (((((w40.setCell ⟨gb194, 0, none⟩ (.int .i64 ((rd_T45 l2 x33_2).f0))).setCell ⟨gb194, 1, none⟩ (.int .i64 ((rd_T45 l2 x33_2).f1))).setCell ⟨gb194, 2, none⟩ (.string ((rd_T45 l2 x33_2).f2))).setCell ⟨gb194, 3, none⟩ (.string ((rd_T45 l2 x33_2).f3))).setCell ⟨gb194, 4, none⟩ (.int .i64 ((rd_T45 l2 x33_2).f4)))) ?hg ?ho ?hn ?hr ?_; (case ho => rfl); (case hg => rfl); (case hn => rfl); (case hr => first | (go_simp; done) | (go_simp; rfl) | (have hq0_ := (blk_cell BK194.out 0).trans (show _ = some _ from rfl); have hf0_ := blk_frozen BK194.out 0; have hq1_ := (blk_cell BK194.out 1).trans (show _ = some _ from rfl); have hf1_ := blk_frozen BK194.out 1; have hq2_ := (blk_cell BK194.out 2).trans (show _ = some _ from rfl); have hf2_ := blk_frozen BK194.out 2; have hq3_ := (blk_cell BK194.out 3).trans (show _ = some _ from rfl); have hf3_ := blk_frozen BK194.out 3; have hq4_ := (blk_cell BK194.out 4).trans (show _ = some _ from rfl); have hf4_ := blk_frozen BK194.out 4; first | (go_simp; done) | (go_simp; rfl))); intro w42 hw; replace HO_8 : Aside0 (Kd.R k49 49 w42 w.heap.size (fun _ => True) u8 x8_2) := ⟨(by rw [hw]; exact (by (with_reducible repeat (first | apply Kd.R_alloc | apply Kd.R_drewN | apply Kd.R_drew)); exact Kd.R_mono (Kd.R_far (p := ⟨gb194, 4, none⟩) (Kd.R_far (p := ⟨gb194, 3, none⟩) (Kd.R_far (p := ⟨gb194, 2, none⟩) (Kd.R_far (p := ⟨gb194, 1, none⟩) (Kd.R_far (p := ⟨gb194, 0, none⟩) (Kd.R_types HO_8.out BK194.out (by decide)) (fun _ hk => hk.2) (.int .i64 ((rd_T45 l2 x33_2).f0))) (fun _ hk => hk.2) (.int .i64 ((rd_T45 l2 x33_2).f1))) (fun _ hk => hk.2) (.string ((rd_T45 l2 x33_2).f2))) (fun _ hk => hk.2) (.string ((rd_T45 l2 x33_2).f3))) (fun _ hk => hk.2) (.int .i64 ((rd_T45 l2 x33_2).f4))) (fun _ hk => trivial)))⟩; replace BK194 : Aside0 (w42.heap[gb194]? = some (.cells #[.int .i64 ((rd_T45 l2 x33_2).f0), .int .i64 ((rd_T45 l2 x33_2).f1), .string ((rd_T45 l2 x33_2).f2), .string ((rd_T45 l2 x33_2).f3), .int .i64 ((rd_T45 l2 x33_2).f4)] 45 (0, 0))) := ⟨(by rw [hw]; exact (by refine bU ?_; refine blk_put (cs := #[.int .i64 ((rd_T45 l2 x33_2).f0), .int .i64 ((rd_T45 l2 x33_2).f1), .string ((rd_T45 l2 x33_2).f2), .string ((rd_T45 l2 x33_2).f3), .int .i64 0]) ?_ 4 _ rfl; refine bU ?_; refine blk_put (cs := #[.int .i64 ((rd_T45 l2 x33_2).f0), .int .i64 ((rd_T45 l2 x33_2).f1), .string ((rd_T45 l2 x33_2).f2), .string (⟨#[]⟩ : ByteArray), .int .i64 0]) ?_ 3 _ rfl; refine bU ?_; refine blk_put (cs := #[.int .i64 ((rd_T45 l2 x33_2).f0), .int .i64 ((rd_T45 l2 x33_2).f1), .string (⟨#[]⟩ : ByteArray), .string (⟨#[]⟩ : ByteArray), .int .i64 0]) ?_ 2 _ rfl; refine bU ?_; refine blk_put (cs := #[.int .i64 ((rd_T45 l2 x33_2).f0), .int .i64 0, .string (⟨#[]⟩ : ByteArray), .string (⟨#[]⟩ : ByteArray), .int .i64 0]) ?_ 1 _ rfl; refine bU ?_; refine blk_put (cs := #[.int .i64 0, .int .i64 0, .string (⟨#[]⟩ : ByteArray), .string (⟨#[]⟩ : ByteArray), .int .i64 0]) ?_ 0 _ rfl; refine bU ?_; exact BK194.out))⟩; replace HB : Aside0 (Below w.heap.size w w42) := ⟨(by rw [hw]; exact (lV1 GE194))⟩; clear hw; have hcz43_0 := cz BK194 0 (.int .i64 ((rd_T45 l2 x33_2).f0)); have hcz43_1 := cz BK194 1 (.int .i64 ((rd_T45 l2 x33_2).f1)); have hcz43_2 := cz BK194 2 (.string ((rd_T45 l2 x33_2).f2)); have hcz43_3 := cz BK194 3 (.string ((rd_T45 l2 x33_2).f3)); have hcz43_4 := cz BK194 4 (.int .i64 ((rd_T45 l2 x33_2).f4)); have hfz43_0 := fz BK194 0; have hfz43_1 := fz BK194 1; have hfz43_2 := fz BK194 2; have hfz43_3 := fz BK194 3; have hfz43_4 := fz BK194 4; obtain ⟨Ao44, co44, eo44⟩ := Kd.R_slice HO_8.out; subst eo44) | ((with_reducible refine gate_callee (f := 31) rfl ?_); refine goesL_ (some 44) rfl rfl Try.func31 (by kernel_rfl) rfl #[.slice Ao44 x8_2.length co44, .string ((rd_T45 l2 x33_2).f2)] rfl aE ?_; (with_reducible refine (spec_l22At.calls k2 _ _ x8_2 ((rd_T45 l2 x33_2).f2) t195 _ ?side1 ?side2 A26.out).mono ?_); (case side1 => exact cU (Kd.R_reads' HO_8.out).2.2); (case side2 => exact (Kd.R_reads' HO_8.out).2.1); rintro e w45 ⟨rfl, hb⟩; refine ⟨_, rfl, ?_⟩; replace HO_8 := Aside0.mk (Kd.R_below (rU HO_8.out) hb); replace BK194 := bB (bV BK194) hb; replace HB := bH (lV1 GE194) hb; (try clear hb); have hcz46_0 := cz BK194 0 (.int .i64 ((rd_T45 l2 x33_2).f0)); have hcz46_1 := cz BK194 1 (.int .i64 ((rd_T45 l2 x33_2).f1)); have hcz46_2 := cz BK194 2 (.string ((rd_T45 l2 x33_2).f2)); have hcz46_3 := cz BK194 3 (.string ((rd_T45 l2 x33_2).f3)); have hcz46_4 := cz BK194 4 (.int .i64 ((rd_T45 l2 x33_2).f4)); have hfz46_0 := fz BK194 0; have hfz46_1 := fz BK194 1; have hfz46_2 := fz BK194 2; have hfz46_3 := fz BK194 3; have hfz46_4 := fz BK194 4) | ((with_reducible refine gate_callee (f := 32) rfl ?_); refine goesL_ (some 56) rfl rfl Try.func32 (by kernel_rfl) rfl #[.slice Ao44 x8_2.length co44, .agg #[.string ((rd_T45 l2 x33_2).f2), .int .i64 ((rd_T45 l2 x33_2).f4), .string (⟨#[]⟩ : ByteArray)]] rfl aE ?_; (with_reducible refine (spec_l22Put.calls k2 _ _ x8_2 ((rd_T45 l2 x33_2).f2) ((rd_T45 l2 x33_2).f4) (⟨#[]⟩ : ByteArray) t196 _ ?side1 ?side2 A29.out).mono ?_); (case side1 => exact cU (Kd.R_reads' HO_8.out).2.2); (case side2 => exact (Kd.R_reads' HO_8.out).2.1); rintro e w47 ⟨v197, rfl, ho0, hb⟩; refine ⟨_, rfl, ?_⟩; have HO198 := Aside0.mk (Kd.R_lower (Kd.R_new' ho0 (Kd.R_lt (rU HO_8.out))) (below_size (lV1 GE194))); replace HO_8 := Aside0.mk (Kd.R_elder' (rU HO_8.out) (Kd.R_base ho0) hb); replace BK194 := bB (bV BK194) hb; replace HB := bH (lV1 GE194) hb; (try clear hb); (try clear ho0); obtain ⟨Ao48, co48, eo48⟩ := Kd.R_slice HO198.out; subst eo48))
              go_roundg k2
              case measure => have := HJ3.out; have := HK2.out; omega
              case rel => exact ⟨(t196), (wrap64 (x33_2 + 1)), tE, H', ⟨by have := HJ3.out; have := HK2.out; omega⟩, ⟨by (with_reducible repeat (first | apply Kd.R_alloc | apply Kd.R_drewN | apply Kd.R_drew)); exact Kd.R_mono HO198.out (fun _ hk => trivial)⟩, ⟨by repeat (first | (with_reducible first | exact HB.out | apply below_alloc | apply pw_below_drewN | apply below_drew1 | refine below_set ?_ GE194.out) | exact HB.out)⟩⟩
            ·rw [if_neg c28] at H
             have c28b0 : decide (t195 < 0) = false := decide_eq_false c28
             clear c28
             by_cases c49 : (x8_2.length : Int) > 30
             ·rw [if_pos c49] at H
              have c49b0 : decide (30 < (x8_2.length : Int)) = true := decide_eq_true c49
              have c49b1 : decide (30 < x8_2.length) = true := decide_eq_true (by omega)
              clear c49
              simp only [Option.some.injEq, Prod.mk.injEq] at H
              obtain ⟨rfl, rfl⟩ := H
              have p193 : 0 ≤ (x33_2 : Int) := of_decide_eq_true hE
              have q193 : x33_2 < (l2.length : Int) := of_decide_eq_true hE
              obtain ⟨ad193, e193, hx193_0, hx193_1, hx193_2, hx193_3, hx193_4⟩ := at_T45 HR2.out x33_2 p193 q193
              cases e193
              replace hx193_0 := (HB.out.cell (World.block_lt_of_cell? w _ hx193_0)).trans hx193_0
              replace hx193_1 := (HB.out.cell (World.block_lt_of_cell? w _ hx193_1)).trans hx193_1
              replace hx193_2 := (HB.out.cell (World.block_lt_of_cell? w _ hx193_2)).trans hx193_2
              replace hx193_3 := (HB.out.cell (World.block_lt_of_cell? w _ hx193_3)).trans hx193_3
              replace hx193_4 := (HB.out.cell (World.block_lt_of_cell? w _ hx193_4)).trans hx193_4
              replace p193 := eq_true p193
              replace q193 := eq_true q193
              go_wp2_with (first | ((with_reducible refine gate_dst (N := 10) rfl ?_); refine box_event rfl (N := 10) rfl (cs := #[.int .i64 0, .int .i64 0, .string (⟨#[]⟩ : ByteArray), .string (⟨#[]⟩ : ByteArray), .int .i64 0]) (t := 45) sE ?_; intro gb194 hg w50 hbox hb; replace HO_8 := Aside0.mk (Kd.R_below (rU HO_8.out) hb); have BK194 := Aside0.mk hbox; have GW194 := gS w hg (lU); have GE194 := gS w hg (lU); replace HB := bH (lU) hb; clear hb hbox hg; have hcz51_0 := cz BK194 0 (.int .i64 0); have hcz51_1 := cz BK194 1 (.int .i64 0); have hcz51_2 := cz BK194 2 (.string (⟨#[]⟩ : ByteArray)); have hcz51_3 := cz BK194 3 (.string (⟨#[]⟩ : ByteArray)); have hcz51_4 := cz BK194 4 (.int .i64 0); have hfz51_0 := fz BK194 0; have hfz51_1 := fz BK194 1; have hfz51_2 := fz BK194 2; have hfz51_3 := fz BK194 3; have hfz51_4 := fz BK194 4) | ((with_reducible refine gate_store (t := 45) (p := 10) rfl ?_); refine store_event (t := 45) (p := 10) (v := ?vo_w52) (w1 := (((((w50.setCell ⟨gb194, 0, none⟩ (.int .i64 ((rd_T45 l2 x33_2).f0))).setCell ⟨gb194, 1, none⟩ (.int .i64 ((rd_T45 l2 x33_2).f1))).setCell ⟨gb194, 2, none⟩ (.string ((rd_T45 l2 x33_2).f2))).setCell ⟨gb194, 3, none⟩ (.string ((rd_T45 l2 x33_2).f3))).setCell ⟨gb194, 4, none⟩ (.int .i64 ((rd_T45 l2 x33_2).f4)))) ?hg ?ho ?hn ?hr ?_; (case ho => rfl); (case hg => rfl); (case hn => rfl); (case hr => first | (go_simp; done) | (go_simp; rfl) | (have hq0_ := (blk_cell BK194.out 0).trans (show _ = some _ from rfl); have hf0_ := blk_frozen BK194.out 0; have hq1_ := (blk_cell BK194.out 1).trans (show _ = some _ from rfl); have hf1_ := blk_frozen BK194.out 1; have hq2_ := (blk_cell BK194.out 2).trans (show _ = some _ from rfl); have hf2_ := blk_frozen BK194.out 2; have hq3_ := (blk_cell BK194.out 3).trans (show _ = some _ from rfl); have hf3_ := blk_frozen BK194.out 3; have hq4_ := (blk_cell BK194.out 4).trans (show _ = some _ from rfl); have hf4_ := blk_frozen BK194.out 4; first | (go_simp; done) | (go_simp; rfl))); intro w52 hw; replace HO_8 : Aside0 (Kd.R k49 49 w52 w.heap.size (fun _ => True) u8 x8_2) := ⟨(by rw [hw]; exact (by (with_reducible repeat (first | apply Kd.R_alloc | apply Kd.R_drewN | apply Kd.R_drew)); exact Kd.R_mono (Kd.R_far (p := ⟨gb194, 4, none⟩) (Kd.R_far (p := ⟨gb194, 3, none⟩) (Kd.R_far (p := ⟨gb194, 2, none⟩) (Kd.R_far (p := ⟨gb194, 1, none⟩) (Kd.R_far (p := ⟨gb194, 0, none⟩) (Kd.R_types HO_8.out BK194.out (by decide)) (fun _ hk => hk.2) (.int .i64 ((rd_T45 l2 x33_2).f0))) (fun _ hk => hk.2) (.int .i64 ((rd_T45 l2 x33_2).f1))) (fun _ hk => hk.2) (.string ((rd_T45 l2 x33_2).f2))) (fun _ hk => hk.2) (.string ((rd_T45 l2 x33_2).f3))) (fun _ hk => hk.2) (.int .i64 ((rd_T45 l2 x33_2).f4))) (fun _ hk => trivial)))⟩; replace BK194 : Aside0 (w52.heap[gb194]? = some (.cells #[.int .i64 ((rd_T45 l2 x33_2).f0), .int .i64 ((rd_T45 l2 x33_2).f1), .string ((rd_T45 l2 x33_2).f2), .string ((rd_T45 l2 x33_2).f3), .int .i64 ((rd_T45 l2 x33_2).f4)] 45 (0, 0))) := ⟨(by rw [hw]; exact (by refine bU ?_; refine blk_put (cs := #[.int .i64 ((rd_T45 l2 x33_2).f0), .int .i64 ((rd_T45 l2 x33_2).f1), .string ((rd_T45 l2 x33_2).f2), .string ((rd_T45 l2 x33_2).f3), .int .i64 0]) ?_ 4 _ rfl; refine bU ?_; refine blk_put (cs := #[.int .i64 ((rd_T45 l2 x33_2).f0), .int .i64 ((rd_T45 l2 x33_2).f1), .string ((rd_T45 l2 x33_2).f2), .string (⟨#[]⟩ : ByteArray), .int .i64 0]) ?_ 3 _ rfl; refine bU ?_; refine blk_put (cs := #[.int .i64 ((rd_T45 l2 x33_2).f0), .int .i64 ((rd_T45 l2 x33_2).f1), .string (⟨#[]⟩ : ByteArray), .string (⟨#[]⟩ : ByteArray), .int .i64 0]) ?_ 2 _ rfl; refine bU ?_; refine blk_put (cs := #[.int .i64 ((rd_T45 l2 x33_2).f0), .int .i64 0, .string (⟨#[]⟩ : ByteArray), .string (⟨#[]⟩ : ByteArray), .int .i64 0]) ?_ 1 _ rfl; refine bU ?_; refine blk_put (cs := #[.int .i64 0, .int .i64 0, .string (⟨#[]⟩ : ByteArray), .string (⟨#[]⟩ : ByteArray), .int .i64 0]) ?_ 0 _ rfl; refine bU ?_; exact BK194.out))⟩; replace HB : Aside0 (Below w.heap.size w w52) := ⟨(by rw [hw]; exact (lV1 GE194))⟩; clear hw; have hcz53_0 := cz BK194 0 (.int .i64 ((rd_T45 l2 x33_2).f0)); have hcz53_1 := cz BK194 1 (.int .i64 ((rd_T45 l2 x33_2).f1)); have hcz53_2 := cz BK194 2 (.string ((rd_T45 l2 x33_2).f2)); have hcz53_3 := cz BK194 3 (.string ((rd_T45 l2 x33_2).f3)); have hcz53_4 := cz BK194 4 (.int .i64 ((rd_T45 l2 x33_2).f4)); have hfz53_0 := fz BK194 0; have hfz53_1 := fz BK194 1; have hfz53_2 := fz BK194 2; have hfz53_3 := fz BK194 3; have hfz53_4 := fz BK194 4; obtain ⟨Ao54, co54, eo54⟩ := Kd.R_slice HO_8.out; subst eo54) | ((with_reducible refine gate_callee (f := 31) rfl ?_); refine goesL_ (some 44) rfl rfl Try.func31 (by kernel_rfl) rfl #[.slice Ao54 x8_2.length co54, .string ((rd_T45 l2 x33_2).f2)] rfl aE ?_; (with_reducible refine (spec_l22At.calls k2 _ _ x8_2 ((rd_T45 l2 x33_2).f2) t195 _ ?side1 ?side2 A26.out).mono ?_); (case side1 => exact cU (Kd.R_reads' HO_8.out).2.2); (case side2 => exact (Kd.R_reads' HO_8.out).2.1); rintro e w55 ⟨rfl, hb⟩; refine ⟨_, rfl, ?_⟩; replace HO_8 := Aside0.mk (Kd.R_below (rU HO_8.out) hb); replace BK194 := bB (bV BK194) hb; replace HB := bH (lV1 GE194) hb; (try clear hb); have hcz56_0 := cz BK194 0 (.int .i64 ((rd_T45 l2 x33_2).f0)); have hcz56_1 := cz BK194 1 (.int .i64 ((rd_T45 l2 x33_2).f1)); have hcz56_2 := cz BK194 2 (.string ((rd_T45 l2 x33_2).f2)); have hcz56_3 := cz BK194 3 (.string ((rd_T45 l2 x33_2).f3)); have hcz56_4 := cz BK194 4 (.int .i64 ((rd_T45 l2 x33_2).f4)); have hfz56_0 := fz BK194 0; have hfz56_1 := fz BK194 1; have hfz56_2 := fz BK194 2; have hfz56_3 := fz BK194 3; have hfz56_4 := fz BK194 4))
              go_ret2
              exact ⟨_, eE, by first | exact Kd.R_nil _ _ _ _ _ | exact Kd.N_nil _ _ _ _ _ | exact Kd.V_nil _ _ _ _ _ | exact Kd.Q_nil _ _ _ _ _ | exact Kd.S_nil _ _ _ _ _, lV1 GE194⟩
             ·rw [if_neg c49] at H
              have c49b0 : decide (30 < (x8_2.length : Int)) = false := decide_eq_false c49
              have c49b1 : decide (30 < x8_2.length) = false := decide_eq_false (by omega)
              clear c49
              have H' := Aside0.mk H
              clear H
              have p193 : 0 ≤ (x33_2 : Int) := of_decide_eq_true hE
              have q193 : x33_2 < (l2.length : Int) := of_decide_eq_true hE
              obtain ⟨ad193, e193, hx193_0, hx193_1, hx193_2, hx193_3, hx193_4⟩ := at_T45 HR2.out x33_2 p193 q193
              cases e193
              replace hx193_0 := (HB.out.cell (World.block_lt_of_cell? w _ hx193_0)).trans hx193_0
              replace hx193_1 := (HB.out.cell (World.block_lt_of_cell? w _ hx193_1)).trans hx193_1
              replace hx193_2 := (HB.out.cell (World.block_lt_of_cell? w _ hx193_2)).trans hx193_2
              replace hx193_3 := (HB.out.cell (World.block_lt_of_cell? w _ hx193_3)).trans hx193_3
              replace hx193_4 := (HB.out.cell (World.block_lt_of_cell? w _ hx193_4)).trans hx193_4
              replace p193 := eq_true p193
              replace q193 := eq_true q193
              go_wp2_with (first | ((with_reducible refine gate_dst (N := 10) rfl ?_); refine box_event rfl (N := 10) rfl (cs := #[.int .i64 0, .int .i64 0, .string (⟨#[]⟩ : ByteArray), .string (⟨#[]⟩ : ByteArray), .int .i64 0]) (t := 45) sE ?_; intro gb194 hg w57 hbox hb; replace HO_8 := Aside0.mk (Kd.R_below (rU HO_8.out) hb); have BK194 := Aside0.mk hbox; have GW194 := gS w hg (lU); have GE194 := gS w hg (lU); replace HB := bH (lU) hb; clear hb hbox hg; have hcz58_0 := cz BK194 0 (.int .i64 0); have hcz58_1 := cz BK194 1 (.int .i64 0); have hcz58_2 := cz BK194 2 (.string (⟨#[]⟩ : ByteArray)); have hcz58_3 := cz BK194 3 (.string (⟨#[]⟩ : ByteArray)); have hcz58_4 := cz BK194 4 (.int .i64 0); have hfz58_0 := fz BK194 0; have hfz58_1 := fz BK194 1; have hfz58_2 := fz BK194 2; have hfz58_3 := fz BK194 3; have hfz58_4 := fz BK194 4) | ((with_reducible refine gate_store (t := 45) (p := 10) rfl ?_); refine store_event (t := 45) (p := 10) (v := ?vo_w59) (w1 := (((((w57.setCell ⟨gb194, 0, none⟩ (.int .i64 ((rd_T45 l2 x33_2).f0))).setCell ⟨gb194, 1, none⟩ (.int .i64 ((rd_T45 l2 x33_2).f1))).setCell ⟨gb194, 2, none⟩ (.string ((rd_T45 l2 x33_2).f2))).setCell ⟨gb194, 3, none⟩ (.string ((rd_T45 l2 x33_2).f3))).setCell ⟨gb194, 4, none⟩ (.int .i64 ((rd_T45 l2 x33_2).f4)))) ?hg ?ho ?hn ?hr ?_; (case ho => rfl); (case hg => rfl); (case hn => rfl); (case hr => first | (go_simp; done) | (go_simp; rfl) | (have hq0_ := (blk_cell BK194.out 0).trans (show _ = some _ from rfl); have hf0_ := blk_frozen BK194.out 0; have hq1_ := (blk_cell BK194.out 1).trans (show _ = some _ from rfl); have hf1_ := blk_frozen BK194.out 1; have hq2_ := (blk_cell BK194.out 2).trans (show _ = some _ from rfl); have hf2_ := blk_frozen BK194.out 2; have hq3_ := (blk_cell BK194.out 3).trans (show _ = some _ from rfl); have hf3_ := blk_frozen BK194.out 3; have hq4_ := (blk_cell BK194.out 4).trans (show _ = some _ from rfl); have hf4_ := blk_frozen BK194.out 4; first | (go_simp; done) | (go_simp; rfl))); intro w59 hw; replace HO_8 : Aside0 (Kd.R k49 49 w59 w.heap.size (fun _ => True) u8 x8_2) := ⟨(by rw [hw]; exact (by (with_reducible repeat (first | apply Kd.R_alloc | apply Kd.R_drewN | apply Kd.R_drew)); exact Kd.R_mono (Kd.R_far (p := ⟨gb194, 4, none⟩) (Kd.R_far (p := ⟨gb194, 3, none⟩) (Kd.R_far (p := ⟨gb194, 2, none⟩) (Kd.R_far (p := ⟨gb194, 1, none⟩) (Kd.R_far (p := ⟨gb194, 0, none⟩) (Kd.R_types HO_8.out BK194.out (by decide)) (fun _ hk => hk.2) (.int .i64 ((rd_T45 l2 x33_2).f0))) (fun _ hk => hk.2) (.int .i64 ((rd_T45 l2 x33_2).f1))) (fun _ hk => hk.2) (.string ((rd_T45 l2 x33_2).f2))) (fun _ hk => hk.2) (.string ((rd_T45 l2 x33_2).f3))) (fun _ hk => hk.2) (.int .i64 ((rd_T45 l2 x33_2).f4))) (fun _ hk => trivial)))⟩; replace BK194 : Aside0 (w59.heap[gb194]? = some (.cells #[.int .i64 ((rd_T45 l2 x33_2).f0), .int .i64 ((rd_T45 l2 x33_2).f1), .string ((rd_T45 l2 x33_2).f2), .string ((rd_T45 l2 x33_2).f3), .int .i64 ((rd_T45 l2 x33_2).f4)] 45 (0, 0))) := ⟨(by rw [hw]; exact (by refine bU ?_; refine blk_put (cs := #[.int .i64 ((rd_T45 l2 x33_2).f0), .int .i64 ((rd_T45 l2 x33_2).f1), .string ((rd_T45 l2 x33_2).f2), .string ((rd_T45 l2 x33_2).f3), .int .i64 0]) ?_ 4 _ rfl; refine bU ?_; refine blk_put (cs := #[.int .i64 ((rd_T45 l2 x33_2).f0), .int .i64 ((rd_T45 l2 x33_2).f1), .string ((rd_T45 l2 x33_2).f2), .string (⟨#[]⟩ : ByteArray), .int .i64 0]) ?_ 3 _ rfl; refine bU ?_; refine blk_put (cs := #[.int .i64 ((rd_T45 l2 x33_2).f0), .int .i64 ((rd_T45 l2 x33_2).f1), .string (⟨#[]⟩ : ByteArray), .string (⟨#[]⟩ : ByteArray), .int .i64 0]) ?_ 2 _ rfl; refine bU ?_; refine blk_put (cs := #[.int .i64 ((rd_T45 l2 x33_2).f0), .int .i64 0, .string (⟨#[]⟩ : ByteArray), .string (⟨#[]⟩ : ByteArray), .int .i64 0]) ?_ 1 _ rfl; refine bU ?_; refine blk_put (cs := #[.int .i64 0, .int .i64 0, .string (⟨#[]⟩ : ByteArray), .string (⟨#[]⟩ : ByteArray), .int .i64 0]) ?_ 0 _ rfl; refine bU ?_; exact BK194.out))⟩; replace HB : Aside0 (Below w.heap.size w w59) := ⟨(by rw [hw]; exact (lV1 GE194))⟩; clear hw; have hcz60_0 := cz BK194 0 (.int .i64 ((rd_T45 l2 x33_2).f0)); have hcz60_1 := cz BK194 1 (.int .i64 ((rd_T45 l2 x33_2).f1)); have hcz60_2 := cz BK194 2 (.string ((rd_T45 l2 x33_2).f2)); have hcz60_3 := cz BK194 3 (.string ((rd_T45 l2 x33_2).f3)); have hcz60_4 := cz BK194 4 (.int .i64 ((rd_T45 l2 x33_2).f4)); have hfz60_0 := fz BK194 0; have hfz60_1 := fz BK194 1; have hfz60_2 := fz BK194 2; have hfz60_3 := fz BK194 3; have hfz60_4 := fz BK194 4; obtain ⟨Ao61, co61, eo61⟩ := Kd.R_slice HO_8.out; subst eo61) | ((with_reducible refine gate_callee (f := 31) rfl ?_); refine goesL_ (some 44) rfl rfl Try.func31 (by kernel_rfl) rfl #[.slice Ao61 x8_2.length co61, .string ((rd_T45 l2 x33_2).f2)] rfl aE ?_; (with_reducible refine (spec_l22At.calls k2 _ _ x8_2 ((rd_T45 l2 x33_2).f2) t195 _ ?side1 ?side2 A26.out).mono ?_); (case side1 => exact cU (Kd.R_reads' HO_8.out).2.2); (case side2 => exact (Kd.R_reads' HO_8.out).2.1); rintro e w62 ⟨rfl, hb⟩; refine ⟨_, rfl, ?_⟩; replace HO_8 := Aside0.mk (Kd.R_below (rU HO_8.out) hb); replace BK194 := bB (bV BK194) hb; replace HB := bH (lV1 GE194) hb; (try clear hb); have hcz63_0 := cz BK194 0 (.int .i64 ((rd_T45 l2 x33_2).f0)); have hcz63_1 := cz BK194 1 (.int .i64 ((rd_T45 l2 x33_2).f1)); have hcz63_2 := cz BK194 2 (.string ((rd_T45 l2 x33_2).f2)); have hcz63_3 := cz BK194 3 (.string ((rd_T45 l2 x33_2).f3)); have hcz63_4 := cz BK194 4 (.int .i64 ((rd_T45 l2 x33_2).f4)); have hfz63_0 := fz BK194 0; have hfz63_1 := fz BK194 1; have hfz63_2 := fz BK194 2; have hfz63_3 := fz BK194 3; have hfz63_4 := fz BK194 4))
              go_roundg k2
              case measure => have := HJ3.out; have := HK2.out; omega
              case rel => exact ⟨(x8_2), (wrap64 (x33_2 + 1)), tE, H', ⟨by have := HJ3.out; have := HK2.out; omega⟩, ⟨by (with_reducible repeat (first | apply Kd.R_alloc | apply Kd.R_drewN | apply Kd.R_drew)); exact HO_8.out⟩, ⟨by repeat (first | (with_reducible first | exact HB.out | apply below_alloc | apply pw_below_drewN | apply below_drew1 | refine below_set ?_ GE194.out) | exact HB.out)⟩⟩
           ·rw [if_neg c27] at H
            have c27b0 : (((rd_T45 l2 x33_2).f1) == 5) = false := beq_eq_false_iff_ne.mpr c27
            have c27b1 : (((rd_T45 l2 x33_2).f1) != 5) = true := bne_iff_ne.mpr c27
            by_cases c64 : t195 < 0
            ·rw [if_pos c64] at H
             have c64b0 : decide (t195 < 0) = true := decide_eq_true c64
             clear c64
             have H' := Aside0.mk H
             clear H
             have p193 : 0 ≤ (x33_2 : Int) := of_decide_eq_true hE
             have q193 : x33_2 < (l2.length : Int) := of_decide_eq_true hE
             obtain ⟨ad193, e193, hx193_0, hx193_1, hx193_2, hx193_3, hx193_4⟩ := at_T45 HR2.out x33_2 p193 q193
             cases e193
             replace hx193_0 := (HB.out.cell (World.block_lt_of_cell? w _ hx193_0)).trans hx193_0
             replace hx193_1 := (HB.out.cell (World.block_lt_of_cell? w _ hx193_1)).trans hx193_1
             replace hx193_2 := (HB.out.cell (World.block_lt_of_cell? w _ hx193_2)).trans hx193_2
             replace hx193_3 := (HB.out.cell (World.block_lt_of_cell? w _ hx193_3)).trans hx193_3
             replace hx193_4 := (HB.out.cell (World.block_lt_of_cell? w _ hx193_4)).trans hx193_4
             replace p193 := eq_true p193
             replace q193 := eq_true q193
             go_wp2_with (first | ((with_reducible refine gate_dst (N := 10) rfl ?_); refine box_event rfl (N := 10) rfl (cs := #[.int .i64 0, .int .i64 0, .string (⟨#[]⟩ : ByteArray), .string (⟨#[]⟩ : ByteArray), .int .i64 0]) (t := 45) sE ?_; intro gb194 hg w65 hbox hb; replace HO_8 := Aside0.mk (Kd.R_below (rU HO_8.out) hb); have BK194 := Aside0.mk hbox; have GW194 := gS w hg (lU); have GE194 := gS w hg (lU); replace HB := bH (lU) hb; clear hb hbox hg; have hcz66_0 := cz BK194 0 (.int .i64 0); have hcz66_1 := cz BK194 1 (.int .i64 0); have hcz66_2 := cz BK194 2 (.string (⟨#[]⟩ : ByteArray)); have hcz66_3 := cz BK194 3 (.string (⟨#[]⟩ : ByteArray)); have hcz66_4 := cz BK194 4 (.int .i64 0); have hfz66_0 := fz BK194 0; have hfz66_1 := fz BK194 1; have hfz66_2 := fz BK194 2; have hfz66_3 := fz BK194 3; have hfz66_4 := fz BK194 4) | ((with_reducible refine gate_store (t := 45) (p := 10) rfl ?_); refine store_event (t := 45) (p := 10) (v := ?vo_w67) (w1 := (((((w65.setCell ⟨gb194, 0, none⟩ (.int .i64 ((rd_T45 l2 x33_2).f0))).setCell ⟨gb194, 1, none⟩ (.int .i64 ((rd_T45 l2 x33_2).f1))).setCell ⟨gb194, 2, none⟩ (.string ((rd_T45 l2 x33_2).f2))).setCell ⟨gb194, 3, none⟩ (.string ((rd_T45 l2 x33_2).f3))).setCell ⟨gb194, 4, none⟩ (.int .i64 ((rd_T45 l2 x33_2).f4)))) ?hg ?ho ?hn ?hr ?_; (case ho => rfl); (case hg => rfl); (case hn => rfl); (case hr => first | (go_simp; done) | (go_simp; rfl) | (have hq0_ := (blk_cell BK194.out 0).trans (show _ = some _ from rfl); have hf0_ := blk_frozen BK194.out 0; have hq1_ := (blk_cell BK194.out 1).trans (show _ = some _ from rfl); have hf1_ := blk_frozen BK194.out 1; have hq2_ := (blk_cell BK194.out 2).trans (show _ = some _ from rfl); have hf2_ := blk_frozen BK194.out 2; have hq3_ := (blk_cell BK194.out 3).trans (show _ = some _ from rfl); have hf3_ := blk_frozen BK194.out 3; have hq4_ := (blk_cell BK194.out 4).trans (show _ = some _ from rfl); have hf4_ := blk_frozen BK194.out 4; first | (go_simp; done) | (go_simp; rfl))); intro w67 hw; replace HO_8 : Aside0 (Kd.R k49 49 w67 w.heap.size (fun _ => True) u8 x8_2) := ⟨(by rw [hw]; exact (by (with_reducible repeat (first | apply Kd.R_alloc | apply Kd.R_drewN | apply Kd.R_drew)); exact Kd.R_mono (Kd.R_far (p := ⟨gb194, 4, none⟩) (Kd.R_far (p := ⟨gb194, 3, none⟩) (Kd.R_far (p := ⟨gb194, 2, none⟩) (Kd.R_far (p := ⟨gb194, 1, none⟩) (Kd.R_far (p := ⟨gb194, 0, none⟩) (Kd.R_types HO_8.out BK194.out (by decide)) (fun _ hk => hk.2) (.int .i64 ((rd_T45 l2 x33_2).f0))) (fun _ hk => hk.2) (.int .i64 ((rd_T45 l2 x33_2).f1))) (fun _ hk => hk.2) (.string ((rd_T45 l2 x33_2).f2))) (fun _ hk => hk.2) (.string ((rd_T45 l2 x33_2).f3))) (fun _ hk => hk.2) (.int .i64 ((rd_T45 l2 x33_2).f4))) (fun _ hk => trivial)))⟩; replace BK194 : Aside0 (w67.heap[gb194]? = some (.cells #[.int .i64 ((rd_T45 l2 x33_2).f0), .int .i64 ((rd_T45 l2 x33_2).f1), .string ((rd_T45 l2 x33_2).f2), .string ((rd_T45 l2 x33_2).f3), .int .i64 ((rd_T45 l2 x33_2).f4)] 45 (0, 0))) := ⟨(by rw [hw]; exact (by refine bU ?_; refine blk_put (cs := #[.int .i64 ((rd_T45 l2 x33_2).f0), .int .i64 ((rd_T45 l2 x33_2).f1), .string ((rd_T45 l2 x33_2).f2), .string ((rd_T45 l2 x33_2).f3), .int .i64 0]) ?_ 4 _ rfl; refine bU ?_; refine blk_put (cs := #[.int .i64 ((rd_T45 l2 x33_2).f0), .int .i64 ((rd_T45 l2 x33_2).f1), .string ((rd_T45 l2 x33_2).f2), .string (⟨#[]⟩ : ByteArray), .int .i64 0]) ?_ 3 _ rfl; refine bU ?_; refine blk_put (cs := #[.int .i64 ((rd_T45 l2 x33_2).f0), .int .i64 ((rd_T45 l2 x33_2).f1), .string (⟨#[]⟩ : ByteArray), .string (⟨#[]⟩ : ByteArray), .int .i64 0]) ?_ 2 _ rfl; refine bU ?_; refine blk_put (cs := #[.int .i64 ((rd_T45 l2 x33_2).f0), .int .i64 0, .string (⟨#[]⟩ : ByteArray), .string (⟨#[]⟩ : ByteArray), .int .i64 0]) ?_ 1 _ rfl; refine bU ?_; refine blk_put (cs := #[.int .i64 0, .int .i64 0, .string (⟨#[]⟩ : ByteArray), .string (⟨#[]⟩ : ByteArray), .int .i64 0]) ?_ 0 _ rfl; refine bU ?_; exact BK194.out))⟩; replace HB : Aside0 (Below w.heap.size w w67) := ⟨(by rw [hw]; exact (lV1 GE194))⟩; clear hw; have hcz68_0 := cz BK194 0 (.int .i64 ((rd_T45 l2 x33_2).f0)); have hcz68_1 := cz BK194 1 (.int .i64 ((rd_T45 l2 x33_2).f1)); have hcz68_2 := cz BK194 2 (.string ((rd_T45 l2 x33_2).f2)); have hcz68_3 := cz BK194 3 (.string ((rd_T45 l2 x33_2).f3)); have hcz68_4 := cz BK194 4 (.int .i64 ((rd_T45 l2 x33_2).f4)); have hfz68_0 := fz BK194 0; have hfz68_1 := fz BK194 1; have hfz68_2 := fz BK194 2; have hfz68_3 := fz BK194 3; have hfz68_4 := fz BK194 4; obtain ⟨Ao69, co69, eo69⟩ := Kd.R_slice HO_8.out; subst eo69) | ((with_reducible refine gate_callee (f := 31) rfl ?_); refine goesL_ (some 44) rfl rfl Try.func31 (by kernel_rfl) rfl #[.slice Ao69 x8_2.length co69, .string ((rd_T45 l2 x33_2).f2)] rfl aE ?_; (with_reducible refine (spec_l22At.calls k2 _ _ x8_2 ((rd_T45 l2 x33_2).f2) t195 _ ?side1 ?side2 A26.out).mono ?_); (case side1 => exact cU (Kd.R_reads' HO_8.out).2.2); (case side2 => exact (Kd.R_reads' HO_8.out).2.1); rintro e w70 ⟨rfl, hb⟩; refine ⟨_, rfl, ?_⟩; replace HO_8 := Aside0.mk (Kd.R_below (rU HO_8.out) hb); replace BK194 := bB (bV BK194) hb; replace HB := bH (lV1 GE194) hb; (try clear hb); have hcz71_0 := cz BK194 0 (.int .i64 ((rd_T45 l2 x33_2).f0)); have hcz71_1 := cz BK194 1 (.int .i64 ((rd_T45 l2 x33_2).f1)); have hcz71_2 := cz BK194 2 (.string ((rd_T45 l2 x33_2).f2)); have hcz71_3 := cz BK194 3 (.string ((rd_T45 l2 x33_2).f3)); have hcz71_4 := cz BK194 4 (.int .i64 ((rd_T45 l2 x33_2).f4)); have hfz71_0 := fz BK194 0; have hfz71_1 := fz BK194 1; have hfz71_2 := fz BK194 2; have hfz71_3 := fz BK194 3; have hfz71_4 := fz BK194 4))
             go_roundg k2
             case measure => have := HJ3.out; have := HK2.out; omega
             case rel => exact ⟨(x8_2), (wrap64 (x33_2 + 1)), tE, H', ⟨by have := HJ3.out; have := HK2.out; omega⟩, ⟨by (with_reducible repeat (first | apply Kd.R_alloc | apply Kd.R_drewN | apply Kd.R_drew)); exact HO_8.out⟩, ⟨by repeat (first | (with_reducible first | exact HB.out | apply below_alloc | apply pw_below_drewN | apply below_drew1 | refine below_set ?_ GE194.out) | exact HB.out)⟩⟩
            ·rw [if_neg c64] at H
             have c64b0 : decide (t195 < 0) = false := decide_eq_false c64
             clear c64
             by_cases c72 : ((rd_T45 l2 x33_2).f1) = 1
             ·rw [if_pos c72] at H
              have c72b0 : (((rd_T45 l2 x33_2).f1) == 1) = true := beq_iff_eq.mpr c72
              have c72b1 : (((rd_T45 l2 x33_2).f1) != 1) = false := bne_eq_false_iff_eq.mpr c72
              clear c72
              replace H := Option.bind_eq_some_iff.mp H
              obtain ⟨t199, A730, H⟩ := H
              replace H : (if t199 ≥ 0 then (some (([] : List (S49)), false)) else (if 0 ≤ t195 then (if t195 < (x8_2.length : Int) then ((spec_l22Drop.f x8_2 t195).bind fun t202 => ((spec_l22Put.f k2 t202 ((rd_T45 l2 x33_2).f3) ((rd_T49 x8_2 t195).f1) ((rd_T49 x8_2 t195).f2)).bind fun t205 => (spec_MigrateSave.l0 k2 a0 t205 l2 (l2.length : Int) (wrap64 (x33_2 + 1))))) else (none)) else (none))) = some (r1, r2) := H
              have A73 := Aside0.mk A730
              clear A730
              by_cases c74 : t199 ≥ 0
              ·rw [if_pos c74] at H
               have c74b0 : decide (0 ≤ t199) = true := decide_eq_true c74
               clear c74
               simp only [Option.some.injEq, Prod.mk.injEq] at H
               obtain ⟨rfl, rfl⟩ := H
               have p193 : 0 ≤ (x33_2 : Int) := of_decide_eq_true hE
               have q193 : x33_2 < (l2.length : Int) := of_decide_eq_true hE
               obtain ⟨ad193, e193, hx193_0, hx193_1, hx193_2, hx193_3, hx193_4⟩ := at_T45 HR2.out x33_2 p193 q193
               cases e193
               replace hx193_0 := (HB.out.cell (World.block_lt_of_cell? w _ hx193_0)).trans hx193_0
               replace hx193_1 := (HB.out.cell (World.block_lt_of_cell? w _ hx193_1)).trans hx193_1
               replace hx193_2 := (HB.out.cell (World.block_lt_of_cell? w _ hx193_2)).trans hx193_2
               replace hx193_3 := (HB.out.cell (World.block_lt_of_cell? w _ hx193_3)).trans hx193_3
               replace hx193_4 := (HB.out.cell (World.block_lt_of_cell? w _ hx193_4)).trans hx193_4
               replace p193 := eq_true p193
               replace q193 := eq_true q193
               go_wp2_with (first | ((with_reducible refine gate_dst (N := 10) rfl ?_); refine box_event rfl (N := 10) rfl (cs := #[.int .i64 0, .int .i64 0, .string (⟨#[]⟩ : ByteArray), .string (⟨#[]⟩ : ByteArray), .int .i64 0]) (t := 45) sE ?_; intro gb194 hg w75 hbox hb; replace HO_8 := Aside0.mk (Kd.R_below (rU HO_8.out) hb); have BK194 := Aside0.mk hbox; have GW194 := gS w hg (lU); have GE194 := gS w hg (lU); replace HB := bH (lU) hb; clear hb hbox hg; have hcz76_0 := cz BK194 0 (.int .i64 0); have hcz76_1 := cz BK194 1 (.int .i64 0); have hcz76_2 := cz BK194 2 (.string (⟨#[]⟩ : ByteArray)); have hcz76_3 := cz BK194 3 (.string (⟨#[]⟩ : ByteArray)); have hcz76_4 := cz BK194 4 (.int .i64 0); have hfz76_0 := fz BK194 0; have hfz76_1 := fz BK194 1; have hfz76_2 := fz BK194 2; have hfz76_3 := fz BK194 3; have hfz76_4 := fz BK194 4) | ((with_reducible refine gate_store (t := 45) (p := 10) rfl ?_); refine store_event (t := 45) (p := 10) (v := ?vo_w77) (w1 := (((((w75.setCell ⟨gb194, 0, none⟩ (.int .i64 ((rd_T45 l2 x33_2).f0))).setCell ⟨gb194, 1, none⟩ (.int .i64 ((rd_T45 l2 x33_2).f1))).setCell ⟨gb194, 2, none⟩ (.string ((rd_T45 l2 x33_2).f2))).setCell ⟨gb194, 3, none⟩ (.string ((rd_T45 l2 x33_2).f3))).setCell ⟨gb194, 4, none⟩ (.int .i64 ((rd_T45 l2 x33_2).f4)))) ?hg ?ho ?hn ?hr ?_; (case ho => rfl); (case hg => rfl); (case hn => rfl); (case hr => first | (go_simp; done) | (go_simp; rfl) | (have hq0_ := (blk_cell BK194.out 0).trans (show _ = some _ from rfl); have hf0_ := blk_frozen BK194.out 0; have hq1_ := (blk_cell BK194.out 1).trans (show _ = some _ from rfl); have hf1_ := blk_frozen BK194.out 1; have hq2_ := (blk_cell BK194.out 2).trans (show _ = some _ from rfl); have hf2_ := blk_frozen BK194.out 2; have hq3_ := (blk_cell BK194.out 3).trans (show _ = some _ from rfl); have hf3_ := blk_frozen BK194.out 3; have hq4_ := (blk_cell BK194.out 4).trans (show _ = some _ from rfl); have hf4_ := blk_frozen BK194.out 4; first | (go_simp; done) | (go_simp; rfl))); intro w77 hw; replace HO_8 : Aside0 (Kd.R k49 49 w77 w.heap.size (fun _ => True) u8 x8_2) := ⟨(by rw [hw]; exact (by (with_reducible repeat (first | apply Kd.R_alloc | apply Kd.R_drewN | apply Kd.R_drew)); exact Kd.R_mono (Kd.R_far (p := ⟨gb194, 4, none⟩) (Kd.R_far (p := ⟨gb194, 3, none⟩) (Kd.R_far (p := ⟨gb194, 2, none⟩) (Kd.R_far (p := ⟨gb194, 1, none⟩) (Kd.R_far (p := ⟨gb194, 0, none⟩) (Kd.R_types HO_8.out BK194.out (by decide)) (fun _ hk => hk.2) (.int .i64 ((rd_T45 l2 x33_2).f0))) (fun _ hk => hk.2) (.int .i64 ((rd_T45 l2 x33_2).f1))) (fun _ hk => hk.2) (.string ((rd_T45 l2 x33_2).f2))) (fun _ hk => hk.2) (.string ((rd_T45 l2 x33_2).f3))) (fun _ hk => hk.2) (.int .i64 ((rd_T45 l2 x33_2).f4))) (fun _ hk => trivial)))⟩; replace BK194 : Aside0 (w77.heap[gb194]? = some (.cells #[.int .i64 ((rd_T45 l2 x33_2).f0), .int .i64 ((rd_T45 l2 x33_2).f1), .string ((rd_T45 l2 x33_2).f2), .string ((rd_T45 l2 x33_2).f3), .int .i64 ((rd_T45 l2 x33_2).f4)] 45 (0, 0))) := ⟨(by rw [hw]; exact (by refine bU ?_; refine blk_put (cs := #[.int .i64 ((rd_T45 l2 x33_2).f0), .int .i64 ((rd_T45 l2 x33_2).f1), .string ((rd_T45 l2 x33_2).f2), .string ((rd_T45 l2 x33_2).f3), .int .i64 0]) ?_ 4 _ rfl; refine bU ?_; refine blk_put (cs := #[.int .i64 ((rd_T45 l2 x33_2).f0), .int .i64 ((rd_T45 l2 x33_2).f1), .string ((rd_T45 l2 x33_2).f2), .string (⟨#[]⟩ : ByteArray), .int .i64 0]) ?_ 3 _ rfl; refine bU ?_; refine blk_put (cs := #[.int .i64 ((rd_T45 l2 x33_2).f0), .int .i64 ((rd_T45 l2 x33_2).f1), .string (⟨#[]⟩ : ByteArray), .string (⟨#[]⟩ : ByteArray), .int .i64 0]) ?_ 2 _ rfl; refine bU ?_; refine blk_put (cs := #[.int .i64 ((rd_T45 l2 x33_2).f0), .int .i64 0, .string (⟨#[]⟩ : ByteArray), .string (⟨#[]⟩ : ByteArray), .int .i64 0]) ?_ 1 _ rfl; refine bU ?_; refine blk_put (cs := #[.int .i64 0, .int .i64 0, .string (⟨#[]⟩ : ByteArray), .string (⟨#[]⟩ : ByteArray), .int .i64 0]) ?_ 0 _ rfl; refine bU ?_; exact BK194.out))⟩; replace HB : Aside0 (Below w.heap.size w w77) := ⟨(by rw [hw]; exact (lV1 GE194))⟩; clear hw; have hcz78_0 := cz BK194 0 (.int .i64 ((rd_T45 l2 x33_2).f0)); have hcz78_1 := cz BK194 1 (.int .i64 ((rd_T45 l2 x33_2).f1)); have hcz78_2 := cz BK194 2 (.string ((rd_T45 l2 x33_2).f2)); have hcz78_3 := cz BK194 3 (.string ((rd_T45 l2 x33_2).f3)); have hcz78_4 := cz BK194 4 (.int .i64 ((rd_T45 l2 x33_2).f4)); have hfz78_0 := fz BK194 0; have hfz78_1 := fz BK194 1; have hfz78_2 := fz BK194 2; have hfz78_3 := fz BK194 3; have hfz78_4 := fz BK194 4; obtain ⟨Ao79, co79, eo79⟩ := Kd.R_slice HO_8.out; subst eo79) | ((with_reducible refine gate_callee (f := 31) rfl ?_); refine goesL_ (some 44) rfl rfl Try.func31 (by kernel_rfl) rfl #[.slice Ao79 x8_2.length co79, .string ((rd_T45 l2 x33_2).f2)] rfl aE ?_; (with_reducible refine (spec_l22At.calls k2 _ _ x8_2 ((rd_T45 l2 x33_2).f2) t195 _ ?side1 ?side2 A26.out).mono ?_); (case side1 => exact cU (Kd.R_reads' HO_8.out).2.2); (case side2 => exact (Kd.R_reads' HO_8.out).2.1); rintro e w80 ⟨rfl, hb⟩; refine ⟨_, rfl, ?_⟩; replace HO_8 := Aside0.mk (Kd.R_below (rU HO_8.out) hb); replace BK194 := bB (bV BK194) hb; replace HB := bH (lV1 GE194) hb; (try clear hb); have hcz81_0 := cz BK194 0 (.int .i64 ((rd_T45 l2 x33_2).f0)); have hcz81_1 := cz BK194 1 (.int .i64 ((rd_T45 l2 x33_2).f1)); have hcz81_2 := cz BK194 2 (.string ((rd_T45 l2 x33_2).f2)); have hcz81_3 := cz BK194 3 (.string ((rd_T45 l2 x33_2).f3)); have hcz81_4 := cz BK194 4 (.int .i64 ((rd_T45 l2 x33_2).f4)); have hfz81_0 := fz BK194 0; have hfz81_1 := fz BK194 1; have hfz81_2 := fz BK194 2; have hfz81_3 := fz BK194 3; have hfz81_4 := fz BK194 4) | ((with_reducible refine gate_callee (f := 31) rfl ?_); refine goesL_ (some 86) rfl rfl Try.func31 (by kernel_rfl) rfl #[.slice Ao79 x8_2.length co79, .string ((rd_T45 l2 x33_2).f3)] rfl aE ?_; (with_reducible refine (spec_l22At.calls k2 _ _ x8_2 ((rd_T45 l2 x33_2).f3) t199 _ ?side1 ?side2 A73.out).mono ?_); (case side1 => exact cU (Kd.R_reads' HO_8.out).2.2); (case side2 => exact (Kd.R_reads' HO_8.out).2.1); rintro e w82 ⟨rfl, hb⟩; refine ⟨_, rfl, ?_⟩; replace HO_8 := Aside0.mk (Kd.R_below (rU HO_8.out) hb); replace BK194 := bB (bV BK194) hb; replace HB := bH (lV1 GE194) hb; (try clear hb)))
               go_ret2
               exact ⟨_, eE, by first | exact Kd.R_nil _ _ _ _ _ | exact Kd.N_nil _ _ _ _ _ | exact Kd.V_nil _ _ _ _ _ | exact Kd.Q_nil _ _ _ _ _ | exact Kd.S_nil _ _ _ _ _, lV1 GE194⟩
              ·rw [if_neg c74] at H
               have c74b0 : decide (0 ≤ t199) = false := decide_eq_false c74
               clear c74
               by_cases c83 : 0 ≤ t195
               ·rw [if_pos c83] at H
                have c83b0 : decide (0 ≤ t195) = true := decide_eq_true c83
                clear c83
                by_cases c84 : t195 < (x8_2.length : Int)
                ·rw [if_pos c84] at H
                 have c84b0 : decide (t195 < (x8_2.length : Int)) = true := decide_eq_true c84
                 clear c84
                 replace H := Option.bind_eq_some_iff.mp H
                 obtain ⟨t202, A850, H⟩ := H
                 replace H : ((spec_l22Put.f k2 t202 ((rd_T45 l2 x33_2).f3) ((rd_T49 x8_2 t195).f1) ((rd_T49 x8_2 t195).f2)).bind fun t205 => (spec_MigrateSave.l0 k2 a0 t205 l2 (l2.length : Int) (wrap64 (x33_2 + 1)))) = some (r1, r2) := H
                 have A85 := Aside0.mk A850
                 clear A850
                 replace H := Option.bind_eq_some_iff.mp H
                 obtain ⟨t205, A860, H⟩ := H
                 replace H : (spec_MigrateSave.l0 k2 a0 t205 l2 (l2.length : Int) (wrap64 (x33_2 + 1))) = some (r1, r2) := H
                 have A86 := Aside0.mk A860
                 clear A860
                 have H' := Aside0.mk H
                 clear H
                 have p193 : 0 ≤ (x33_2 : Int) := of_decide_eq_true hE
                 have q193 : x33_2 < (l2.length : Int) := of_decide_eq_true hE
                 obtain ⟨ad193, e193, hx193_0, hx193_1, hx193_2, hx193_3, hx193_4⟩ := at_T45 HR2.out x33_2 p193 q193
                 cases e193
                 replace hx193_0 := (HB.out.cell (World.block_lt_of_cell? w _ hx193_0)).trans hx193_0
                 replace hx193_1 := (HB.out.cell (World.block_lt_of_cell? w _ hx193_1)).trans hx193_1
                 replace hx193_2 := (HB.out.cell (World.block_lt_of_cell? w _ hx193_2)).trans hx193_2
                 replace hx193_3 := (HB.out.cell (World.block_lt_of_cell? w _ hx193_3)).trans hx193_3
                 replace hx193_4 := (HB.out.cell (World.block_lt_of_cell? w _ hx193_4)).trans hx193_4
                 replace p193 := eq_true p193
                 replace q193 := eq_true q193
                 try go_wp2_with (first | ((with_reducible refine gate_dst (N := 10) rfl ?_); refine box_event rfl (N := 10) rfl (cs := #[.int .i64 0, .int .i64 0, .string (⟨#[]⟩ : ByteArray), .string (⟨#[]⟩ : ByteArray), .int .i64 0]) (t := 45) sE ?_; intro gb194 hg w87 hbox hb; replace HO_8 := Aside0.mk (Kd.R_below (rU HO_8.out) hb); have BK194 := Aside0.mk hbox; have GW194 := gS w hg (lU); have GE194 := gS w hg (lU); replace HB := bH (lU) hb; clear hb hbox hg; have hcz88_0 := cz BK194 0 (.int .i64 0); have hcz88_1 := cz BK194 1 (.int .i64 0); have hcz88_2 := cz BK194 2 (.string (⟨#[]⟩ : ByteArray)); have hcz88_3 := cz BK194 3 (.string (⟨#[]⟩ : ByteArray)); have hcz88_4 := cz BK194 4 (.int .i64 0); have hfz88_0 := fz BK194 0; have hfz88_1 := fz BK194 1; have hfz88_2 := fz BK194 2; have hfz88_3 := fz BK194 3; have hfz88_4 := fz BK194 4) | ((with_reducible refine gate_store (t := 45) (p := 10) rfl ?_); refine store_event (t := 45) (p := 10) (v := ?vo_w89) (w1 := (((((w87.setCell ⟨gb194, 0, none⟩ (.int .i64 ((rd_T45 l2 x33_2).f0))).setCell ⟨gb194, 1, none⟩ (.int .i64 ((rd_T45 l2 x33_2).f1))).setCell ⟨gb194, 2, none⟩ (.string ((rd_T45 l2 x33_2).f2))).setCell ⟨gb194, 3, none⟩ (.string ((rd_T45 l2 x33_2).f3))).setCell ⟨gb194, 4, none⟩ (.int .i64 ((rd_T45 l2 x33_2).f4)))) ?hg ?ho ?hn ?hr ?_; (case ho => rfl); (case hg => rfl); (case hn => rfl); (case hr => first | (go_simp; done) | (go_simp; rfl) | (have hq0_ := (blk_cell BK194.out 0).trans (show _ = some _ from rfl); have hf0_ := blk_frozen BK194.out 0; have hq1_ := (blk_cell BK194.out 1).trans (show _ = some _ from rfl); have hf1_ := blk_frozen BK194.out 1; have hq2_ := (blk_cell BK194.out 2).trans (show _ = some _ from rfl); have hf2_ := blk_frozen BK194.out 2; have hq3_ := (blk_cell BK194.out 3).trans (show _ = some _ from rfl); have hf3_ := blk_frozen BK194.out 3; have hq4_ := (blk_cell BK194.out 4).trans (show _ = some _ from rfl); have hf4_ := blk_frozen BK194.out 4; first | (go_simp; done) | (go_simp; rfl))); intro w89 hw; replace HO_8 : Aside0 (Kd.R k49 49 w89 w.heap.size (fun _ => True) u8 x8_2) := ⟨(by rw [hw]; exact (by (with_reducible repeat (first | apply Kd.R_alloc | apply Kd.R_drewN | apply Kd.R_drew)); exact Kd.R_mono (Kd.R_far (p := ⟨gb194, 4, none⟩) (Kd.R_far (p := ⟨gb194, 3, none⟩) (Kd.R_far (p := ⟨gb194, 2, none⟩) (Kd.R_far (p := ⟨gb194, 1, none⟩) (Kd.R_far (p := ⟨gb194, 0, none⟩) (Kd.R_types HO_8.out BK194.out (by decide)) (fun _ hk => hk.2) (.int .i64 ((rd_T45 l2 x33_2).f0))) (fun _ hk => hk.2) (.int .i64 ((rd_T45 l2 x33_2).f1))) (fun _ hk => hk.2) (.string ((rd_T45 l2 x33_2).f2))) (fun _ hk => hk.2) (.string ((rd_T45 l2 x33_2).f3))) (fun _ hk => hk.2) (.int .i64 ((rd_T45 l2 x33_2).f4))) (fun _ hk => trivial)))⟩; replace BK194 : Aside0 (w89.heap[gb194]? = some (.cells #[.int .i64 ((rd_T45 l2 x33_2).f0), .int .i64 ((rd_T45 l2 x33_2).f1), .string ((rd_T45 l2 x33_2).f2), .string ((rd_T45 l2 x33_2).f3), .int .i64 ((rd_T45 l2 x33_2).f4)] 45 (0, 0))) := ⟨(by rw [hw]; exact (by refine bU ?_; refine blk_put (cs := #[.int .i64 ((rd_T45 l2 x33_2).f0), .int .i64 ((rd_T45 l2 x33_2).f1), .string ((rd_T45 l2 x33_2).f2), .string ((rd_T45 l2 x33_2).f3), .int .i64 0]) ?_ 4 _ rfl; refine bU ?_; refine blk_put (cs := #[.int .i64 ((rd_T45 l2 x33_2).f0), .int .i64 ((rd_T45 l2 x33_2).f1), .string ((rd_T45 l2 x33_2).f2), .string (⟨#[]⟩ : ByteArray), .int .i64 0]) ?_ 3 _ rfl; refine bU ?_; refine blk_put (cs := #[.int .i64 ((rd_T45 l2 x33_2).f0), .int .i64 ((rd_T45 l2 x33_2).f1), .string (⟨#[]⟩ : ByteArray), .string (⟨#[]⟩ : ByteArray), .int .i64 0]) ?_ 2 _ rfl; refine bU ?_; refine blk_put (cs := #[.int .i64 ((rd_T45 l2 x33_2).f0), .int .i64 0, .string (⟨#[]⟩ : ByteArray), .string (⟨#[]⟩ : ByteArray), .int .i64 0]) ?_ 1 _ rfl; refine bU ?_; refine blk_put (cs := #[.int .i64 0, .int .i64 0, .string (⟨#[]⟩ : ByteArray), .string (⟨#[]⟩ : ByteArray), .int .i64 0]) ?_ 0 _ rfl; refine bU ?_; exact BK194.out))⟩; replace HB : Aside0 (Below w.heap.size w w89) := ⟨(by rw [hw]; exact (lV1 GE194))⟩; clear hw; have hcz90_0 := cz BK194 0 (.int .i64 ((rd_T45 l2 x33_2).f0)); have hcz90_1 := cz BK194 1 (.int .i64 ((rd_T45 l2 x33_2).f1)); have hcz90_2 := cz BK194 2 (.string ((rd_T45 l2 x33_2).f2)); have hcz90_3 := cz BK194 3 (.string ((rd_T45 l2 x33_2).f3)); have hcz90_4 := cz BK194 4 (.int .i64 ((rd_T45 l2 x33_2).f4)); have hfz90_0 := fz BK194 0; have hfz90_1 := fz BK194 1; have hfz90_2 := fz BK194 2; have hfz90_3 := fz BK194 3; have hfz90_4 := fz BK194 4; obtain ⟨Ao91, co91, eo91⟩ := Kd.R_slice HO_8.out; subst eo91) | ((with_reducible refine gate_callee (f := 31) rfl ?_); refine goesL_ (some 44) rfl rfl Try.func31 (by kernel_rfl) rfl #[.slice Ao91 x8_2.length co91, .string ((rd_T45 l2 x33_2).f2)] rfl aE ?_; (with_reducible refine (spec_l22At.calls k2 _ _ x8_2 ((rd_T45 l2 x33_2).f2) t195 _ ?side1 ?side2 A26.out).mono ?_); (case side1 => exact cU (Kd.R_reads' HO_8.out).2.2); (case side2 => exact (Kd.R_reads' HO_8.out).2.1); rintro e w92 ⟨rfl, hb⟩; refine ⟨_, rfl, ?_⟩; replace HO_8 := Aside0.mk (Kd.R_below (rU HO_8.out) hb); replace BK194 := bB (bV BK194) hb; replace HB := bH (lV1 GE194) hb; (try clear hb); have hcz93_0 := cz BK194 0 (.int .i64 ((rd_T45 l2 x33_2).f0)); have hcz93_1 := cz BK194 1 (.int .i64 ((rd_T45 l2 x33_2).f1)); have hcz93_2 := cz BK194 2 (.string ((rd_T45 l2 x33_2).f2)); have hcz93_3 := cz BK194 3 (.string ((rd_T45 l2 x33_2).f3)); have hcz93_4 := cz BK194 4 (.int .i64 ((rd_T45 l2 x33_2).f4)); have hfz93_0 := fz BK194 0; have hfz93_1 := fz BK194 1; have hfz93_2 := fz BK194 2; have hfz93_3 := fz BK194 3; have hfz93_4 := fz BK194 4) | ((with_reducible refine gate_callee (f := 31) rfl ?_); refine goesL_ (some 86) rfl rfl Try.func31 (by kernel_rfl) rfl #[.slice Ao91 x8_2.length co91, .string ((rd_T45 l2 x33_2).f3)] rfl aE ?_; (with_reducible refine (spec_l22At.calls k2 _ _ x8_2 ((rd_T45 l2 x33_2).f3) t199 _ ?side1 ?side2 A73.out).mono ?_); (case side1 => exact cU (Kd.R_reads' HO_8.out).2.2); (case side2 => exact (Kd.R_reads' HO_8.out).2.1); rintro e w94 ⟨rfl, hb⟩; refine ⟨_, rfl, ?_⟩; replace HO_8 := Aside0.mk (Kd.R_below (rU HO_8.out) hb); replace BK194 := bB (bV BK194) hb; replace HB := bH (lV1 GE194) hb; (try clear hb); have p200 : 0 ≤ (t195 : Int) := of_decide_eq_true hE; have q200 : t195 < (x8_2.length : Int) := of_decide_eq_true hE; obtain ⟨ad200, e200, hx200_0, hx200_1, hx200_2⟩ := at_T49 (Kd.R_reads' HO_8.out).2.2 t195 p200 q200; cases e200; replace p200 := eq_true p200; replace q200 := eq_true q200) | ((with_reducible refine gate_dst (N := 12) rfl ?_); refine box_event rfl (N := 12) rfl (cs := #[.string (⟨#[]⟩ : ByteArray), .int .i64 0, .string (⟨#[]⟩ : ByteArray)]) (t := 49) sE ?_; intro gb201 hg w95 hbox hb; replace HO_8 := Aside0.mk (Kd.R_below (Kd.R_elderB (rU HO_8.out) gb201 (Nat.le_of_eq hg.symm)) hb); have BK201 := Aside0.mk hbox; have GW201 := gS w hg (lV1 GE194); have GE201 := gS w hg (lV1 GE194); replace HB := bH (lV1 GE194) hb; have NB194_201 := nL hg (bV BK194); have NB201_194 := nG hg (bV BK194); replace BK194 := bB (bV BK194) hb; clear hb hbox hg; have hnb96 := NB201_194.out; have hnc96 := NB194_201.out; have hcz97_0 := cz BK201 0 (.string (⟨#[]⟩ : ByteArray)); have hcz97_1 := cz BK201 1 (.int .i64 0); have hcz97_2 := cz BK201 2 (.string (⟨#[]⟩ : ByteArray)); have hfz97_0 := fz BK201 0; have hfz97_1 := fz BK201 1; have hfz97_2 := fz BK201 2) | ((with_reducible refine gate_store (t := 49) (p := 12) rfl ?_); refine store_event (t := 49) (p := 12) (v := ?vo_w98) (w1 := (((w95.setCell ⟨gb201, 0, none⟩ (.string ((rd_T49 x8_2 t195).f0))).setCell ⟨gb201, 1, none⟩ (.int .i64 ((rd_T49 x8_2 t195).f1))).setCell ⟨gb201, 2, none⟩ (.string ((rd_T49 x8_2 t195).f2)))) ?hg ?ho ?hn ?hr ?_; (case ho => rfl); (case hg => rfl); (case hn => rfl); (case hr => first | (go_simp; done) | (go_simp; rfl) | (have hq0_ := (blk_cell BK201.out 0).trans (show _ = some _ from rfl); have hf0_ := blk_frozen BK201.out 0; have hq1_ := (blk_cell BK201.out 1).trans (show _ = some _ from rfl); have hf1_ := blk_frozen BK201.out 1; have hq2_ := (blk_cell BK201.out 2).trans (show _ = some _ from rfl); have hf2_ := blk_frozen BK201.out 2; first | (go_simp; done) | (go_simp; rfl))); intro w98 hw; replace HO_8 : Aside0 (Kd.R k49 49 w98 w.heap.size (fun k_ => k_ ≠ gb201) (.slice (some ad200) x8_2.length co91) x8_2) := ⟨(by rw [hw]; exact (by (with_reducible repeat (first | apply Kd.R_alloc | apply Kd.R_drewN | apply Kd.R_drew)); exact Kd.R_mono (Kd.R_far (p := ⟨gb201, 2, none⟩) (Kd.R_far (p := ⟨gb201, 1, none⟩) (Kd.R_far (p := ⟨gb201, 0, none⟩) (Kd.R_mono HO_8.out (fun k_ hk => (⟨hk, hk.2⟩ : _ ∧ k_ ≠ gb201))) (fun _ hk => hk.2) (.string ((rd_T49 x8_2 t195).f0))) (fun _ hk => hk.2) (.int .i64 ((rd_T49 x8_2 t195).f1))) (fun _ hk => hk.2) (.string ((rd_T49 x8_2 t195).f2))) (fun _ hk => hk.1.2)))⟩; replace BK194 : Aside0 (w98.heap[gb194]? = some (.cells #[.int .i64 ((rd_T45 l2 x33_2).f0), .int .i64 ((rd_T45 l2 x33_2).f1), .string ((rd_T45 l2 x33_2).f2), .string ((rd_T45 l2 x33_2).f3), .int .i64 ((rd_T45 l2 x33_2).f4)] 45 (0, 0))) := ⟨(by rw [hw]; exact (bG NB194_201 BK194))⟩; replace BK201 : Aside0 (w98.heap[gb201]? = some (.cells #[.string ((rd_T49 x8_2 t195).f0), .int .i64 ((rd_T49 x8_2 t195).f1), .string ((rd_T49 x8_2 t195).f2)] 49 (0, 0))) := ⟨(by rw [hw]; exact (by refine bU ?_; refine blk_put (cs := #[.string ((rd_T49 x8_2 t195).f0), .int .i64 ((rd_T49 x8_2 t195).f1), .string (⟨#[]⟩ : ByteArray)]) ?_ 2 _ rfl; refine bU ?_; refine blk_put (cs := #[.string ((rd_T49 x8_2 t195).f0), .int .i64 0, .string (⟨#[]⟩ : ByteArray)]) ?_ 1 _ rfl; refine bU ?_; refine blk_put (cs := #[.string (⟨#[]⟩ : ByteArray), .int .i64 0, .string (⟨#[]⟩ : ByteArray)]) ?_ 0 _ rfl; refine bU ?_; exact BK201.out))⟩; replace HB : Aside0 (Below w.heap.size w w98) := ⟨(by rw [hw]; exact (lV2 GE194 GE201))⟩; clear hw; have hcz99_0 := cz BK194 0 (.int .i64 ((rd_T45 l2 x33_2).f0)); have hcz99_1 := cz BK194 1 (.int .i64 ((rd_T45 l2 x33_2).f1)); have hcz99_2 := cz BK194 2 (.string ((rd_T45 l2 x33_2).f2)); have hcz99_3 := cz BK194 3 (.string ((rd_T45 l2 x33_2).f3)); have hcz99_4 := cz BK194 4 (.int .i64 ((rd_T45 l2 x33_2).f4)); have hfz99_0 := fz BK194 0; have hfz99_1 := fz BK194 1; have hfz99_2 := fz BK194 2; have hfz99_3 := fz BK194 3; have hfz99_4 := fz BK194 4; have hcz100_0 := cz BK201 0 (.string ((rd_T49 x8_2 t195).f0)); have hcz100_1 := cz BK201 1 (.int .i64 ((rd_T49 x8_2 t195).f1)); have hcz100_2 := cz BK201 2 (.string ((rd_T49 x8_2 t195).f2)); have hfz100_0 := fz BK201 0; have hfz100_1 := fz BK201 1; have hfz100_2 := fz BK201 2) | ((with_reducible refine gate_store (t := 9) (p := 94) rfl ?_); refine store_event (t := 9) (p := 94) (v := ?vo_w101) (w1 := (w98.setCell ⟨gb201, 0, none⟩ (.string ((rd_T45 l2 x33_2).f3)))) ?hg ?ho ?hn ?hr ?_; (case ho => rfl); (case hg => rfl); (case hn => rfl); (case hr => first | (go_simp; done) | (go_simp; rfl) | (have hq0_ := (blk_cell BK201.out 0).trans (show _ = some _ from rfl); have hf0_ := blk_frozen BK201.out 0; first | (go_simp; done) | (go_simp; rfl))); intro w101 hw; replace HO_8 : Aside0 (Kd.R k49 49 w101 w.heap.size (fun k_ => k_ ≠ gb201) (.slice (some ad200) x8_2.length co91) x8_2) := ⟨(by rw [hw]; exact (by (with_reducible repeat (first | apply Kd.R_alloc | apply Kd.R_drewN | apply Kd.R_drew)); exact Kd.R_mono (Kd.R_far (p := ⟨gb201, 0, none⟩) (Kd.R_mono HO_8.out (fun k_ hk => (⟨hk, hk⟩ : _ ∧ k_ ≠ gb201))) (fun _ hk => hk.2) (.string ((rd_T45 l2 x33_2).f3))) (fun _ hk => hk.1)))⟩; replace BK194 : Aside0 (w101.heap[gb194]? = some (.cells #[.int .i64 ((rd_T45 l2 x33_2).f0), .int .i64 ((rd_T45 l2 x33_2).f1), .string ((rd_T45 l2 x33_2).f2), .string ((rd_T45 l2 x33_2).f3), .int .i64 ((rd_T45 l2 x33_2).f4)] 45 (0, 0))) := ⟨(by rw [hw]; exact (bG NB194_201 BK194))⟩; replace BK201 : Aside0 (w101.heap[gb201]? = some (.cells #[.string ((rd_T45 l2 x33_2).f3), .int .i64 ((rd_T49 x8_2 t195).f1), .string ((rd_T49 x8_2 t195).f2)] 49 (0, 0))) := ⟨(by rw [hw]; exact (by refine bU ?_; refine blk_put (cs := #[.string ((rd_T49 x8_2 t195).f0), .int .i64 ((rd_T49 x8_2 t195).f1), .string ((rd_T49 x8_2 t195).f2)]) ?_ 0 _ rfl; refine bU ?_; exact BK201.out))⟩; replace HB : Aside0 (Below w.heap.size w w101) := ⟨(by rw [hw]; exact (lV2 GE194 GE201))⟩; clear hw))
                 replace HO_8 := Aside0.mk (Kd.R_drew HO_8.out)
                 replace BK194 := Aside0.mk (blk_drew BK194.out)
                 replace BK201 := Aside0.mk (blk_drew BK201.out)
                 replace HB := Aside0.mk (below_drew1 HB.out)
                 refine start_ (n := 6) (S := fun w' => w'.cell? ⟨gb201, 0, none⟩ = some (.string ((rd_T45 l2 x33_2).f3)) ∧ w'.cell? ⟨gb201, 1, none⟩ = some (.int .i64 ((rd_T49 x8_2 t195).f1)) ∧ w'.cell? ⟨gb201, 2, none⟩ = some (.string ((rd_T49 x8_2 t195).f2))) (ds := []) #[false, false, false, false, false, false] (by kernel_rfl) rfl rfl ⟨cz BK201 0 _, cz BK201 1 _, cz BK201 2 _⟩ (fun hHeld => ?_)
                 generalize w101.drew = w102 at HO_8 BK194 BK201 HB hHeld ⊢
                 refine pure_ (i := 0) (N := some 95) (v := ?_) (a' := ?_) (bz 6 1) rfl rfl (by kernel_rfl) (fun _ _ _ h => h) (Or.inl ⟨by rfl, ?_⟩) ?_ ?_
                 rotate_left
                 ·intro w'
                  go_simp
                  with_reducible rfl
                 rotate_left
                 ·simp only [Act.put, List.setIfInBounds_toArray, List.set_cons_zero, List.set_cons_succ, i64_w, i32_w]
                  rfl
                 refine pure_ (i := 1) (N := some 96) (v := ?_) (a' := ?_) (bz 6 3) rfl rfl (by kernel_rfl) (fun _ _ _ h => h) (Or.inl ⟨by rfl, ?_⟩) ?_ ?_
                 rotate_left
                 ·intro w'
                  go_simp
                  with_reducible rfl
                 rotate_left
                 ·simp only [Act.put, List.setIfInBounds_toArray, List.set_cons_zero, List.set_cons_succ, i64_w, i32_w]
                  rfl
                 refine take_ (i := 3) (N := some 98) (v := ?_) (a' := ?_) (bz 6 11) rfl rfl (by kernel_rfl) (fun _ _ _ h => h) (Or.inl ⟨by rfl, ?_⟩) hHeld ?_ ?_
                 rotate_left
                 ·rintro w' ⟨s0, s1, s2⟩
                  go_simp
                  with_reducible rfl
                 rotate_left
                 ·simp only [Act.put, List.setIfInBounds_toArray, List.set_cons_zero, List.set_cons_succ, i64_w, i32_w]
                  rfl
                 refine one_ (i := 2) (N := some 97) (bz 6 15) rfl rfl (by kernel_rfl) (by decide) (fun K hK => ?_)
                 refine goes_ Try.func33 (by kernel_rfl) rfl #[.slice (some ad200) x8_2.length co91, .int .i64 t195] (by rfl) rfl rfl aE ?_
                 with_reducible refine (spec_l22Drop.calls _ _ x8_2 t195 t202 _ ?side1 ?side2 A85.out).mono ?_
                 (case side1 => exact cU (Kd.R_reads' HO_8.out).2.2)
                 (case side2 => exact (Kd.R_reads' HO_8.out).2.1)
                 rintro e w103 ⟨v203, rfl, ho0, hb⟩
                 refine ⟨_, rfl, ?_⟩
                 have HO204 := Aside0.mk (Kd.R_lower (Kd.R_newB (Kd.R_new' ho0 (Kd.R_lt (rU HO_8.out))) (g := gb201) (o := .cells #[.string ((rd_T45 l2 x33_2).f3), .int .i64 ((rd_T49 x8_2 t195).f1), .string ((rd_T49 x8_2 t195).f2)] 49 (0, 0)) (bV BK201)) (below_size (lV2 GE194 GE201)))
                 replace HO_8 := Aside0.mk (Kd.R_elder' (rU HO_8.out) (Kd.R_base ho0) hb)
                 replace BK194 := bB (bV BK194) hb
                 replace BK201 := bB (bV BK201) hb
                 replace HB := bH (lV2 GE194 GE201) hb
                 (try clear hb)
                 (try clear hb2)
                 (try clear hk)
                 (try clear hi)
                 (try clear ho0)
                 obtain ⟨Ao104, co104, eo104⟩ := Kd.R_slice HO204.out
                 (first | subst eo104 | (injection eo104 with f1_ f2_ f3_; have f4_ := f1_.symm; have f5_ := f3_.symm; clear f1_ f2_ f3_; subst f4_; subst f5_))
                 refine hK.out _ _ ⟨cz BK201 0 _, cz BK201 1 _, cz BK201 2 _⟩ (fun hHeld => ?_)
                 clear hK K
                 refine norm_ (a' := ?_) ?_ ?_
                 rotate_left
                 ·show Act.put _ (some 97) _ = _
                  simp only [Act.put, List.setIfInBounds_toArray, List.set_cons_zero, List.set_cons_succ, i64_w, i32_w]
                  rfl
                 refine one_ (i := 4) (N := some 99) (bz 6 31) rfl rfl (by kernel_rfl) (by decide) (fun K hK => ?_)
                 refine goes_ Try.func32 (by kernel_rfl) rfl #[.slice Ao104 t202.length co104, .agg #[.string ((rd_T45 l2 x33_2).f3), .int .i64 ((rd_T49 x8_2 t195).f1), .string ((rd_T49 x8_2 t195).f2)]] (by rfl) rfl rfl aE ?_
                 with_reducible refine (spec_l22Put.calls k2 _ _ t202 ((rd_T45 l2 x33_2).f3) ((rd_T49 x8_2 t195).f1) ((rd_T49 x8_2 t195).f2) t205 _ ?side1 ?side2 A86.out).mono ?_
                 (case side1 => exact cU (Kd.R_reads' HO204.out).2.2)
                 (case side2 => exact (Kd.R_reads' HO204.out).2.1)
                 rintro e w105 ⟨v206, rfl, ho0, hb⟩
                 refine ⟨_, rfl, ?_⟩
                 have HO207 := Aside0.mk (Kd.R_lower (Kd.R_newB (Kd.R_new' (Kd.R_new' ho0 (Kd.R_lt (rU HO_8.out))) (Kd.R_lt (rU HO204.out))) (g := gb201) (o := .cells #[.string ((rd_T45 l2 x33_2).f3), .int .i64 ((rd_T49 x8_2 t195).f1), .string ((rd_T49 x8_2 t195).f2)] 49 (0, 0)) (bV BK201)) (below_size (lV2 GE194 GE201)))
                 replace HO_8 := Aside0.mk (Kd.R_elder' (rU HO_8.out) (Kd.R_base ho0) hb)
                 replace HO204 := Aside0.mk (Kd.R_elder' (rU HO204.out) (Kd.R_base ho0) hb)
                 replace BK194 := bB (bV BK194) hb
                 replace BK201 := bB (bV BK201) hb
                 replace HB := bH (lV2 GE194 GE201) hb
                 (try clear hb)
                 (try clear hb2)
                 (try clear hk)
                 (try clear hi)
                 (try clear ho0)
                 refine hK.out _ _ ⟨cz BK201 0 _, cz BK201 1 _, cz BK201 2 _⟩ (fun hHeld => ?_)
                 clear hK K
                 refine norm_ (a' := ?_) ?_ ?_
                 rotate_left
                 ·show Act.put _ (some 99) _ = _
                  simp only [Act.put, List.setIfInBounds_toArray, List.set_cons_zero, List.set_cons_succ, i64_w, i32_w]
                  rfl
                 refine pure_ (i := 5) (N := some 8) (v := ?_) (a' := ?_) (bz 6 63) rfl rfl (by kernel_rfl) (fun _ _ _ h => h) (Or.inl ⟨by rfl, ?_⟩) ?_ ?_
                 rotate_left
                 ·intro w'
                  go_simp
                  with_reducible rfl
                 rotate_left
                 ·simp only [Act.put, List.setIfInBounds_toArray, List.set_cons_zero, List.set_cons_succ, i64_w, i32_w]
                  rfl
                 refine done_ (by kernel_rfl) ?_
                 try go_wp2
                 go_roundg k2
                 case measure => have := HJ3.out; have := HK2.out; omega
                 case rel => exact ⟨(t205), (wrap64 (x33_2 + 1)), tE, H', ⟨by have := HJ3.out; have := HK2.out; omega⟩, ⟨by (with_reducible repeat (first | apply Kd.R_alloc | apply Kd.R_drewN | apply Kd.R_drew)); exact Kd.R_mono HO207.out (fun _ hk => trivial)⟩, ⟨by repeat (first | (with_reducible first | exact HB.out | apply below_alloc | apply pw_below_drewN | apply below_drew1 | refine below_set ?_ GE194.out | refine below_set ?_ GE201.out) | exact HB.out)⟩⟩
                ·rw [if_neg c84] at H
                 exact absurd H (by simp)
               ·rw [if_neg c83] at H
                exact absurd H (by simp)
             ·rw [if_neg c72] at H
              have c72b0 : (((rd_T45 l2 x33_2).f1) == 1) = false := beq_eq_false_iff_ne.mpr c72
              have c72b1 : (((rd_T45 l2 x33_2).f1) != 1) = true := bne_iff_ne.mpr c72
              by_cases c106 : ((rd_T45 l2 x33_2).f1) = 4
              ·rw [if_pos c106] at H
               have c106b0 : (((rd_T45 l2 x33_2).f1) == 4) = true := beq_iff_eq.mpr c106
               have c106b1 : (((rd_T45 l2 x33_2).f1) != 4) = false := bne_eq_false_iff_eq.mpr c106
               clear c106
               replace H := Option.bind_eq_some_iff.mp H
               obtain ⟨t208, A1070, H⟩ := H
               replace H : (spec_MigrateSave.l0 k2 a0 t208 l2 (l2.length : Int) (wrap64 (x33_2 + 1))) = some (r1, r2) := H
               have A107 := Aside0.mk A1070
               clear A1070
               have H' := Aside0.mk H
               clear H
               have p193 : 0 ≤ (x33_2 : Int) := of_decide_eq_true hE
               have q193 : x33_2 < (l2.length : Int) := of_decide_eq_true hE
               obtain ⟨ad193, e193, hx193_0, hx193_1, hx193_2, hx193_3, hx193_4⟩ := at_T45 HR2.out x33_2 p193 q193
               cases e193
               replace hx193_0 := (HB.out.cell (World.block_lt_of_cell? w _ hx193_0)).trans hx193_0
               replace hx193_1 := (HB.out.cell (World.block_lt_of_cell? w _ hx193_1)).trans hx193_1
               replace hx193_2 := (HB.out.cell (World.block_lt_of_cell? w _ hx193_2)).trans hx193_2
               replace hx193_3 := (HB.out.cell (World.block_lt_of_cell? w _ hx193_3)).trans hx193_3
               replace hx193_4 := (HB.out.cell (World.block_lt_of_cell? w _ hx193_4)).trans hx193_4
               replace p193 := eq_true p193
               replace q193 := eq_true q193
               go_wp2_with (first | ((with_reducible refine gate_dst (N := 10) rfl ?_); refine box_event rfl (N := 10) rfl (cs := #[.int .i64 0, .int .i64 0, .string (⟨#[]⟩ : ByteArray), .string (⟨#[]⟩ : ByteArray), .int .i64 0]) (t := 45) sE ?_; intro gb194 hg w108 hbox hb; replace HO_8 := Aside0.mk (Kd.R_below (rU HO_8.out) hb); have BK194 := Aside0.mk hbox; have GW194 := gS w hg (lU); have GE194 := gS w hg (lU); replace HB := bH (lU) hb; clear hb hbox hg; have hcz109_0 := cz BK194 0 (.int .i64 0); have hcz109_1 := cz BK194 1 (.int .i64 0); have hcz109_2 := cz BK194 2 (.string (⟨#[]⟩ : ByteArray)); have hcz109_3 := cz BK194 3 (.string (⟨#[]⟩ : ByteArray)); have hcz109_4 := cz BK194 4 (.int .i64 0); have hfz109_0 := fz BK194 0; have hfz109_1 := fz BK194 1; have hfz109_2 := fz BK194 2; have hfz109_3 := fz BK194 3; have hfz109_4 := fz BK194 4) | ((with_reducible refine gate_store (t := 45) (p := 10) rfl ?_); refine store_event (t := 45) (p := 10) (v := ?vo_w110) (w1 := (((((w108.setCell ⟨gb194, 0, none⟩ (.int .i64 ((rd_T45 l2 x33_2).f0))).setCell ⟨gb194, 1, none⟩ (.int .i64 ((rd_T45 l2 x33_2).f1))).setCell ⟨gb194, 2, none⟩ (.string ((rd_T45 l2 x33_2).f2))).setCell ⟨gb194, 3, none⟩ (.string ((rd_T45 l2 x33_2).f3))).setCell ⟨gb194, 4, none⟩ (.int .i64 ((rd_T45 l2 x33_2).f4)))) ?hg ?ho ?hn ?hr ?_; (case ho => rfl); (case hg => rfl); (case hn => rfl); (case hr => first | (go_simp; done) | (go_simp; rfl) | (have hq0_ := (blk_cell BK194.out 0).trans (show _ = some _ from rfl); have hf0_ := blk_frozen BK194.out 0; have hq1_ := (blk_cell BK194.out 1).trans (show _ = some _ from rfl); have hf1_ := blk_frozen BK194.out 1; have hq2_ := (blk_cell BK194.out 2).trans (show _ = some _ from rfl); have hf2_ := blk_frozen BK194.out 2; have hq3_ := (blk_cell BK194.out 3).trans (show _ = some _ from rfl); have hf3_ := blk_frozen BK194.out 3; have hq4_ := (blk_cell BK194.out 4).trans (show _ = some _ from rfl); have hf4_ := blk_frozen BK194.out 4; first | (go_simp; done) | (go_simp; rfl))); intro w110 hw; replace HO_8 : Aside0 (Kd.R k49 49 w110 w.heap.size (fun _ => True) u8 x8_2) := ⟨(by rw [hw]; exact (by (with_reducible repeat (first | apply Kd.R_alloc | apply Kd.R_drewN | apply Kd.R_drew)); exact Kd.R_mono (Kd.R_far (p := ⟨gb194, 4, none⟩) (Kd.R_far (p := ⟨gb194, 3, none⟩) (Kd.R_far (p := ⟨gb194, 2, none⟩) (Kd.R_far (p := ⟨gb194, 1, none⟩) (Kd.R_far (p := ⟨gb194, 0, none⟩) (Kd.R_types HO_8.out BK194.out (by decide)) (fun _ hk => hk.2) (.int .i64 ((rd_T45 l2 x33_2).f0))) (fun _ hk => hk.2) (.int .i64 ((rd_T45 l2 x33_2).f1))) (fun _ hk => hk.2) (.string ((rd_T45 l2 x33_2).f2))) (fun _ hk => hk.2) (.string ((rd_T45 l2 x33_2).f3))) (fun _ hk => hk.2) (.int .i64 ((rd_T45 l2 x33_2).f4))) (fun _ hk => trivial)))⟩; replace BK194 : Aside0 (w110.heap[gb194]? = some (.cells #[.int .i64 ((rd_T45 l2 x33_2).f0), .int .i64 ((rd_T45 l2 x33_2).f1), .string ((rd_T45 l2 x33_2).f2), .string ((rd_T45 l2 x33_2).f3), .int .i64 ((rd_T45 l2 x33_2).f4)] 45 (0, 0))) := ⟨(by rw [hw]; exact (by refine bU ?_; refine blk_put (cs := #[.int .i64 ((rd_T45 l2 x33_2).f0), .int .i64 ((rd_T45 l2 x33_2).f1), .string ((rd_T45 l2 x33_2).f2), .string ((rd_T45 l2 x33_2).f3), .int .i64 0]) ?_ 4 _ rfl; refine bU ?_; refine blk_put (cs := #[.int .i64 ((rd_T45 l2 x33_2).f0), .int .i64 ((rd_T45 l2 x33_2).f1), .string ((rd_T45 l2 x33_2).f2), .string (⟨#[]⟩ : ByteArray), .int .i64 0]) ?_ 3 _ rfl; refine bU ?_; refine blk_put (cs := #[.int .i64 ((rd_T45 l2 x33_2).f0), .int .i64 ((rd_T45 l2 x33_2).f1), .string (⟨#[]⟩ : ByteArray), .string (⟨#[]⟩ : ByteArray), .int .i64 0]) ?_ 2 _ rfl; refine bU ?_; refine blk_put (cs := #[.int .i64 ((rd_T45 l2 x33_2).f0), .int .i64 0, .string (⟨#[]⟩ : ByteArray), .string (⟨#[]⟩ : ByteArray), .int .i64 0]) ?_ 1 _ rfl; refine bU ?_; refine blk_put (cs := #[.int .i64 0, .int .i64 0, .string (⟨#[]⟩ : ByteArray), .string (⟨#[]⟩ : ByteArray), .int .i64 0]) ?_ 0 _ rfl; refine bU ?_; exact BK194.out))⟩; replace HB : Aside0 (Below w.heap.size w w110) := ⟨(by rw [hw]; exact (lV1 GE194))⟩; clear hw; have hcz111_0 := cz BK194 0 (.int .i64 ((rd_T45 l2 x33_2).f0)); have hcz111_1 := cz BK194 1 (.int .i64 ((rd_T45 l2 x33_2).f1)); have hcz111_2 := cz BK194 2 (.string ((rd_T45 l2 x33_2).f2)); have hcz111_3 := cz BK194 3 (.string ((rd_T45 l2 x33_2).f3)); have hcz111_4 := cz BK194 4 (.int .i64 ((rd_T45 l2 x33_2).f4)); have hfz111_0 := fz BK194 0; have hfz111_1 := fz BK194 1; have hfz111_2 := fz BK194 2; have hfz111_3 := fz BK194 3; have hfz111_4 := fz BK194 4; obtain ⟨Ao112, co112, eo112⟩ := Kd.R_slice HO_8.out; subst eo112) | ((with_reducible refine gate_callee (f := 31) rfl ?_); refine goesL_ (some 44) rfl rfl Try.func31 (by kernel_rfl) rfl #[.slice Ao112 x8_2.length co112, .string ((rd_T45 l2 x33_2).f2)] rfl aE ?_; (with_reducible refine (spec_l22At.calls k2 _ _ x8_2 ((rd_T45 l2 x33_2).f2) t195 _ ?side1 ?side2 A26.out).mono ?_); (case side1 => exact cU (Kd.R_reads' HO_8.out).2.2); (case side2 => exact (Kd.R_reads' HO_8.out).2.1); rintro e w113 ⟨rfl, hb⟩; refine ⟨_, rfl, ?_⟩; replace HO_8 := Aside0.mk (Kd.R_below (rU HO_8.out) hb); replace BK194 := bB (bV BK194) hb; replace HB := bH (lV1 GE194) hb; (try clear hb); have hcz114_0 := cz BK194 0 (.int .i64 ((rd_T45 l2 x33_2).f0)); have hcz114_1 := cz BK194 1 (.int .i64 ((rd_T45 l2 x33_2).f1)); have hcz114_2 := cz BK194 2 (.string ((rd_T45 l2 x33_2).f2)); have hcz114_3 := cz BK194 3 (.string ((rd_T45 l2 x33_2).f3)); have hcz114_4 := cz BK194 4 (.int .i64 ((rd_T45 l2 x33_2).f4)); have hfz114_0 := fz BK194 0; have hfz114_1 := fz BK194 1; have hfz114_2 := fz BK194 2; have hfz114_3 := fz BK194 3; have hfz114_4 := fz BK194 4) | ((with_reducible refine gate_callee (f := 33) rfl ?_); refine goesL_ (some 104) rfl rfl Try.func33 (by kernel_rfl) rfl #[.slice Ao112 x8_2.length co112, .int .i64 t195] rfl aE ?_; (with_reducible refine (spec_l22Drop.calls _ _ x8_2 t195 t208 _ ?side1 ?side2 A107.out).mono ?_); (case side1 => exact cU (Kd.R_reads' HO_8.out).2.2); (case side2 => exact (Kd.R_reads' HO_8.out).2.1); rintro e w115 ⟨v209, rfl, ho0, hb⟩; refine ⟨_, rfl, ?_⟩; have HO210 := Aside0.mk (Kd.R_lower (Kd.R_new' ho0 (Kd.R_lt (rU HO_8.out))) (below_size (lV1 GE194))); replace HO_8 := Aside0.mk (Kd.R_elder' (rU HO_8.out) (Kd.R_base ho0) hb); replace BK194 := bB (bV BK194) hb; replace HB := bH (lV1 GE194) hb; (try clear hb); (try clear ho0)))
               go_roundg k2
               case measure => have := HJ3.out; have := HK2.out; omega
               case rel => exact ⟨(t208), (wrap64 (x33_2 + 1)), tE, H', ⟨by have := HJ3.out; have := HK2.out; omega⟩, ⟨by (with_reducible repeat (first | apply Kd.R_alloc | apply Kd.R_drewN | apply Kd.R_drew)); exact Kd.R_mono HO210.out (fun _ hk => trivial)⟩, ⟨by repeat (first | (with_reducible first | exact HB.out | apply below_alloc | apply pw_below_drewN | apply below_drew1 | refine below_set ?_ GE194.out) | exact HB.out)⟩⟩
              ·rw [if_neg c106] at H
               have c106b0 : (((rd_T45 l2 x33_2).f1) == 4) = false := beq_eq_false_iff_ne.mpr c106
               have c106b1 : (((rd_T45 l2 x33_2).f1) != 4) = true := bne_iff_ne.mpr c106
               by_cases c116 : 0 ≤ t195
               ·rw [if_pos c116] at H
                have c116b0 : decide (0 ≤ t195) = true := decide_eq_true c116
                clear c116
                by_cases c117 : t195 < (x8_2.length : Int)
                ·rw [if_pos c117] at H
                 have c117b0 : decide (t195 < (x8_2.length : Int)) = true := decide_eq_true c117
                 clear c117
                 replace H := Option.bind_eq_some_iff.mp H
                 obtain ⟨⟨t212, t213⟩, A1180, H⟩ := H
                 replace H : (if t213 = true then (spec_MigrateSave.l0 k2 a0 (x8_2.set (t195 : Int).toNat (⟨(rd_T49 x8_2 t195).f0, t212, (rd_T49 x8_2 t195).f2⟩ : S49)) l2 (l2.length : Int) (wrap64 (x33_2 + 1))) else (some (([] : List (S49)), false))) = some (r1, r2) := H
                 have A118 := Aside0.mk A1180
                 clear A1180
                 by_cases c119 : t213 = true
                 ·subst c119
                  have H1 : (spec_MigrateSave.l0 k2 a0 (x8_2.set (t195 : Int).toNat (⟨(rd_T49 x8_2 t195).f0, t212, (rd_T49 x8_2 t195).f2⟩ : S49)) l2 (l2.length : Int) (wrap64 (x33_2 + 1))) = some (r1, r2) := by rw [if_pos rfl] at H; exact H
                  clear H
                  have H := H1
                  clear H1
                  obtain ⟨y214, hy214⟩ : ∃ y_ : List (S49), y_ = (x8_2.set (t195 : Int).toNat (⟨(rd_T49 x8_2 t195).f0, t212, (rd_T49 x8_2 t195).f2⟩ : S49)) := ⟨_, rfl⟩
                  replace H : (spec_MigrateSave.l0 k2 a0 y214 l2 (l2.length : Int) (wrap64 (x33_2 + 1))) = some (r1, r2) := by first | (rw [hy214]; with_reducible exact H) | (have H2_ := (Option.bind_some _ _).symm.trans H; rw [hy214]; with_reducible exact H2_) | (have H2_ := (Option.bind_some _ _).symm.trans H; with_reducible exact H2_) | with_reducible exact H | (rw [hy214]; exact H) | exact H
                  have Ny214 := Aside0.mk hy214
                  clear hy214
                  have H' := Aside0.mk H
                  clear H
                  have p193 : 0 ≤ (x33_2 : Int) := of_decide_eq_true hE
                  have q193 : x33_2 < (l2.length : Int) := of_decide_eq_true hE
                  obtain ⟨ad193, e193, hx193_0, hx193_1, hx193_2, hx193_3, hx193_4⟩ := at_T45 HR2.out x33_2 p193 q193
                  cases e193
                  replace hx193_0 := (HB.out.cell (World.block_lt_of_cell? w _ hx193_0)).trans hx193_0
                  replace hx193_1 := (HB.out.cell (World.block_lt_of_cell? w _ hx193_1)).trans hx193_1
                  replace hx193_2 := (HB.out.cell (World.block_lt_of_cell? w _ hx193_2)).trans hx193_2
                  replace hx193_3 := (HB.out.cell (World.block_lt_of_cell? w _ hx193_3)).trans hx193_3
                  replace hx193_4 := (HB.out.cell (World.block_lt_of_cell? w _ hx193_4)).trans hx193_4
                  replace p193 := eq_true p193
                  replace q193 := eq_true q193
                  try go_wp2_with (first | ((with_reducible refine gate_dst (N := 10) rfl ?_); refine box_event rfl (N := 10) rfl (cs := #[.int .i64 0, .int .i64 0, .string (⟨#[]⟩ : ByteArray), .string (⟨#[]⟩ : ByteArray), .int .i64 0]) (t := 45) sE ?_; intro gb194 hg w121 hbox hb; replace HO_8 := Aside0.mk (Kd.R_below (rU HO_8.out) hb); have BK194 := Aside0.mk hbox; have GW194 := gS w hg (lU); have GE194 := gS w hg (lU); replace HB := bH (lU) hb; clear hb hbox hg; have hcz122_0 := cz BK194 0 (.int .i64 0); have hcz122_1 := cz BK194 1 (.int .i64 0); have hcz122_2 := cz BK194 2 (.string (⟨#[]⟩ : ByteArray)); have hcz122_3 := cz BK194 3 (.string (⟨#[]⟩ : ByteArray)); have hcz122_4 := cz BK194 4 (.int .i64 0); have hfz122_0 := fz BK194 0; have hfz122_1 := fz BK194 1; have hfz122_2 := fz BK194 2; have hfz122_3 := fz BK194 3; have hfz122_4 := fz BK194 4) | ((with_reducible refine gate_store (t := 45) (p := 10) rfl ?_); refine store_event (t := 45) (p := 10) (v := ?vo_w123) (w1 := (((((w121.setCell ⟨gb194, 0, none⟩ (.int .i64 ((rd_T45 l2 x33_2).f0))).setCell ⟨gb194, 1, none⟩ (.int .i64 ((rd_T45 l2 x33_2).f1))).setCell ⟨gb194, 2, none⟩ (.string ((rd_T45 l2 x33_2).f2))).setCell ⟨gb194, 3, none⟩ (.string ((rd_T45 l2 x33_2).f3))).setCell ⟨gb194, 4, none⟩ (.int .i64 ((rd_T45 l2 x33_2).f4)))) ?hg ?ho ?hn ?hr ?_; (case ho => rfl); (case hg => rfl); (case hn => rfl); (case hr => first | (go_simp; done) | (go_simp; rfl) | (have hq0_ := (blk_cell BK194.out 0).trans (show _ = some _ from rfl); have hf0_ := blk_frozen BK194.out 0; have hq1_ := (blk_cell BK194.out 1).trans (show _ = some _ from rfl); have hf1_ := blk_frozen BK194.out 1; have hq2_ := (blk_cell BK194.out 2).trans (show _ = some _ from rfl); have hf2_ := blk_frozen BK194.out 2; have hq3_ := (blk_cell BK194.out 3).trans (show _ = some _ from rfl); have hf3_ := blk_frozen BK194.out 3; have hq4_ := (blk_cell BK194.out 4).trans (show _ = some _ from rfl); have hf4_ := blk_frozen BK194.out 4; first | (go_simp; done) | (go_simp; rfl))); intro w123 hw; replace HO_8 : Aside0 (Kd.R k49 49 w123 w.heap.size (fun _ => True) u8 x8_2) := ⟨(by rw [hw]; exact (by (with_reducible repeat (first | apply Kd.R_alloc | apply Kd.R_drewN | apply Kd.R_drew)); exact Kd.R_mono (Kd.R_far (p := ⟨gb194, 4, none⟩) (Kd.R_far (p := ⟨gb194, 3, none⟩) (Kd.R_far (p := ⟨gb194, 2, none⟩) (Kd.R_far (p := ⟨gb194, 1, none⟩) (Kd.R_far (p := ⟨gb194, 0, none⟩) (Kd.R_types HO_8.out BK194.out (by decide)) (fun _ hk => hk.2) (.int .i64 ((rd_T45 l2 x33_2).f0))) (fun _ hk => hk.2) (.int .i64 ((rd_T45 l2 x33_2).f1))) (fun _ hk => hk.2) (.string ((rd_T45 l2 x33_2).f2))) (fun _ hk => hk.2) (.string ((rd_T45 l2 x33_2).f3))) (fun _ hk => hk.2) (.int .i64 ((rd_T45 l2 x33_2).f4))) (fun _ hk => trivial)))⟩; replace BK194 : Aside0 (w123.heap[gb194]? = some (.cells #[.int .i64 ((rd_T45 l2 x33_2).f0), .int .i64 ((rd_T45 l2 x33_2).f1), .string ((rd_T45 l2 x33_2).f2), .string ((rd_T45 l2 x33_2).f3), .int .i64 ((rd_T45 l2 x33_2).f4)] 45 (0, 0))) := ⟨(by rw [hw]; exact (by refine bU ?_; refine blk_put (cs := #[.int .i64 ((rd_T45 l2 x33_2).f0), .int .i64 ((rd_T45 l2 x33_2).f1), .string ((rd_T45 l2 x33_2).f2), .string ((rd_T45 l2 x33_2).f3), .int .i64 0]) ?_ 4 _ rfl; refine bU ?_; refine blk_put (cs := #[.int .i64 ((rd_T45 l2 x33_2).f0), .int .i64 ((rd_T45 l2 x33_2).f1), .string ((rd_T45 l2 x33_2).f2), .string (⟨#[]⟩ : ByteArray), .int .i64 0]) ?_ 3 _ rfl; refine bU ?_; refine blk_put (cs := #[.int .i64 ((rd_T45 l2 x33_2).f0), .int .i64 ((rd_T45 l2 x33_2).f1), .string (⟨#[]⟩ : ByteArray), .string (⟨#[]⟩ : ByteArray), .int .i64 0]) ?_ 2 _ rfl; refine bU ?_; refine blk_put (cs := #[.int .i64 ((rd_T45 l2 x33_2).f0), .int .i64 0, .string (⟨#[]⟩ : ByteArray), .string (⟨#[]⟩ : ByteArray), .int .i64 0]) ?_ 1 _ rfl; refine bU ?_; refine blk_put (cs := #[.int .i64 0, .int .i64 0, .string (⟨#[]⟩ : ByteArray), .string (⟨#[]⟩ : ByteArray), .int .i64 0]) ?_ 0 _ rfl; refine bU ?_; exact BK194.out))⟩; replace HB : Aside0 (Below w.heap.size w w123) := ⟨(by rw [hw]; exact (lV1 GE194))⟩; clear hw; have hcz124_0 := cz BK194 0 (.int .i64 ((rd_T45 l2 x33_2).f0)); have hcz124_1 := cz BK194 1 (.int .i64 ((rd_T45 l2 x33_2).f1)); have hcz124_2 := cz BK194 2 (.string ((rd_T45 l2 x33_2).f2)); have hcz124_3 := cz BK194 3 (.string ((rd_T45 l2 x33_2).f3)); have hcz124_4 := cz BK194 4 (.int .i64 ((rd_T45 l2 x33_2).f4)); have hfz124_0 := fz BK194 0; have hfz124_1 := fz BK194 1; have hfz124_2 := fz BK194 2; have hfz124_3 := fz BK194 3; have hfz124_4 := fz BK194 4; obtain ⟨Ao125, co125, eo125⟩ := Kd.R_slice HO_8.out; subst eo125) | ((with_reducible refine gate_callee (f := 31) rfl ?_); refine goesL_ (some 44) rfl rfl Try.func31 (by kernel_rfl) rfl #[.slice Ao125 x8_2.length co125, .string ((rd_T45 l2 x33_2).f2)] rfl aE ?_; (with_reducible refine (spec_l22At.calls k2 _ _ x8_2 ((rd_T45 l2 x33_2).f2) t195 _ ?side1 ?side2 A26.out).mono ?_); (case side1 => exact cU (Kd.R_reads' HO_8.out).2.2); (case side2 => exact (Kd.R_reads' HO_8.out).2.1); rintro e w126 ⟨rfl, hb⟩; refine ⟨_, rfl, ?_⟩; replace HO_8 := Aside0.mk (Kd.R_below (rU HO_8.out) hb); replace BK194 := bB (bV BK194) hb; replace HB := bH (lV1 GE194) hb; (try clear hb); have hcz127_0 := cz BK194 0 (.int .i64 ((rd_T45 l2 x33_2).f0)); have hcz127_1 := cz BK194 1 (.int .i64 ((rd_T45 l2 x33_2).f1)); have hcz127_2 := cz BK194 2 (.string ((rd_T45 l2 x33_2).f2)); have hcz127_3 := cz BK194 3 (.string ((rd_T45 l2 x33_2).f3)); have hcz127_4 := cz BK194 4 (.int .i64 ((rd_T45 l2 x33_2).f4)); have hfz127_0 := fz BK194 0; have hfz127_1 := fz BK194 1; have hfz127_2 := fz BK194 2; have hfz127_3 := fz BK194 3; have hfz127_4 := fz BK194 4))
                  replace HO_8 := Aside0.mk (Kd.R_drew HO_8.out)
                  replace BK194 := Aside0.mk (blk_drew BK194.out)
                  replace HB := Aside0.mk (below_drew1 HB.out)
                  have p211 : 0 ≤ (t195 : Int) := of_decide_eq_true hE
                  have q211 : t195 < (x8_2.length : Int) := of_decide_eq_true hE
                  obtain ⟨ad211, e211, hx211_0, hx211_1, hx211_2⟩ := at_T49 (Kd.R_reads' HO_8.out).2.2 t195 p211 q211
                  cases e211
                  replace p211 := eq_true p211
                  replace q211 := eq_true q211
                  refine start_ (n := 12) (S := fun w' => w'.cell? ⟨gb194, 0, none⟩ = some (.int .i64 ((rd_T45 l2 x33_2).f0)) ∧ w'.cell? ⟨gb194, 1, none⟩ = some (.int .i64 ((rd_T45 l2 x33_2).f1)) ∧ w'.cell? ⟨gb194, 2, none⟩ = some (.string ((rd_T45 l2 x33_2).f2)) ∧ w'.cell? ⟨gb194, 3, none⟩ = some (.string ((rd_T45 l2 x33_2).f3)) ∧ w'.cell? ⟨gb194, 4, none⟩ = some (.int .i64 ((rd_T45 l2 x33_2).f4)) ∧ w'.cell? (ad211.add ((t195).toNat * 3)) = some (.string ((rd_T49 x8_2 t195).f0)) ∧ w'.cell? ⟨(ad211.add ((t195).toNat * 3)).block, (ad211.add ((t195).toNat * 3)).off + 1, none⟩ = some (.int .i64 ((rd_T49 x8_2 t195).f1)) ∧ w'.cell? ⟨(ad211.add ((t195).toNat * 3)).block, (ad211.add ((t195).toNat * 3)).off + 2, none⟩ = some (.string ((rd_T49 x8_2 t195).f2))) (ds := []) #[false, false, false, false, false, false, false, false, false, false, false, false] (by kernel_rfl) rfl rfl ⟨cz BK194 0 _, cz BK194 1 _, cz BK194 2 _, cz BK194 3 _, cz BK194 4 _, hx211_0, hx211_1, hx211_2⟩ (fun hHeld => ?_); refine with_tabW spec_MigrateSave.tab16 spec_MigrateSave.bits16 (fun HT_ HW_ => ?_)
                  generalize w126.drew = w128 at HO_8 BK194 HB hx211_0 hx211_1 hx211_2 hHeld ⊢
                  refine pureA 1 66 (bz 12 2) rfl rfl (any_of HT_.out (by kernel_rfl)) ?_
                  refine pureA 2 67 (bz 12 6) rfl rfl (any_of HT_.out (by kernel_rfl)) ?_
                  refine pureA 3 68 (bz 12 14) rfl rfl (any_of HT_.out (by kernel_rfl)) ?_
                  refine pureA 4 69 (bz 12 30) rfl rfl (any_of HT_.out (by kernel_rfl)) ?_
                  refine takeA 0 65 (bz 12 31) rfl rfl (take_ofW HT_.out HW_.out (by kernel_rfl)) hHeld (by rintro w' ⟨s0, s1, s2, s3, s4, s5, s6, s7⟩; go_simp; with_reducible rfl) ?_
                  refine takeA 5 70 (bz 12 63) rfl rfl (take_ofW HT_.out HW_.out (by kernel_rfl)) hHeld (by rintro w' ⟨s0, s1, s2, s3, s4, s5, s6, s7⟩; go_simp; with_reducible rfl) ?_
                  refine one_ (i := 6) (N := some 71) (bz 12 127) rfl rfl (one_of HT_.out (by kernel_rfl)) (by decide) (fun K hK => ?_)
                  refine goes_ Try.func34 (by kernel_rfl) rfl #[.agg #[.int .i64 ((rd_T45 l2 x33_2).f0), .int .i64 ((rd_T45 l2 x33_2).f1), .string ((rd_T45 l2 x33_2).f2), .string ((rd_T45 l2 x33_2).f3), .int .i64 ((rd_T45 l2 x33_2).f4)], .int .i64 ((rd_T49 x8_2 t195).f1)] (by rfl) rfl rfl aE ?_
                  with_reducible refine (spec_l22Turn.calls ((rd_T45 l2 x33_2).f0) ((rd_T45 l2 x33_2).f1) ((rd_T45 l2 x33_2).f2) ((rd_T45 l2 x33_2).f3) ((rd_T45 l2 x33_2).f4) ((rd_T49 x8_2 t195).f1) t212 true _ A118.out).mono ?_
                  rintro e w129 ⟨rfl, hb⟩
                  have HS5_ := hT hb hHeld.2.2.2.2.2.1
                  have HS6_ := hT hb hHeld.2.2.2.2.2.2.1
                  have HS7_ := hT hb hHeld.2.2.2.2.2.2.2
                  refine ⟨_, rfl, ?_⟩
                  replace HO_8 := Aside0.mk (Kd.R_below (rU HO_8.out) hb)
                  replace BK194 := bB (bV BK194) hb
                  replace HB := bH (lV1 GE194) hb
                  (try clear hb)
                  (try clear hb2)
                  (try clear hk)
                  (try clear hi)
                  refine hK.out _ _ ⟨cz BK194 0 _, cz BK194 1 _, cz BK194 2 _, cz BK194 3 _, cz BK194 4 _, HS5_, HS6_, HS7_⟩ (fun hHeld => ?_)
                  clear hK K
                  refine norm_ (a' := ?_) ?_ ?_
                  rotate_left
                  ·show Act.put _ (some 71) _ = _
                   simp only [Act.put, List.setIfInBounds_toArray, List.set_cons_zero, List.set_cons_succ, i64_w, i32_w]
                   rfl
                  refine pureA 7 64 (bz 12 255) rfl rfl (any_of HT_.out (by kernel_rfl)) ?_
                  refine pureA 8 72 (bz 12 511) rfl rfl (any_of HT_.out (by kernel_rfl)) ?_
                  refine pureA 9 73 (bz 12 1023) rfl rfl (any_of HT_.out (by kernel_rfl)) ?_
                  refine pureA 10 13 (bz 12 2047) rfl rfl (any_of HT_.out (by kernel_rfl)) ?_
                  refine pureA 11 14 (bz 12 4095) rfl rfl (any_of HT_.out (by kernel_rfl)) ?_
                  refine done_ (done_of HT_.out (by kernel_rfl)) ?_
                  have p120 : 0 ≤ (t195 : Int) := of_decide_eq_true hE
                  have q120 : (t195 : Int) < ((x8_2.length : Int) : Int) := of_decide_eq_true hE
                  obtain ⟨go120, co120, eo120, gb120, gl120, cl120, HG120⟩ := Kd.R_form HO_8.out (by omega)
                  (first | cases eo120 | (injection eo120 with ea_ en_ ec_; (first | subst ea_ | (injection ea_ with ea_; subst ea_)); subst ec_; clear en_))
                  have GB120 := Aside0.mk gb120
                  have GG120 := Aside0.mk HG120
                  clear gb120 gl120 HG120
                  (first | simp only [add_plain] at hx211_0 | skip)
                  (first | simp only [add_plain] at hx211_1 | skip)
                  (first | simp only [add_plain] at hx211_2 | skip)
                  obtain ⟨ce120, hcl120, hM120, hcc120, hfr120⟩ := Kd.R_elem HO_8.out z49 (t195 : Int) p120 q120
                  obtain rfl := k49_openM hM120
                  have hx120_0 : w129.cell? ⟨go120, (t195 : Int).toNat * 3, none⟩ = some (.string ((rd_T49 x8_2 t195).f0)) := hcc120 0 _ rfl
                  have hx120_1 : w129.cell? ⟨go120, (t195 : Int).toNat * 3 + 1, none⟩ = some (.int .i64 ((rd_T49 x8_2 t195).f1)) := hcc120 1 _ rfl
                  have hx120_2 : w129.cell? ⟨go120, (t195 : Int).toNat * 3 + 2, none⟩ = some (.string ((rd_T49 x8_2 t195).f2)) := hcc120 2 _ rfl
                  have hf120_0 : w129.frozen? ⟨go120, (t195 : Int).toNat * 3, none⟩ = false := hfr120 0
                  have hf120_1 : w129.frozen? ⟨go120, (t195 : Int).toNat * 3 + 1, none⟩ = false := hfr120 1
                  have hf120_2 : w129.frozen? ⟨go120, (t195 : Int).toNat * 3 + 2, none⟩ = false := hfr120 2
                  (try clear hcl120)
                  (try clear hcc120)
                  (try clear hfr120)
                  (try clear hM120)
                  replace p120 := eq_true p120
                  replace q120 := eq_true q120
                  have HX130 := Aside0.mk (show Kd.R k49 49 w129 w.heap.size (fun _ => True) (.slice (some ⟨go120, 0, none⟩) x8_2.length co125) x8_2 from (rU HO_8.out))
                  obtain ⟨ce130, hcl130, hM130, hcc130, hfr130⟩ := Kd.R_elem HX130.out z49 (t195 : Int) (of_decide_eq_true hE) (by have h_ : (t195 : Int) < ((x8_2.length : Int) : Int) := of_decide_eq_true hE; first | exact h_ | (have e_ := (Kd.R_reads' HO_8.out).1; omega) | simpa using h_)
                  obtain rfl := k49_openM hM130
                  have HP130 := Kd.R_seg HX130.out (t195 : Int) (of_decide_eq_true hE) (by have h_ : (t195 : Int) < ((x8_2.length : Int) : Int) := of_decide_eq_true hE; first | exact h_ | (have e_ := (Kd.R_reads' HO_8.out).1; omega) | simpa using h_) (seg := [.int .i64 t212]) (j := 1) hcl130 hcc130 (show 2 ≤ 3 from by decide) (x' := (⟨(rd_T49 x8_2 t195).f0, t212, (rd_T49 x8_2 t195).f2⟩ : S49)) (k49_mkM _ _ _ (⟨(rd_T49 x8_2 t195).f0, t212, (rd_T49 x8_2 t195).f2⟩ : S49) ) (fun _ hk => hk)
                  have hx130_1 := hcc130 1 _ rfl
                  (try simp only [show (k49).sz = 3 from rfl, Nat.mul_one, Nat.add_zero] at hx130_1)
                  have hf130_1 := hfr130 1
                  (try simp only [show (k49).sz = 3 from rfl, Nat.mul_one, Nat.add_zero] at hf130_1)
                  (try clear hcl130)
                  (try clear hcc130)
                  (try clear hfr130)
                  (try clear hM130)
                  try go_wp2_with (first | ((with_reducible refine gate_store (t := 3) (p := 80) rfl ?_); refine store_event (t := 3) (p := 80) (v := ?vo_w131) (w1 := (w129.setCell ⟨go120, (t195 : Int).toNat * 3 + 1, none⟩ (.int .i64 t212))) ?hg ?ho ?hn ?hr ?_; (case ho => rfl); (case hg => rfl); (case hn => rfl); (case hr => exact sE); intro w131 hw; have hg : w129.grownBy w131 (some go120) := (by rw [hw]; exact HP130.2); have hp_ : Kd.R k49 49 w131 w.heap.size (fun _ => True) (.slice (some ⟨go120, 0, none⟩) x8_2.length co125) y214 := (by rw [hw, Ny214.out]; exact HP130.1); clear HP130; replace BK194 := Aside0.mk (blk_grown (g := gb194) (o := .cells #[.int .i64 ((rd_T45 l2 x33_2).f0), .int .i64 ((rd_T45 l2 x33_2).f1), .string ((rd_T45 l2 x33_2).f2), .string ((rd_T45 l2 x33_2).f3), .int .i64 ((rd_T45 l2 x33_2).f4)] 45 (0, 0)) (bV BK194) hg (Kd.R_ne HO_8.out BK194.out (by decide))); replace HO_8 := Aside0.mk hp_; replace HB := Aside0.mk ((by rw [hw]; exact below_set (HB.out) GB120.out : Below w.heap.size w w131)); clear hg hw hp_))
                  go_roundg k2
                  case measure => have := HJ3.out; have := HK2.out; omega
                  case rel => exact ⟨(y214), (wrap64 (x33_2 + 1)), tE, H', ⟨by have := HJ3.out; have := HK2.out; omega⟩, ⟨by (with_reducible repeat (first | apply Kd.R_alloc | apply Kd.R_drewN | apply Kd.R_drew)); exact HO_8.out⟩, ⟨by repeat (first | (with_reducible first | exact HB.out | apply below_alloc | apply pw_below_drewN | apply below_drew1 | refine below_set ?_ GE194.out) | exact HB.out)⟩⟩
                 ·replace c119 := Bool.eq_false_iff.mpr c119
                  subst c119
                  have H1 : (some (([] : List (S49)), false)) = some (r1, r2) := by rw [if_neg (show ¬ (false = true) by decide)] at H; exact H
                  clear H
                  have H := H1
                  clear H1
                  simp only [Option.some.injEq, Prod.mk.injEq] at H
                  obtain ⟨rfl, rfl⟩ := H
                  have p193 : 0 ≤ (x33_2 : Int) := of_decide_eq_true hE
                  have q193 : x33_2 < (l2.length : Int) := of_decide_eq_true hE
                  obtain ⟨ad193, e193, hx193_0, hx193_1, hx193_2, hx193_3, hx193_4⟩ := at_T45 HR2.out x33_2 p193 q193
                  cases e193
                  replace hx193_0 := (HB.out.cell (World.block_lt_of_cell? w _ hx193_0)).trans hx193_0
                  replace hx193_1 := (HB.out.cell (World.block_lt_of_cell? w _ hx193_1)).trans hx193_1
                  replace hx193_2 := (HB.out.cell (World.block_lt_of_cell? w _ hx193_2)).trans hx193_2
                  replace hx193_3 := (HB.out.cell (World.block_lt_of_cell? w _ hx193_3)).trans hx193_3
                  replace hx193_4 := (HB.out.cell (World.block_lt_of_cell? w _ hx193_4)).trans hx193_4
                  replace p193 := eq_true p193
                  replace q193 := eq_true q193
                  try go_wp2_with (first | ((with_reducible refine gate_dst (N := 10) rfl ?_); refine box_event rfl (N := 10) rfl (cs := #[.int .i64 0, .int .i64 0, .string (⟨#[]⟩ : ByteArray), .string (⟨#[]⟩ : ByteArray), .int .i64 0]) (t := 45) sE ?_; intro gb194 hg w132 hbox hb; replace HO_8 := Aside0.mk (Kd.R_below (rU HO_8.out) hb); have BK194 := Aside0.mk hbox; have GW194 := gS w hg (lU); have GE194 := gS w hg (lU); replace HB := bH (lU) hb; clear hb hbox hg; have hcz133_0 := cz BK194 0 (.int .i64 0); have hcz133_1 := cz BK194 1 (.int .i64 0); have hcz133_2 := cz BK194 2 (.string (⟨#[]⟩ : ByteArray)); have hcz133_3 := cz BK194 3 (.string (⟨#[]⟩ : ByteArray)); have hcz133_4 := cz BK194 4 (.int .i64 0); have hfz133_0 := fz BK194 0; have hfz133_1 := fz BK194 1; have hfz133_2 := fz BK194 2; have hfz133_3 := fz BK194 3; have hfz133_4 := fz BK194 4) | ((with_reducible refine gate_store (t := 45) (p := 10) rfl ?_); refine store_event (t := 45) (p := 10) (v := ?vo_w134) (w1 := (((((w132.setCell ⟨gb194, 0, none⟩ (.int .i64 ((rd_T45 l2 x33_2).f0))).setCell ⟨gb194, 1, none⟩ (.int .i64 ((rd_T45 l2 x33_2).f1))).setCell ⟨gb194, 2, none⟩ (.string ((rd_T45 l2 x33_2).f2))).setCell ⟨gb194, 3, none⟩ (.string ((rd_T45 l2 x33_2).f3))).setCell ⟨gb194, 4, none⟩ (.int .i64 ((rd_T45 l2 x33_2).f4)))) ?hg ?ho ?hn ?hr ?_; (case ho => rfl); (case hg => rfl); (case hn => rfl); (case hr => first | (go_simp; done) | (go_simp; rfl) | (have hq0_ := (blk_cell BK194.out 0).trans (show _ = some _ from rfl); have hf0_ := blk_frozen BK194.out 0; have hq1_ := (blk_cell BK194.out 1).trans (show _ = some _ from rfl); have hf1_ := blk_frozen BK194.out 1; have hq2_ := (blk_cell BK194.out 2).trans (show _ = some _ from rfl); have hf2_ := blk_frozen BK194.out 2; have hq3_ := (blk_cell BK194.out 3).trans (show _ = some _ from rfl); have hf3_ := blk_frozen BK194.out 3; have hq4_ := (blk_cell BK194.out 4).trans (show _ = some _ from rfl); have hf4_ := blk_frozen BK194.out 4; first | (go_simp; done) | (go_simp; rfl))); intro w134 hw; replace HO_8 : Aside0 (Kd.R k49 49 w134 w.heap.size (fun _ => True) u8 x8_2) := ⟨(by rw [hw]; exact (by (with_reducible repeat (first | apply Kd.R_alloc | apply Kd.R_drewN | apply Kd.R_drew)); exact Kd.R_mono (Kd.R_far (p := ⟨gb194, 4, none⟩) (Kd.R_far (p := ⟨gb194, 3, none⟩) (Kd.R_far (p := ⟨gb194, 2, none⟩) (Kd.R_far (p := ⟨gb194, 1, none⟩) (Kd.R_far (p := ⟨gb194, 0, none⟩) (Kd.R_types HO_8.out BK194.out (by decide)) (fun _ hk => hk.2) (.int .i64 ((rd_T45 l2 x33_2).f0))) (fun _ hk => hk.2) (.int .i64 ((rd_T45 l2 x33_2).f1))) (fun _ hk => hk.2) (.string ((rd_T45 l2 x33_2).f2))) (fun _ hk => hk.2) (.string ((rd_T45 l2 x33_2).f3))) (fun _ hk => hk.2) (.int .i64 ((rd_T45 l2 x33_2).f4))) (fun _ hk => trivial)))⟩; replace BK194 : Aside0 (w134.heap[gb194]? = some (.cells #[.int .i64 ((rd_T45 l2 x33_2).f0), .int .i64 ((rd_T45 l2 x33_2).f1), .string ((rd_T45 l2 x33_2).f2), .string ((rd_T45 l2 x33_2).f3), .int .i64 ((rd_T45 l2 x33_2).f4)] 45 (0, 0))) := ⟨(by rw [hw]; exact (by refine bU ?_; refine blk_put (cs := #[.int .i64 ((rd_T45 l2 x33_2).f0), .int .i64 ((rd_T45 l2 x33_2).f1), .string ((rd_T45 l2 x33_2).f2), .string ((rd_T45 l2 x33_2).f3), .int .i64 0]) ?_ 4 _ rfl; refine bU ?_; refine blk_put (cs := #[.int .i64 ((rd_T45 l2 x33_2).f0), .int .i64 ((rd_T45 l2 x33_2).f1), .string ((rd_T45 l2 x33_2).f2), .string (⟨#[]⟩ : ByteArray), .int .i64 0]) ?_ 3 _ rfl; refine bU ?_; refine blk_put (cs := #[.int .i64 ((rd_T45 l2 x33_2).f0), .int .i64 ((rd_T45 l2 x33_2).f1), .string (⟨#[]⟩ : ByteArray), .string (⟨#[]⟩ : ByteArray), .int .i64 0]) ?_ 2 _ rfl; refine bU ?_; refine blk_put (cs := #[.int .i64 ((rd_T45 l2 x33_2).f0), .int .i64 0, .string (⟨#[]⟩ : ByteArray), .string (⟨#[]⟩ : ByteArray), .int .i64 0]) ?_ 1 _ rfl; refine bU ?_; refine blk_put (cs := #[.int .i64 0, .int .i64 0, .string (⟨#[]⟩ : ByteArray), .string (⟨#[]⟩ : ByteArray), .int .i64 0]) ?_ 0 _ rfl; refine bU ?_; exact BK194.out))⟩; replace HB : Aside0 (Below w.heap.size w w134) := ⟨(by rw [hw]; exact (lV1 GE194))⟩; clear hw; have hcz135_0 := cz BK194 0 (.int .i64 ((rd_T45 l2 x33_2).f0)); have hcz135_1 := cz BK194 1 (.int .i64 ((rd_T45 l2 x33_2).f1)); have hcz135_2 := cz BK194 2 (.string ((rd_T45 l2 x33_2).f2)); have hcz135_3 := cz BK194 3 (.string ((rd_T45 l2 x33_2).f3)); have hcz135_4 := cz BK194 4 (.int .i64 ((rd_T45 l2 x33_2).f4)); have hfz135_0 := fz BK194 0; have hfz135_1 := fz BK194 1; have hfz135_2 := fz BK194 2; have hfz135_3 := fz BK194 3; have hfz135_4 := fz BK194 4; obtain ⟨Ao136, co136, eo136⟩ := Kd.R_slice HO_8.out; subst eo136) | ((with_reducible refine gate_callee (f := 31) rfl ?_); refine goesL_ (some 44) rfl rfl Try.func31 (by kernel_rfl) rfl #[.slice Ao136 x8_2.length co136, .string ((rd_T45 l2 x33_2).f2)] rfl aE ?_; (with_reducible refine (spec_l22At.calls k2 _ _ x8_2 ((rd_T45 l2 x33_2).f2) t195 _ ?side1 ?side2 A26.out).mono ?_); (case side1 => exact cU (Kd.R_reads' HO_8.out).2.2); (case side2 => exact (Kd.R_reads' HO_8.out).2.1); rintro e w137 ⟨rfl, hb⟩; refine ⟨_, rfl, ?_⟩; replace HO_8 := Aside0.mk (Kd.R_below (rU HO_8.out) hb); replace BK194 := bB (bV BK194) hb; replace HB := bH (lV1 GE194) hb; (try clear hb); have hcz138_0 := cz BK194 0 (.int .i64 ((rd_T45 l2 x33_2).f0)); have hcz138_1 := cz BK194 1 (.int .i64 ((rd_T45 l2 x33_2).f1)); have hcz138_2 := cz BK194 2 (.string ((rd_T45 l2 x33_2).f2)); have hcz138_3 := cz BK194 3 (.string ((rd_T45 l2 x33_2).f3)); have hcz138_4 := cz BK194 4 (.int .i64 ((rd_T45 l2 x33_2).f4)); have hfz138_0 := fz BK194 0; have hfz138_1 := fz BK194 1; have hfz138_2 := fz BK194 2; have hfz138_3 := fz BK194 3; have hfz138_4 := fz BK194 4))
                  replace HO_8 := Aside0.mk (Kd.R_drew HO_8.out)
                  replace BK194 := Aside0.mk (blk_drew BK194.out)
                  replace HB := Aside0.mk (below_drew1 HB.out)
                  have p211 : 0 ≤ (t195 : Int) := of_decide_eq_true hE
                  have q211 : t195 < (x8_2.length : Int) := of_decide_eq_true hE
                  obtain ⟨ad211, e211, hx211_0, hx211_1, hx211_2⟩ := at_T49 (Kd.R_reads' HO_8.out).2.2 t195 p211 q211
                  cases e211
                  replace p211 := eq_true p211
                  replace q211 := eq_true q211
                  refine start_ (n := 12) (S := fun w' => w'.cell? ⟨gb194, 0, none⟩ = some (.int .i64 ((rd_T45 l2 x33_2).f0)) ∧ w'.cell? ⟨gb194, 1, none⟩ = some (.int .i64 ((rd_T45 l2 x33_2).f1)) ∧ w'.cell? ⟨gb194, 2, none⟩ = some (.string ((rd_T45 l2 x33_2).f2)) ∧ w'.cell? ⟨gb194, 3, none⟩ = some (.string ((rd_T45 l2 x33_2).f3)) ∧ w'.cell? ⟨gb194, 4, none⟩ = some (.int .i64 ((rd_T45 l2 x33_2).f4)) ∧ w'.cell? (ad211.add ((t195).toNat * 3)) = some (.string ((rd_T49 x8_2 t195).f0)) ∧ w'.cell? ⟨(ad211.add ((t195).toNat * 3)).block, (ad211.add ((t195).toNat * 3)).off + 1, none⟩ = some (.int .i64 ((rd_T49 x8_2 t195).f1)) ∧ w'.cell? ⟨(ad211.add ((t195).toNat * 3)).block, (ad211.add ((t195).toNat * 3)).off + 2, none⟩ = some (.string ((rd_T49 x8_2 t195).f2))) (ds := []) #[false, false, false, false, false, false, false, false, false, false, false, false] (by kernel_rfl) rfl rfl ⟨cz BK194 0 _, cz BK194 1 _, cz BK194 2 _, cz BK194 3 _, cz BK194 4 _, hx211_0, hx211_1, hx211_2⟩ (fun hHeld => ?_); refine with_tabW spec_MigrateSave.tab16 spec_MigrateSave.bits16 (fun HT_ HW_ => ?_)
                  generalize w137.drew = w139 at HO_8 BK194 HB hx211_0 hx211_1 hx211_2 hHeld ⊢
                  refine pureA 1 66 (bz 12 2) rfl rfl (any_of HT_.out (by kernel_rfl)) ?_
                  refine pureA 2 67 (bz 12 6) rfl rfl (any_of HT_.out (by kernel_rfl)) ?_
                  refine pureA 3 68 (bz 12 14) rfl rfl (any_of HT_.out (by kernel_rfl)) ?_
                  refine pureA 4 69 (bz 12 30) rfl rfl (any_of HT_.out (by kernel_rfl)) ?_
                  refine takeA 0 65 (bz 12 31) rfl rfl (take_ofW HT_.out HW_.out (by kernel_rfl)) hHeld (by rintro w' ⟨s0, s1, s2, s3, s4, s5, s6, s7⟩; go_simp; with_reducible rfl) ?_
                  refine takeA 5 70 (bz 12 63) rfl rfl (take_ofW HT_.out HW_.out (by kernel_rfl)) hHeld (by rintro w' ⟨s0, s1, s2, s3, s4, s5, s6, s7⟩; go_simp; with_reducible rfl) ?_
                  refine one_ (i := 6) (N := some 71) (bz 12 127) rfl rfl (one_of HT_.out (by kernel_rfl)) (by decide) (fun K hK => ?_)
                  refine goes_ Try.func34 (by kernel_rfl) rfl #[.agg #[.int .i64 ((rd_T45 l2 x33_2).f0), .int .i64 ((rd_T45 l2 x33_2).f1), .string ((rd_T45 l2 x33_2).f2), .string ((rd_T45 l2 x33_2).f3), .int .i64 ((rd_T45 l2 x33_2).f4)], .int .i64 ((rd_T49 x8_2 t195).f1)] (by rfl) rfl rfl aE ?_
                  with_reducible refine (spec_l22Turn.calls ((rd_T45 l2 x33_2).f0) ((rd_T45 l2 x33_2).f1) ((rd_T45 l2 x33_2).f2) ((rd_T45 l2 x33_2).f3) ((rd_T45 l2 x33_2).f4) ((rd_T49 x8_2 t195).f1) t212 false _ A118.out).mono ?_
                  rintro e w140 ⟨rfl, hb⟩
                  have HS5_ := hT hb hHeld.2.2.2.2.2.1
                  have HS6_ := hT hb hHeld.2.2.2.2.2.2.1
                  have HS7_ := hT hb hHeld.2.2.2.2.2.2.2
                  refine ⟨_, rfl, ?_⟩
                  replace HO_8 := Aside0.mk (Kd.R_below (rU HO_8.out) hb)
                  replace BK194 := bB (bV BK194) hb
                  replace HB := bH (lV1 GE194) hb
                  (try clear hb)
                  (try clear hb2)
                  (try clear hk)
                  (try clear hi)
                  refine hK.out _ _ ⟨cz BK194 0 _, cz BK194 1 _, cz BK194 2 _, cz BK194 3 _, cz BK194 4 _, HS5_, HS6_, HS7_⟩ (fun hHeld => ?_)
                  clear hK K
                  refine norm_ (a' := ?_) ?_ ?_
                  rotate_left
                  ·show Act.put _ (some 71) _ = _
                   simp only [Act.put, List.setIfInBounds_toArray, List.set_cons_zero, List.set_cons_succ, i64_w, i32_w]
                   rfl
                  refine pureA 7 64 (bz 12 255) rfl rfl (any_of HT_.out (by kernel_rfl)) ?_
                  refine pureA 8 72 (bz 12 511) rfl rfl (any_of HT_.out (by kernel_rfl)) ?_
                  refine pureA 9 73 (bz 12 1023) rfl rfl (any_of HT_.out (by kernel_rfl)) ?_
                  refine pureA 10 13 (bz 12 2047) rfl rfl (any_of HT_.out (by kernel_rfl)) ?_
                  refine pureA 11 14 (bz 12 4095) rfl rfl (any_of HT_.out (by kernel_rfl)) ?_
                  refine done_ (done_of HT_.out (by kernel_rfl)) ?_
                  try go_wp2
                  go_ret2
                  exact ⟨_, eE, by first | exact Kd.R_nil _ _ _ _ _ | exact Kd.N_nil _ _ _ _ _ | exact Kd.V_nil _ _ _ _ _ | exact Kd.Q_nil _ _ _ _ _ | exact Kd.S_nil _ _ _ _ _, lV1 GE194⟩
                ·rw [if_neg c117] at H
                 exact absurd H (by simp)
               ·rw [if_neg c116] at H
                exact absurd H (by simp)
         ·rw [if_neg c20] at H
          exact absurd H (by simp)
        ·rw [if_neg c19] at H
         exact absurd H (by simp)
       ·rw [if_neg c18] at H
        have c18b0 : decide (x33_2 < (l2.length : Int)) = false := decide_eq_false c18
        clear c18
        simp only [Option.some.injEq, Prod.mk.injEq] at H
        obtain ⟨rfl, rfl⟩ := H
        go_wp2
        go_ret2
        exact ⟨_, eE, by (with_reducible repeat (first | apply Kd.R_alloc | apply Kd.R_drewN | apply Kd.R_drew)); exact HO_8.out, lU⟩
    ·rw [if_neg c14] at H
     exact absurd H (by simp)
end Go.Proofs.Ytjjbkebodkjnkaa.PFnExactLoadSave
