/- Texts of the row of the law FnExactQueryWorld, laid together. -/
import Derived.Test.YtcpodjegdpbalaaZFnExactQueryWorld3
import Derived.Test.YtcpodjegdpbalaaZFnExactQueryWorld4
namespace Go.Proofs.Ytcpodjegdpbalaa.PFnExactQueryWorld
open Go.RowKit Go.Proofs.YtcpodjegdpbalaaW.PrintWords Go.Proofs.YtcpodjegdpbalaaW.PrintLast Go.Proofs.YtcpodjegdpbalaaW.PrintMore
attribute [local go_sem] max2_int min2_int max_two min_two max_three min_three max_four min_four   -- for this text's walks alone
set_option linter.unusedVariables false
set_option linter.unusedSimpArgs false
def impl_areParts.l0 : Nat → List (S80) → Int → List (S80) → Int → Int → Option (Bool)
 | 0, _, _, _, _, _ => none
 | k + 1, x0, x1, x7, x8, x9 => if x9 < x8 then (if 0 ≤ x9 then (if x9 < (x7.length : Int) then ((impl_GoodName.f k ((rd_T80 x7 x9).f0)).bind fun t203 => (if t203 = true then (if x9 > 0 then (if 0 ≤ (wrap64 (x9 - 1)) then (if (wrap64 (x9 - 1)) < (x0.length : Int) then (if ((Op.bytesLess (((rd_T80 x0 (wrap64 (x9 - 1))).f0).toList) (((rd_T80 x7 x9).f0).toList)) = true) then ((impl_inRange.f ((rd_T80 x7 x9).f2) 0 x1).bind fun t205 => (if t205 = true then (impl_areParts.l0 k x0 x1 x7 x8 (wrap64 (x9 + 1))) else (some false))) else (some false)) else (none)) else (none)) else ((impl_inRange.f ((rd_T80 x7 x9).f2) 0 x1).bind fun t206 => (if t206 = true then (impl_areParts.l0 k x0 x1 x7 x8 (wrap64 (x9 + 1))) else (some false)))) else (some false))) else (none)) else (none)) else (some (decide ((x0.length : Int) ≤ 12)))
def impl_areParts.f (k : Nat) (l0 : List (S80)) (a1 : Int) : Option (Bool) := impl_areParts.l0 k l0 a1 l0 (l0.length : Int) 0
theorem impl_areParts.mono_l : ∀ k, (∀ y0 y1 y2 y3 y4, LeO (impl_areParts.l0 k y0 y1 y2 y3 y4) (impl_areParts.l0 (k + 1) y0 y1 y2 y3 y4))
 | 0 => fun _ _ _ _ _ r h => by simp [impl_areParts.l0] at h
 | k + 1 => by
  have ih0 := impl_areParts.mono_l k
  ·intro y0 y1 y2 y3 y4
   unfold impl_areParts.l0
   repeat' first
   | (with_reducible exact ih0 _ _ _ _ _)
   | (with_reducible exact impl_GoodName.mono _ _)
   | (with_reducible exact LeO.refl _)
   | (with_reducible exact LeO.none _)
   | (with_reducible refine LeO.ite ?_ ?_)
   | (with_reducible refine LeO.bind ?_ (fun _ => ?_))
   | exact ih0 _ _ _ _ _
   | exact impl_GoodName.mono _ _
   | exact LeO.none _
   | refine LeO.ite ?_ ?_
   | refine LeO.bind ?_ (fun _ => ?_)
theorem impl_areParts.mono : ∀ a0 a1 k, LeO (impl_areParts.f k a0 a1) (impl_areParts.f (k + 1) a0 a1) := by
 intro a0 a1 k
 have ih0 := impl_areParts.mono_l k
 unfold impl_areParts.f
 repeat' first
   | (with_reducible exact ih0 _ _ _ _ _)
   | (with_reducible exact impl_GoodName.mono _ _)
   | (with_reducible exact LeO.refl _)
   | (with_reducible exact LeO.none _)
   | (with_reducible refine LeO.ite ?_ ?_)
   | (with_reducible refine LeO.bind ?_ (fun _ => ?_))
   | exact ih0 _ _ _ _ _
   | exact impl_GoodName.mono _ _
   | exact LeO.none _
   | refine LeO.ite ?_ ?_
   | refine LeO.bind ?_ (fun _ => ?_)
set_option maxHeartbeats 8000000 in
set_option maxRecDepth 100000 in
theorem impl_areParts.calls (k : Nat) (A0 : Option Addr) (c0 : Nat) (l0 : List (S80)) (a1 : Int) (r : Bool) (w : World) (hr0 : Kd.C k80 w A0 l0.length l0) (hc0 : l0.length ≤ c0) (h : impl_areParts.f k l0 a1 = some r) :
  Calls Try.prog 57 #[.slice A0 l0.length c0, .int .i64 a1] w fun e w' => e = .returned (.bool r) ∧ Below w.heap.size w w' := by
 have hu80 := Try.underlying80
 have HR0 := Aside0.mk hr0
 have HC0 := Aside0.mk hc0
 clear hr0 hc0
 have HB := Aside0.mk (Below.refl w.heap.size w)
 have H : (impl_areParts.l0 k l0 a1 l0 (l0.length : Int) 0) = some r := h
 clear h
 have H' := Aside0.mk H
 clear H
 go_enter Try.func57, Try.ntmps57
 go_wp2
 repeat (go_quiet (fail); try go_wp2)
 go_loopg [9] k (fun kq v9 w' => ∃ (x9_1 : Int), v9 = .int .i64 x9_1 ∧ Aside0 (impl_areParts.l0 kq l0 a1 l0 (l0.length : Int) x9_1 = some r) ∧ Aside0 (kq ≤ k) ∧ Aside0 (Below w.heap.size w w'))
 case atStart => exact ⟨(0), tE, H', ⟨Nat.le_refl _⟩, ⟨by repeat (first | (with_reducible first | exact HB.out | apply below_alloc | apply pw_below_drewN | apply below_drew1) | exact HB.out)⟩⟩
 case round =>
  clear H'
  try clear p2
  obtain ⟨x9_1, rfl, HA, HK1, HB⟩ := hrel
  cases gk with
  | zero => exact absurd HA.out (by simp [impl_areParts.l0])
  | succ k1 =>
   have H := HA.out
   clear HA
   simp only [impl_areParts.l0] at H
   by_cases c3 : x9_1 < (l0.length : Int)
   ·rw [if_pos c3] at H
    have c3b0 : decide (x9_1 < (l0.length : Int)) = true := decide_eq_true c3
    clear c3
    by_cases c4 : 0 ≤ x9_1
    ·rw [if_pos c4] at H
     have c4b0 : decide (0 ≤ x9_1) = true := decide_eq_true c4
     clear c4
     by_cases c5 : x9_1 < (l0.length : Int)
     ·rw [if_pos c5] at H
      have c5b0 : decide (x9_1 < (l0.length : Int)) = true := decide_eq_true c5
      clear c5
      replace H := Option.bind_eq_some_iff.mp H
      obtain ⟨t203, A60, H⟩ := H
      replace H : (if t203 = true then (if x9_1 > 0 then (if 0 ≤ (wrap64 (x9_1 - 1)) then (if (wrap64 (x9_1 - 1)) < (l0.length : Int) then (if ((Op.bytesLess (((rd_T80 l0 (wrap64 (x9_1 - 1))).f0).toList) (((rd_T80 l0 x9_1).f0).toList)) = true) then ((impl_inRange.f ((rd_T80 l0 x9_1).f2) 0 a1).bind fun t205 => (if t205 = true then (impl_areParts.l0 k1 l0 a1 l0 (l0.length : Int) (wrap64 (x9_1 + 1))) else (some false))) else (some false)) else (none)) else (none)) else ((impl_inRange.f ((rd_T80 l0 x9_1).f2) 0 a1).bind fun t206 => (if t206 = true then (impl_areParts.l0 k1 l0 a1 l0 (l0.length : Int) (wrap64 (x9_1 + 1))) else (some false)))) else (some false)) = some r := H
      have A6 := Aside0.mk A60
      clear A60
      by_cases c7 : t203 = true
      ·subst c7
       have H1 : (if x9_1 > 0 then (if 0 ≤ (wrap64 (x9_1 - 1)) then (if (wrap64 (x9_1 - 1)) < (l0.length : Int) then (if ((Op.bytesLess (((rd_T80 l0 (wrap64 (x9_1 - 1))).f0).toList) (((rd_T80 l0 x9_1).f0).toList)) = true) then ((impl_inRange.f ((rd_T80 l0 x9_1).f2) 0 a1).bind fun t205 => (if t205 = true then (impl_areParts.l0 k1 l0 a1 l0 (l0.length : Int) (wrap64 (x9_1 + 1))) else (some false))) else (some false)) else (none)) else (none)) else ((impl_inRange.f ((rd_T80 l0 x9_1).f2) 0 a1).bind fun t206 => (if t206 = true then (impl_areParts.l0 k1 l0 a1 l0 (l0.length : Int) (wrap64 (x9_1 + 1))) else (some false)))) = some r := by rw [if_pos rfl] at H; exact H
       clear H
       have H := H1
       clear H1
       by_cases c8 : x9_1 > 0
       ·rw [if_pos c8] at H
        have c8b0 : decide (0 < x9_1) = true := decide_eq_true c8
        clear c8
        obtain ⟨ji9, hji9⟩ : ∃ j_ : Int, (wrap64 (x9_1 - 1)) = j_ := ⟨_, rfl⟩
        replace H : (if 0 ≤ (ji9) then (if (ji9) < (l0.length : Int) then (if ((Op.bytesLess (((rd_T80 l0 (ji9)).f0).toList) (((rd_T80 l0 x9_1).f0).toList)) = true) then ((impl_inRange.f ((rd_T80 l0 x9_1).f2) 0 a1).bind fun t205 => (if t205 = true then (impl_areParts.l0 k1 l0 a1 l0 (l0.length : Int) (wrap64 (x9_1 + 1))) else (some false))) else (some false)) else (none)) else (none)) = some r := by first | (rw [hji9] at H; exact H) | (simp only [hji9] at H ⊢; exact H)
        (try rw [hji9] at A6)
        have hji9w : (IntKind.i64.wrap (x9_1 - 1)) = ji9 := (i64_w _).trans hji9
        by_cases c10 : 0 ≤ (ji9)
        ·rw [if_pos c10] at H
         have c10b0 : decide (0 ≤ (ji9)) = true := decide_eq_true c10
         clear c10
         by_cases c11 : (ji9) < (l0.length : Int)
         ·rw [if_pos c11] at H
          have c11b0 : decide ((ji9) < (l0.length : Int)) = true := decide_eq_true c11
          clear c11
          by_cases c12 : ((Op.bytesLess (((rd_T80 l0 (ji9)).f0).toList) (((rd_T80 l0 x9_1).f0).toList)) = true)
          ·rw [if_pos c12] at H
           have c12b0 : (Op.bytesLess (((rd_T80 l0 (ji9)).f0).toList) (((rd_T80 l0 x9_1).f0).toList)) = true := c12
           clear c12
           replace H := Option.bind_eq_some_iff.mp H
           obtain ⟨t205, A130, H⟩ := H
           replace H : (if t205 = true then (impl_areParts.l0 k1 l0 a1 l0 (l0.length : Int) (wrap64 (x9_1 + 1))) else (some false)) = some r := H
           have A13 := Aside0.mk A130
           clear A130
           by_cases c14 : t205 = true
           ·subst c14
            have H1 : (impl_areParts.l0 k1 l0 a1 l0 (l0.length : Int) (wrap64 (x9_1 + 1))) = some r := by rw [if_pos rfl] at H; exact H
            clear H
            have H := H1
            clear H1
            have H' := Aside0.mk H
            clear H
            have p201 : 0 ≤ (x9_1 : Int) := of_decide_eq_true hE
            have q201 : x9_1 < (l0.length : Int) := of_decide_eq_true hE
            obtain ⟨ad201, e201, hx201_0, hx201_1, hx201_2⟩ := at_T80 HR0.out x9_1 p201 q201
            cases e201
            replace hx201_0 := (HB.out.cell (World.block_lt_of_cell? w _ hx201_0)).trans hx201_0
            replace hx201_1 := (HB.out.cell (World.block_lt_of_cell? w _ hx201_1)).trans hx201_1
            replace hx201_2 := (HB.out.cell (World.block_lt_of_cell? w _ hx201_2)).trans hx201_2
            replace p201 := eq_true p201
            replace q201 := eq_true q201
            go_wp2_with (first | ((with_reducible refine gate_dst (N := 6) rfl ?_); refine box_event rfl (N := 6) rfl (cs := #[.string (⟨#[]⟩ : ByteArray), .int .i64 0, .int .i64 0]) (t := 80) sE ?_; intro gb202 hg w15 hbox hb; have BK202 := Aside0.mk hbox; have GW202 := gS w hg (lU); have GE202 := gS w hg (lU); replace HB := bH (lU) hb; clear hb hbox hg; have hcz16_0 := cz BK202 0 (.string (⟨#[]⟩ : ByteArray)); have hcz16_1 := cz BK202 1 (.int .i64 0); have hcz16_2 := cz BK202 2 (.int .i64 0); have hfz16_0 := fz BK202 0; have hfz16_1 := fz BK202 1; have hfz16_2 := fz BK202 2) | ((with_reducible refine gate_store (t := 80) (p := 6) rfl ?_); (try (rw [drewN_self w15]; generalize hq_ : World.drewN w15 _ = w15; replace BK202 := Aside0.mk (blk_at hq_ BK202.out); replace HB := Aside0.mk (below_at hq_ HB.out); clear hq_)); refine store_event (t := 80) (p := 6) (v := ?vo_w17) (w1 := (((w15.setCell ⟨gb202, 0, none⟩ (.string ((rd_T80 l0 x9_1).f0))).setCell ⟨gb202, 1, none⟩ (.int .i64 ((rd_T80 l0 x9_1).f1))).setCell ⟨gb202, 2, none⟩ (.int .i64 ((rd_T80 l0 x9_1).f2)))) ?hg ?ho ?hn ?hr ?_; (case ho => rfl); (case hg => rfl); (case hn => rfl); (case hr => first | (go_simp; done) | (go_simp; rfl) | (have hq0_ := (blk_cell BK202.out 0).trans (show _ = some _ from rfl); have hf0_ := blk_frozen BK202.out 0; have hq1_ := (blk_cell BK202.out 1).trans (show _ = some _ from rfl); have hf1_ := blk_frozen BK202.out 1; have hq2_ := (blk_cell BK202.out 2).trans (show _ = some _ from rfl); have hf2_ := blk_frozen BK202.out 2; first | (go_simp; done) | (go_simp; rfl))); intro w17 hw; replace BK202 : Aside0 (w17.heap[gb202]? = some (.cells #[.string ((rd_T80 l0 x9_1).f0), .int .i64 ((rd_T80 l0 x9_1).f1), .int .i64 ((rd_T80 l0 x9_1).f2)] 80 (0, 0))) := ⟨(by rw [hw]; exact (by refine bU ?_; refine blk_put (cs := #[.string ((rd_T80 l0 x9_1).f0), .int .i64 ((rd_T80 l0 x9_1).f1), .int .i64 0]) ?_ 2 _ rfl; refine bU ?_; refine blk_put (cs := #[.string ((rd_T80 l0 x9_1).f0), .int .i64 0, .int .i64 0]) ?_ 1 _ rfl; refine bU ?_; refine blk_put (cs := #[.string (⟨#[]⟩ : ByteArray), .int .i64 0, .int .i64 0]) ?_ 0 _ rfl; refine bU ?_; exact BK202.out))⟩; replace HB : Aside0 (Below w.heap.size w w17) := ⟨(by rw [hw]; exact (lV1 GE202))⟩; clear hw; have hcz18_0 := cz BK202 0 (.string ((rd_T80 l0 x9_1).f0)); have hcz18_1 := cz BK202 1 (.int .i64 ((rd_T80 l0 x9_1).f1)); have hcz18_2 := cz BK202 2 (.int .i64 ((rd_T80 l0 x9_1).f2)); have hfz18_0 := fz BK202 0; have hfz18_1 := fz BK202 1; have hfz18_2 := fz BK202 2) | (go_at_call 67; (with_reducible refine (impl_GoodName.calls k1 ((rd_T80 l0 x9_1).f0) true _ A6.out).mono ?_); rintro e w' ⟨rfl, ⟨nd, rfl⟩⟩; (try first | exact ⟨rfl, _, World.drewN_drewN _ _ _⟩ | exact ⟨rfl, _, Eq.trans (World.drewN_drewN _ _ _) (congrArg (World.drewN _) (Nat.add_assoc _ _ _))⟩); have p204 : 0 ≤ ((ji9) : Int) := of_decide_eq_true hE; have q204 : (ji9) < (l0.length : Int) := of_decide_eq_true hE; obtain ⟨ad204, e204, hx204_0, hx204_1, hx204_2⟩ := at_T80 HR0.out (ji9) p204 q204; obtain rfl : ad201 = ad204 := (by injection e204); replace hx204_0 := (HB.out.cell (World.block_lt_of_cell? w _ hx204_0)).trans hx204_0; replace hx204_1 := (HB.out.cell (World.block_lt_of_cell? w _ hx204_1)).trans hx204_1; replace hx204_2 := (HB.out.cell (World.block_lt_of_cell? w _ hx204_2)).trans hx204_2; replace p204 := eq_true p204; replace q204 := eq_true q204) | (go_at_call 36; (with_reducible refine (impl_inRange.calls ((rd_T80 l0 x9_1).f2) 0 a1 true _ A13.out).mono ?_); rintro e w' ⟨rfl, ⟨nd, rfl⟩⟩; (try first | exact ⟨rfl, _, World.drewN_drewN _ _ _⟩ | exact ⟨rfl, _, Eq.trans (World.drewN_drewN _ _ _) (congrArg (World.drewN _) (Nat.add_assoc _ _ _))⟩)))
            repeat (go_quiet (first | ((with_reducible refine gate_dst (N := 6) rfl ?_); refine box_event rfl (N := 6) rfl (cs := #[.string (⟨#[]⟩ : ByteArray), .int .i64 0, .int .i64 0]) (t := 80) sE ?_; intro gb202 hg w15 hbox hb; have BK202 := Aside0.mk hbox; have GW202 := gS w hg (lU); have GE202 := gS w hg (lU); replace HB := bH (lU) hb; clear hb hbox hg; have hcz16_0 := cz BK202 0 (.string (⟨#[]⟩ : ByteArray)); have hcz16_1 := cz BK202 1 (.int .i64 0); have hcz16_2 := cz BK202 2 (.int .i64 0); have hfz16_0 := fz BK202 0; have hfz16_1 := fz BK202 1; have hfz16_2 := fz BK202 2) | ((with_reducible refine gate_store (t := 80) (p := 6) rfl ?_); (try (rw [drewN_self w15]; generalize hq_ : World.drewN w15 _ = w15; replace BK202 := Aside0.mk (blk_at hq_ BK202.out); replace HB := Aside0.mk (below_at hq_ HB.out); clear hq_)); refine store_event (t := 80) (p := 6) (v := ?vo_w17) (w1 := (((w15.setCell ⟨gb202, 0, none⟩ (.string ((rd_T80 l0 x9_1).f0))).setCell ⟨gb202, 1, none⟩ (.int .i64 ((rd_T80 l0 x9_1).f1))).setCell ⟨gb202, 2, none⟩ (.int .i64 ((rd_T80 l0 x9_1).f2)))) ?hg ?ho ?hn ?hr ?_; (case ho => rfl); (case hg => rfl); (case hn => rfl); (case hr => first | (go_simp; done) | (go_simp; rfl) | (have hq0_ := (blk_cell BK202.out 0).trans (show _ = some _ from rfl); have hf0_ := blk_frozen BK202.out 0; have hq1_ := (blk_cell BK202.out 1).trans (show _ = some _ from rfl); have hf1_ := blk_frozen BK202.out 1; have hq2_ := (blk_cell BK202.out 2).trans (show _ = some _ from rfl); have hf2_ := blk_frozen BK202.out 2; first | (go_simp; done) | (go_simp; rfl))); intro w17 hw; replace BK202 : Aside0 (w17.heap[gb202]? = some (.cells #[.string ((rd_T80 l0 x9_1).f0), .int .i64 ((rd_T80 l0 x9_1).f1), .int .i64 ((rd_T80 l0 x9_1).f2)] 80 (0, 0))) := ⟨(by rw [hw]; exact (by refine bU ?_; refine blk_put (cs := #[.string ((rd_T80 l0 x9_1).f0), .int .i64 ((rd_T80 l0 x9_1).f1), .int .i64 0]) ?_ 2 _ rfl; refine bU ?_; refine blk_put (cs := #[.string ((rd_T80 l0 x9_1).f0), .int .i64 0, .int .i64 0]) ?_ 1 _ rfl; refine bU ?_; refine blk_put (cs := #[.string (⟨#[]⟩ : ByteArray), .int .i64 0, .int .i64 0]) ?_ 0 _ rfl; refine bU ?_; exact BK202.out))⟩; replace HB : Aside0 (Below w.heap.size w w17) := ⟨(by rw [hw]; exact (lV1 GE202))⟩; clear hw; have hcz18_0 := cz BK202 0 (.string ((rd_T80 l0 x9_1).f0)); have hcz18_1 := cz BK202 1 (.int .i64 ((rd_T80 l0 x9_1).f1)); have hcz18_2 := cz BK202 2 (.int .i64 ((rd_T80 l0 x9_1).f2)); have hfz18_0 := fz BK202 0; have hfz18_1 := fz BK202 1; have hfz18_2 := fz BK202 2) | (go_at_call 67; (with_reducible refine (impl_GoodName.calls k1 ((rd_T80 l0 x9_1).f0) true _ A6.out).mono ?_); rintro e w' ⟨rfl, ⟨nd, rfl⟩⟩; (try first | exact ⟨rfl, _, World.drewN_drewN _ _ _⟩ | exact ⟨rfl, _, Eq.trans (World.drewN_drewN _ _ _) (congrArg (World.drewN _) (Nat.add_assoc _ _ _))⟩); have p204 : 0 ≤ ((ji9) : Int) := of_decide_eq_true hE; have q204 : (ji9) < (l0.length : Int) := of_decide_eq_true hE; obtain ⟨ad204, e204, hx204_0, hx204_1, hx204_2⟩ := at_T80 HR0.out (ji9) p204 q204; obtain rfl : ad201 = ad204 := (by injection e204); replace hx204_0 := (HB.out.cell (World.block_lt_of_cell? w _ hx204_0)).trans hx204_0; replace hx204_1 := (HB.out.cell (World.block_lt_of_cell? w _ hx204_1)).trans hx204_1; replace hx204_2 := (HB.out.cell (World.block_lt_of_cell? w _ hx204_2)).trans hx204_2; replace p204 := eq_true p204; replace q204 := eq_true q204) | (go_at_call 36; (with_reducible refine (impl_inRange.calls ((rd_T80 l0 x9_1).f2) 0 a1 true _ A13.out).mono ?_); rintro e w' ⟨rfl, ⟨nd, rfl⟩⟩; (try first | exact ⟨rfl, _, World.drewN_drewN _ _ _⟩ | exact ⟨rfl, _, Eq.trans (World.drewN_drewN _ _ _) (congrArg (World.drewN _) (Nat.add_assoc _ _ _))⟩))); try go_wp2_with (first | ((with_reducible refine gate_dst (N := 6) rfl ?_); refine box_event rfl (N := 6) rfl (cs := #[.string (⟨#[]⟩ : ByteArray), .int .i64 0, .int .i64 0]) (t := 80) sE ?_; intro gb202 hg w15 hbox hb; have BK202 := Aside0.mk hbox; have GW202 := gS w hg (lU); have GE202 := gS w hg (lU); replace HB := bH (lU) hb; clear hb hbox hg; have hcz16_0 := cz BK202 0 (.string (⟨#[]⟩ : ByteArray)); have hcz16_1 := cz BK202 1 (.int .i64 0); have hcz16_2 := cz BK202 2 (.int .i64 0); have hfz16_0 := fz BK202 0; have hfz16_1 := fz BK202 1; have hfz16_2 := fz BK202 2) | ((with_reducible refine gate_store (t := 80) (p := 6) rfl ?_); (try (rw [drewN_self w15]; generalize hq_ : World.drewN w15 _ = w15; replace BK202 := Aside0.mk (blk_at hq_ BK202.out); replace HB := Aside0.mk (below_at hq_ HB.out); clear hq_)); refine store_event (t := 80) (p := 6) (v := ?vo_w17) (w1 := (((w15.setCell ⟨gb202, 0, none⟩ (.string ((rd_T80 l0 x9_1).f0))).setCell ⟨gb202, 1, none⟩ (.int .i64 ((rd_T80 l0 x9_1).f1))).setCell ⟨gb202, 2, none⟩ (.int .i64 ((rd_T80 l0 x9_1).f2)))) ?hg ?ho ?hn ?hr ?_; (case ho => rfl); (case hg => rfl); (case hn => rfl); (case hr => first | (go_simp; done) | (go_simp; rfl) | (have hq0_ := (blk_cell BK202.out 0).trans (show _ = some _ from rfl); have hf0_ := blk_frozen BK202.out 0; have hq1_ := (blk_cell BK202.out 1).trans (show _ = some _ from rfl); have hf1_ := blk_frozen BK202.out 1; have hq2_ := (blk_cell BK202.out 2).trans (show _ = some _ from rfl); have hf2_ := blk_frozen BK202.out 2; first | (go_simp; done) | (go_simp; rfl))); intro w17 hw; replace BK202 : Aside0 (w17.heap[gb202]? = some (.cells #[.string ((rd_T80 l0 x9_1).f0), .int .i64 ((rd_T80 l0 x9_1).f1), .int .i64 ((rd_T80 l0 x9_1).f2)] 80 (0, 0))) := ⟨(by rw [hw]; exact (by refine bU ?_; refine blk_put (cs := #[.string ((rd_T80 l0 x9_1).f0), .int .i64 ((rd_T80 l0 x9_1).f1), .int .i64 0]) ?_ 2 _ rfl; refine bU ?_; refine blk_put (cs := #[.string ((rd_T80 l0 x9_1).f0), .int .i64 0, .int .i64 0]) ?_ 1 _ rfl; refine bU ?_; refine blk_put (cs := #[.string (⟨#[]⟩ : ByteArray), .int .i64 0, .int .i64 0]) ?_ 0 _ rfl; refine bU ?_; exact BK202.out))⟩; replace HB : Aside0 (Below w.heap.size w w17) := ⟨(by rw [hw]; exact (lV1 GE202))⟩; clear hw; have hcz18_0 := cz BK202 0 (.string ((rd_T80 l0 x9_1).f0)); have hcz18_1 := cz BK202 1 (.int .i64 ((rd_T80 l0 x9_1).f1)); have hcz18_2 := cz BK202 2 (.int .i64 ((rd_T80 l0 x9_1).f2)); have hfz18_0 := fz BK202 0; have hfz18_1 := fz BK202 1; have hfz18_2 := fz BK202 2) | (go_at_call 67; (with_reducible refine (impl_GoodName.calls k1 ((rd_T80 l0 x9_1).f0) true _ A6.out).mono ?_); rintro e w' ⟨rfl, ⟨nd, rfl⟩⟩; (try first | exact ⟨rfl, _, World.drewN_drewN _ _ _⟩ | exact ⟨rfl, _, Eq.trans (World.drewN_drewN _ _ _) (congrArg (World.drewN _) (Nat.add_assoc _ _ _))⟩); have p204 : 0 ≤ ((ji9) : Int) := of_decide_eq_true hE; have q204 : (ji9) < (l0.length : Int) := of_decide_eq_true hE; obtain ⟨ad204, e204, hx204_0, hx204_1, hx204_2⟩ := at_T80 HR0.out (ji9) p204 q204; obtain rfl : ad201 = ad204 := (by injection e204); replace hx204_0 := (HB.out.cell (World.block_lt_of_cell? w _ hx204_0)).trans hx204_0; replace hx204_1 := (HB.out.cell (World.block_lt_of_cell? w _ hx204_1)).trans hx204_1; replace hx204_2 := (HB.out.cell (World.block_lt_of_cell? w _ hx204_2)).trans hx204_2; replace p204 := eq_true p204; replace q204 := eq_true q204) | (go_at_call 36; (with_reducible refine (impl_inRange.calls ((rd_T80 l0 x9_1).f2) 0 a1 true _ A13.out).mono ?_); rintro e w' ⟨rfl, ⟨nd, rfl⟩⟩; (try first | exact ⟨rfl, _, World.drewN_drewN _ _ _⟩ | exact ⟨rfl, _, Eq.trans (World.drewN_drewN _ _ _) (congrArg (World.drewN _) (Nat.add_assoc _ _ _))⟩))))
            go_roundg k1
            case measure => have := HK1.out; omega
            case rel => exact ⟨(wrap64 (x9_1 + 1)), tE, H', ⟨by have := HK1.out; omega⟩, ⟨by repeat (first | (with_reducible first | exact HB.out | apply below_alloc | apply pw_below_drewN | apply below_drew1 | refine below_set ?_ GE202.out) | exact HB.out)⟩⟩
           ·replace c14 := Bool.eq_false_iff.mpr c14
            subst c14
            have H1 : (some false) = some r := by rw [if_neg (show ¬ (false = true) by decide)] at H; exact H
            clear H
            have H := H1
            clear H1
            obtain rfl := Option.some.inj H
            have p201 : 0 ≤ (x9_1 : Int) := of_decide_eq_true hE
            have q201 : x9_1 < (l0.length : Int) := of_decide_eq_true hE
            obtain ⟨ad201, e201, hx201_0, hx201_1, hx201_2⟩ := at_T80 HR0.out x9_1 p201 q201
            cases e201
            replace hx201_0 := (HB.out.cell (World.block_lt_of_cell? w _ hx201_0)).trans hx201_0
            replace hx201_1 := (HB.out.cell (World.block_lt_of_cell? w _ hx201_1)).trans hx201_1
            replace hx201_2 := (HB.out.cell (World.block_lt_of_cell? w _ hx201_2)).trans hx201_2
            replace p201 := eq_true p201
            replace q201 := eq_true q201
            go_wp2_with (first | ((with_reducible refine gate_dst (N := 6) rfl ?_); refine box_event rfl (N := 6) rfl (cs := #[.string (⟨#[]⟩ : ByteArray), .int .i64 0, .int .i64 0]) (t := 80) sE ?_; intro gb202 hg w19 hbox hb; have BK202 := Aside0.mk hbox; have GW202 := gS w hg (lU); have GE202 := gS w hg (lU); replace HB := bH (lU) hb; clear hb hbox hg; have hcz20_0 := cz BK202 0 (.string (⟨#[]⟩ : ByteArray)); have hcz20_1 := cz BK202 1 (.int .i64 0); have hcz20_2 := cz BK202 2 (.int .i64 0); have hfz20_0 := fz BK202 0; have hfz20_1 := fz BK202 1; have hfz20_2 := fz BK202 2) | ((with_reducible refine gate_store (t := 80) (p := 6) rfl ?_); (try (rw [drewN_self w19]; generalize hq_ : World.drewN w19 _ = w19; replace BK202 := Aside0.mk (blk_at hq_ BK202.out); replace HB := Aside0.mk (below_at hq_ HB.out); clear hq_)); refine store_event (t := 80) (p := 6) (v := ?vo_w21) (w1 := (((w19.setCell ⟨gb202, 0, none⟩ (.string ((rd_T80 l0 x9_1).f0))).setCell ⟨gb202, 1, none⟩ (.int .i64 ((rd_T80 l0 x9_1).f1))).setCell ⟨gb202, 2, none⟩ (.int .i64 ((rd_T80 l0 x9_1).f2)))) ?hg ?ho ?hn ?hr ?_; (case ho => rfl); (case hg => rfl); (case hn => rfl); (case hr => first | (go_simp; done) | (go_simp; rfl) | (have hq0_ := (blk_cell BK202.out 0).trans (show _ = some _ from rfl); have hf0_ := blk_frozen BK202.out 0; have hq1_ := (blk_cell BK202.out 1).trans (show _ = some _ from rfl); have hf1_ := blk_frozen BK202.out 1; have hq2_ := (blk_cell BK202.out 2).trans (show _ = some _ from rfl); have hf2_ := blk_frozen BK202.out 2; first | (go_simp; done) | (go_simp; rfl))); intro w21 hw; replace BK202 : Aside0 (w21.heap[gb202]? = some (.cells #[.string ((rd_T80 l0 x9_1).f0), .int .i64 ((rd_T80 l0 x9_1).f1), .int .i64 ((rd_T80 l0 x9_1).f2)] 80 (0, 0))) := ⟨(by rw [hw]; exact (by refine bU ?_; refine blk_put (cs := #[.string ((rd_T80 l0 x9_1).f0), .int .i64 ((rd_T80 l0 x9_1).f1), .int .i64 0]) ?_ 2 _ rfl; refine bU ?_; refine blk_put (cs := #[.string ((rd_T80 l0 x9_1).f0), .int .i64 0, .int .i64 0]) ?_ 1 _ rfl; refine bU ?_; refine blk_put (cs := #[.string (⟨#[]⟩ : ByteArray), .int .i64 0, .int .i64 0]) ?_ 0 _ rfl; refine bU ?_; exact BK202.out))⟩; replace HB : Aside0 (Below w.heap.size w w21) := ⟨(by rw [hw]; exact (lV1 GE202))⟩; clear hw; have hcz22_0 := cz BK202 0 (.string ((rd_T80 l0 x9_1).f0)); have hcz22_1 := cz BK202 1 (.int .i64 ((rd_T80 l0 x9_1).f1)); have hcz22_2 := cz BK202 2 (.int .i64 ((rd_T80 l0 x9_1).f2)); have hfz22_0 := fz BK202 0; have hfz22_1 := fz BK202 1; have hfz22_2 := fz BK202 2) | (go_at_call 67; (with_reducible refine (impl_GoodName.calls k1 ((rd_T80 l0 x9_1).f0) true _ A6.out).mono ?_); rintro e w' ⟨rfl, ⟨nd, rfl⟩⟩; (try first | exact ⟨rfl, _, World.drewN_drewN _ _ _⟩ | exact ⟨rfl, _, Eq.trans (World.drewN_drewN _ _ _) (congrArg (World.drewN _) (Nat.add_assoc _ _ _))⟩); have p204 : 0 ≤ ((ji9) : Int) := of_decide_eq_true hE; have q204 : (ji9) < (l0.length : Int) := of_decide_eq_true hE; obtain ⟨ad204, e204, hx204_0, hx204_1, hx204_2⟩ := at_T80 HR0.out (ji9) p204 q204; obtain rfl : ad201 = ad204 := (by injection e204); replace hx204_0 := (HB.out.cell (World.block_lt_of_cell? w _ hx204_0)).trans hx204_0; replace hx204_1 := (HB.out.cell (World.block_lt_of_cell? w _ hx204_1)).trans hx204_1; replace hx204_2 := (HB.out.cell (World.block_lt_of_cell? w _ hx204_2)).trans hx204_2; replace p204 := eq_true p204; replace q204 := eq_true q204) | (go_at_call 36; (with_reducible refine (impl_inRange.calls ((rd_T80 l0 x9_1).f2) 0 a1 false _ A13.out).mono ?_); rintro e w' ⟨rfl, ⟨nd, rfl⟩⟩; (try first | exact ⟨rfl, _, World.drewN_drewN _ _ _⟩ | exact ⟨rfl, _, Eq.trans (World.drewN_drewN _ _ _) (congrArg (World.drewN _) (Nat.add_assoc _ _ _))⟩)))
            repeat (go_quiet (first | ((with_reducible refine gate_dst (N := 6) rfl ?_); refine box_event rfl (N := 6) rfl (cs := #[.string (⟨#[]⟩ : ByteArray), .int .i64 0, .int .i64 0]) (t := 80) sE ?_; intro gb202 hg w19 hbox hb; have BK202 := Aside0.mk hbox; have GW202 := gS w hg (lU); have GE202 := gS w hg (lU); replace HB := bH (lU) hb; clear hb hbox hg; have hcz20_0 := cz BK202 0 (.string (⟨#[]⟩ : ByteArray)); have hcz20_1 := cz BK202 1 (.int .i64 0); have hcz20_2 := cz BK202 2 (.int .i64 0); have hfz20_0 := fz BK202 0; have hfz20_1 := fz BK202 1; have hfz20_2 := fz BK202 2) | ((with_reducible refine gate_store (t := 80) (p := 6) rfl ?_); (try (rw [drewN_self w19]; generalize hq_ : World.drewN w19 _ = w19; replace BK202 := Aside0.mk (blk_at hq_ BK202.out); replace HB := Aside0.mk (below_at hq_ HB.out); clear hq_)); refine store_event (t := 80) (p := 6) (v := ?vo_w21) (w1 := (((w19.setCell ⟨gb202, 0, none⟩ (.string ((rd_T80 l0 x9_1).f0))).setCell ⟨gb202, 1, none⟩ (.int .i64 ((rd_T80 l0 x9_1).f1))).setCell ⟨gb202, 2, none⟩ (.int .i64 ((rd_T80 l0 x9_1).f2)))) ?hg ?ho ?hn ?hr ?_; (case ho => rfl); (case hg => rfl); (case hn => rfl); (case hr => first | (go_simp; done) | (go_simp; rfl) | (have hq0_ := (blk_cell BK202.out 0).trans (show _ = some _ from rfl); have hf0_ := blk_frozen BK202.out 0; have hq1_ := (blk_cell BK202.out 1).trans (show _ = some _ from rfl); have hf1_ := blk_frozen BK202.out 1; have hq2_ := (blk_cell BK202.out 2).trans (show _ = some _ from rfl); have hf2_ := blk_frozen BK202.out 2; first | (go_simp; done) | (go_simp; rfl))); intro w21 hw; replace BK202 : Aside0 (w21.heap[gb202]? = some (.cells #[.string ((rd_T80 l0 x9_1).f0), .int .i64 ((rd_T80 l0 x9_1).f1), .int .i64 ((rd_T80 l0 x9_1).f2)] 80 (0, 0))) := ⟨(by rw [hw]; exact (by refine bU ?_; refine blk_put (cs := #[.string ((rd_T80 l0 x9_1).f0), .int .i64 ((rd_T80 l0 x9_1).f1), .int .i64 0]) ?_ 2 _ rfl; refine bU ?_; refine blk_put (cs := #[.string ((rd_T80 l0 x9_1).f0), .int .i64 0, .int .i64 0]) ?_ 1 _ rfl; refine bU ?_; refine blk_put (cs := #[.string (⟨#[]⟩ : ByteArray), .int .i64 0, .int .i64 0]) ?_ 0 _ rfl; refine bU ?_; exact BK202.out))⟩; replace HB : Aside0 (Below w.heap.size w w21) := ⟨(by rw [hw]; exact (lV1 GE202))⟩; clear hw; have hcz22_0 := cz BK202 0 (.string ((rd_T80 l0 x9_1).f0)); have hcz22_1 := cz BK202 1 (.int .i64 ((rd_T80 l0 x9_1).f1)); have hcz22_2 := cz BK202 2 (.int .i64 ((rd_T80 l0 x9_1).f2)); have hfz22_0 := fz BK202 0; have hfz22_1 := fz BK202 1; have hfz22_2 := fz BK202 2) | (go_at_call 67; (with_reducible refine (impl_GoodName.calls k1 ((rd_T80 l0 x9_1).f0) true _ A6.out).mono ?_); rintro e w' ⟨rfl, ⟨nd, rfl⟩⟩; (try first | exact ⟨rfl, _, World.drewN_drewN _ _ _⟩ | exact ⟨rfl, _, Eq.trans (World.drewN_drewN _ _ _) (congrArg (World.drewN _) (Nat.add_assoc _ _ _))⟩); have p204 : 0 ≤ ((ji9) : Int) := of_decide_eq_true hE; have q204 : (ji9) < (l0.length : Int) := of_decide_eq_true hE; obtain ⟨ad204, e204, hx204_0, hx204_1, hx204_2⟩ := at_T80 HR0.out (ji9) p204 q204; obtain rfl : ad201 = ad204 := (by injection e204); replace hx204_0 := (HB.out.cell (World.block_lt_of_cell? w _ hx204_0)).trans hx204_0; replace hx204_1 := (HB.out.cell (World.block_lt_of_cell? w _ hx204_1)).trans hx204_1; replace hx204_2 := (HB.out.cell (World.block_lt_of_cell? w _ hx204_2)).trans hx204_2; replace p204 := eq_true p204; replace q204 := eq_true q204) | (go_at_call 36; (with_reducible refine (impl_inRange.calls ((rd_T80 l0 x9_1).f2) 0 a1 false _ A13.out).mono ?_); rintro e w' ⟨rfl, ⟨nd, rfl⟩⟩; (try first | exact ⟨rfl, _, World.drewN_drewN _ _ _⟩ | exact ⟨rfl, _, Eq.trans (World.drewN_drewN _ _ _) (congrArg (World.drewN _) (Nat.add_assoc _ _ _))⟩))); try go_wp2_with (first | ((with_reducible refine gate_dst (N := 6) rfl ?_); refine box_event rfl (N := 6) rfl (cs := #[.string (⟨#[]⟩ : ByteArray), .int .i64 0, .int .i64 0]) (t := 80) sE ?_; intro gb202 hg w19 hbox hb; have BK202 := Aside0.mk hbox; have GW202 := gS w hg (lU); have GE202 := gS w hg (lU); replace HB := bH (lU) hb; clear hb hbox hg; have hcz20_0 := cz BK202 0 (.string (⟨#[]⟩ : ByteArray)); have hcz20_1 := cz BK202 1 (.int .i64 0); have hcz20_2 := cz BK202 2 (.int .i64 0); have hfz20_0 := fz BK202 0; have hfz20_1 := fz BK202 1; have hfz20_2 := fz BK202 2) | ((with_reducible refine gate_store (t := 80) (p := 6) rfl ?_); (try (rw [drewN_self w19]; generalize hq_ : World.drewN w19 _ = w19; replace BK202 := Aside0.mk (blk_at hq_ BK202.out); replace HB := Aside0.mk (below_at hq_ HB.out); clear hq_)); refine store_event (t := 80) (p := 6) (v := ?vo_w21) (w1 := (((w19.setCell ⟨gb202, 0, none⟩ (.string ((rd_T80 l0 x9_1).f0))).setCell ⟨gb202, 1, none⟩ (.int .i64 ((rd_T80 l0 x9_1).f1))).setCell ⟨gb202, 2, none⟩ (.int .i64 ((rd_T80 l0 x9_1).f2)))) ?hg ?ho ?hn ?hr ?_; (case ho => rfl); (case hg => rfl); (case hn => rfl); (case hr => first | (go_simp; done) | (go_simp; rfl) | (have hq0_ := (blk_cell BK202.out 0).trans (show _ = some _ from rfl); have hf0_ := blk_frozen BK202.out 0; have hq1_ := (blk_cell BK202.out 1).trans (show _ = some _ from rfl); have hf1_ := blk_frozen BK202.out 1; have hq2_ := (blk_cell BK202.out 2).trans (show _ = some _ from rfl); have hf2_ := blk_frozen BK202.out 2; first | (go_simp; done) | (go_simp; rfl))); intro w21 hw; replace BK202 : Aside0 (w21.heap[gb202]? = some (.cells #[.string ((rd_T80 l0 x9_1).f0), .int .i64 ((rd_T80 l0 x9_1).f1), .int .i64 ((rd_T80 l0 x9_1).f2)] 80 (0, 0))) := ⟨(by rw [hw]; exact (by refine bU ?_; refine blk_put (cs := #[.string ((rd_T80 l0 x9_1).f0), .int .i64 ((rd_T80 l0 x9_1).f1), .int .i64 0]) ?_ 2 _ rfl; refine bU ?_; refine blk_put (cs := #[.string ((rd_T80 l0 x9_1).f0), .int .i64 0, .int .i64 0]) ?_ 1 _ rfl; refine bU ?_; refine blk_put (cs := #[.string (⟨#[]⟩ : ByteArray), .int .i64 0, .int .i64 0]) ?_ 0 _ rfl; refine bU ?_; exact BK202.out))⟩; replace HB : Aside0 (Below w.heap.size w w21) := ⟨(by rw [hw]; exact (lV1 GE202))⟩; clear hw; have hcz22_0 := cz BK202 0 (.string ((rd_T80 l0 x9_1).f0)); have hcz22_1 := cz BK202 1 (.int .i64 ((rd_T80 l0 x9_1).f1)); have hcz22_2 := cz BK202 2 (.int .i64 ((rd_T80 l0 x9_1).f2)); have hfz22_0 := fz BK202 0; have hfz22_1 := fz BK202 1; have hfz22_2 := fz BK202 2) | (go_at_call 67; (with_reducible refine (impl_GoodName.calls k1 ((rd_T80 l0 x9_1).f0) true _ A6.out).mono ?_); rintro e w' ⟨rfl, ⟨nd, rfl⟩⟩; (try first | exact ⟨rfl, _, World.drewN_drewN _ _ _⟩ | exact ⟨rfl, _, Eq.trans (World.drewN_drewN _ _ _) (congrArg (World.drewN _) (Nat.add_assoc _ _ _))⟩); have p204 : 0 ≤ ((ji9) : Int) := of_decide_eq_true hE; have q204 : (ji9) < (l0.length : Int) := of_decide_eq_true hE; obtain ⟨ad204, e204, hx204_0, hx204_1, hx204_2⟩ := at_T80 HR0.out (ji9) p204 q204; obtain rfl : ad201 = ad204 := (by injection e204); replace hx204_0 := (HB.out.cell (World.block_lt_of_cell? w _ hx204_0)).trans hx204_0; replace hx204_1 := (HB.out.cell (World.block_lt_of_cell? w _ hx204_1)).trans hx204_1; replace hx204_2 := (HB.out.cell (World.block_lt_of_cell? w _ hx204_2)).trans hx204_2; replace p204 := eq_true p204; replace q204 := eq_true q204) | (go_at_call 36; (with_reducible refine (impl_inRange.calls ((rd_T80 l0 x9_1).f2) 0 a1 false _ A13.out).mono ?_); rintro e w' ⟨rfl, ⟨nd, rfl⟩⟩; (try first | exact ⟨rfl, _, World.drewN_drewN _ _ _⟩ | exact ⟨rfl, _, Eq.trans (World.drewN_drewN _ _ _) (congrArg (World.drewN _) (Nat.add_assoc _ _ _))⟩))))
            go_ret
            exact ⟨by first | rfl | (simp [errW_none, errW_some] <;> rfl) | (simp only [← hji9]; first | rfl | (simp [errW_none, errW_some] <;> rfl)) | (simp [*, errW_none, errW_some] <;> rfl), lV1 GE202⟩
          ·rw [if_neg c12] at H
           have c12b0 : (Op.bytesLess (((rd_T80 l0 (ji9)).f0).toList) (((rd_T80 l0 x9_1).f0).toList)) = false := by simpa using c12
           clear c12
           obtain rfl := Option.some.inj H
           have p201 : 0 ≤ (x9_1 : Int) := of_decide_eq_true hE
           have q201 : x9_1 < (l0.length : Int) := of_decide_eq_true hE
           obtain ⟨ad201, e201, hx201_0, hx201_1, hx201_2⟩ := at_T80 HR0.out x9_1 p201 q201
           cases e201
           replace hx201_0 := (HB.out.cell (World.block_lt_of_cell? w _ hx201_0)).trans hx201_0
           replace hx201_1 := (HB.out.cell (World.block_lt_of_cell? w _ hx201_1)).trans hx201_1
           replace hx201_2 := (HB.out.cell (World.block_lt_of_cell? w _ hx201_2)).trans hx201_2
           replace p201 := eq_true p201
           replace q201 := eq_true q201
           go_wp2_with (first | ((with_reducible refine gate_dst (N := 6) rfl ?_); refine box_event rfl (N := 6) rfl (cs := #[.string (⟨#[]⟩ : ByteArray), .int .i64 0, .int .i64 0]) (t := 80) sE ?_; intro gb202 hg w23 hbox hb; have BK202 := Aside0.mk hbox; have GW202 := gS w hg (lU); have GE202 := gS w hg (lU); replace HB := bH (lU) hb; clear hb hbox hg; have hcz24_0 := cz BK202 0 (.string (⟨#[]⟩ : ByteArray)); have hcz24_1 := cz BK202 1 (.int .i64 0); have hcz24_2 := cz BK202 2 (.int .i64 0); have hfz24_0 := fz BK202 0; have hfz24_1 := fz BK202 1; have hfz24_2 := fz BK202 2) | ((with_reducible refine gate_store (t := 80) (p := 6) rfl ?_); (try (rw [drewN_self w23]; generalize hq_ : World.drewN w23 _ = w23; replace BK202 := Aside0.mk (blk_at hq_ BK202.out); replace HB := Aside0.mk (below_at hq_ HB.out); clear hq_)); refine store_event (t := 80) (p := 6) (v := ?vo_w25) (w1 := (((w23.setCell ⟨gb202, 0, none⟩ (.string ((rd_T80 l0 x9_1).f0))).setCell ⟨gb202, 1, none⟩ (.int .i64 ((rd_T80 l0 x9_1).f1))).setCell ⟨gb202, 2, none⟩ (.int .i64 ((rd_T80 l0 x9_1).f2)))) ?hg ?ho ?hn ?hr ?_; (case ho => rfl); (case hg => rfl); (case hn => rfl); (case hr => first | (go_simp; done) | (go_simp; rfl) | (have hq0_ := (blk_cell BK202.out 0).trans (show _ = some _ from rfl); have hf0_ := blk_frozen BK202.out 0; have hq1_ := (blk_cell BK202.out 1).trans (show _ = some _ from rfl); have hf1_ := blk_frozen BK202.out 1; have hq2_ := (blk_cell BK202.out 2).trans (show _ = some _ from rfl); have hf2_ := blk_frozen BK202.out 2; first | (go_simp; done) | (go_simp; rfl))); intro w25 hw; replace BK202 : Aside0 (w25.heap[gb202]? = some (.cells #[.string ((rd_T80 l0 x9_1).f0), .int .i64 ((rd_T80 l0 x9_1).f1), .int .i64 ((rd_T80 l0 x9_1).f2)] 80 (0, 0))) := ⟨(by rw [hw]; exact (by refine bU ?_; refine blk_put (cs := #[.string ((rd_T80 l0 x9_1).f0), .int .i64 ((rd_T80 l0 x9_1).f1), .int .i64 0]) ?_ 2 _ rfl; refine bU ?_; refine blk_put (cs := #[.string ((rd_T80 l0 x9_1).f0), .int .i64 0, .int .i64 0]) ?_ 1 _ rfl; refine bU ?_; refine blk_put (cs := #[.string (⟨#[]⟩ : ByteArray), .int .i64 0, .int .i64 0]) ?_ 0 _ rfl; refine bU ?_; exact BK202.out))⟩; replace HB : Aside0 (Below w.heap.size w w25) := ⟨(by rw [hw]; exact (lV1 GE202))⟩; clear hw; have hcz26_0 := cz BK202 0 (.string ((rd_T80 l0 x9_1).f0)); have hcz26_1 := cz BK202 1 (.int .i64 ((rd_T80 l0 x9_1).f1)); have hcz26_2 := cz BK202 2 (.int .i64 ((rd_T80 l0 x9_1).f2)); have hfz26_0 := fz BK202 0; have hfz26_1 := fz BK202 1; have hfz26_2 := fz BK202 2) | (go_at_call 67; (with_reducible refine (impl_GoodName.calls k1 ((rd_T80 l0 x9_1).f0) true _ A6.out).mono ?_); rintro e w' ⟨rfl, ⟨nd, rfl⟩⟩; (try first | exact ⟨rfl, _, World.drewN_drewN _ _ _⟩ | exact ⟨rfl, _, Eq.trans (World.drewN_drewN _ _ _) (congrArg (World.drewN _) (Nat.add_assoc _ _ _))⟩); have p204 : 0 ≤ ((ji9) : Int) := of_decide_eq_true hE; have q204 : (ji9) < (l0.length : Int) := of_decide_eq_true hE; obtain ⟨ad204, e204, hx204_0, hx204_1, hx204_2⟩ := at_T80 HR0.out (ji9) p204 q204; obtain rfl : ad201 = ad204 := (by injection e204); replace hx204_0 := (HB.out.cell (World.block_lt_of_cell? w _ hx204_0)).trans hx204_0; replace hx204_1 := (HB.out.cell (World.block_lt_of_cell? w _ hx204_1)).trans hx204_1; replace hx204_2 := (HB.out.cell (World.block_lt_of_cell? w _ hx204_2)).trans hx204_2; replace p204 := eq_true p204; replace q204 := eq_true q204))
           repeat (go_quiet (first | ((with_reducible refine gate_dst (N := 6) rfl ?_); refine box_event rfl (N := 6) rfl (cs := #[.string (⟨#[]⟩ : ByteArray), .int .i64 0, .int .i64 0]) (t := 80) sE ?_; intro gb202 hg w23 hbox hb; have BK202 := Aside0.mk hbox; have GW202 := gS w hg (lU); have GE202 := gS w hg (lU); replace HB := bH (lU) hb; clear hb hbox hg; have hcz24_0 := cz BK202 0 (.string (⟨#[]⟩ : ByteArray)); have hcz24_1 := cz BK202 1 (.int .i64 0); have hcz24_2 := cz BK202 2 (.int .i64 0); have hfz24_0 := fz BK202 0; have hfz24_1 := fz BK202 1; have hfz24_2 := fz BK202 2) | ((with_reducible refine gate_store (t := 80) (p := 6) rfl ?_); (try (rw [drewN_self w23]; generalize hq_ : World.drewN w23 _ = w23; replace BK202 := Aside0.mk (blk_at hq_ BK202.out); replace HB := Aside0.mk (below_at hq_ HB.out); clear hq_)); refine store_event (t := 80) (p := 6) (v := ?vo_w25) (w1 := (((w23.setCell ⟨gb202, 0, none⟩ (.string ((rd_T80 l0 x9_1).f0))).setCell ⟨gb202, 1, none⟩ (.int .i64 ((rd_T80 l0 x9_1).f1))).setCell ⟨gb202, 2, none⟩ (.int .i64 ((rd_T80 l0 x9_1).f2)))) ?hg ?ho ?hn ?hr ?_; (case ho => rfl); (case hg => rfl); (case hn => rfl); (case hr => first | (go_simp; done) | (go_simp; rfl) | (have hq0_ := (blk_cell BK202.out 0).trans (show _ = some _ from rfl); have hf0_ := blk_frozen BK202.out 0; have hq1_ := (blk_cell BK202.out 1).trans (show _ = some _ from rfl); have hf1_ := blk_frozen BK202.out 1; have hq2_ := (blk_cell BK202.out 2).trans (show _ = some _ from rfl); have hf2_ := blk_frozen BK202.out 2; first | (go_simp; done) | (go_simp; rfl))); intro w25 hw; replace BK202 : Aside0 (w25.heap[gb202]? = some (.cells #[.string ((rd_T80 l0 x9_1).f0), .int .i64 ((rd_T80 l0 x9_1).f1), .int .i64 ((rd_T80 l0 x9_1).f2)] 80 (0, 0))) := ⟨(by rw [hw]; exact (by refine bU ?_; refine blk_put (cs := #[.string ((rd_T80 l0 x9_1).f0), .int .i64 ((rd_T80 l0 x9_1).f1), .int .i64 0]) ?_ 2 _ rfl; refine bU ?_; refine blk_put (cs := #[.string ((rd_T80 l0 x9_1).f0), .int .i64 0, .int .i64 0]) ?_ 1 _ rfl; refine bU ?_; refine blk_put (cs := #[.string (⟨#[]⟩ : ByteArray), .int .i64 0, .int .i64 0]) ?_ 0 _ rfl; refine bU ?_; exact BK202.out))⟩; replace HB : Aside0 (Below w.heap.size w w25) := ⟨(by rw [hw]; exact (lV1 GE202))⟩; clear hw; have hcz26_0 := cz BK202 0 (.string ((rd_T80 l0 x9_1).f0)); have hcz26_1 := cz BK202 1 (.int .i64 ((rd_T80 l0 x9_1).f1)); have hcz26_2 := cz BK202 2 (.int .i64 ((rd_T80 l0 x9_1).f2)); have hfz26_0 := fz BK202 0; have hfz26_1 := fz BK202 1; have hfz26_2 := fz BK202 2) | (go_at_call 67; (with_reducible refine (impl_GoodName.calls k1 ((rd_T80 l0 x9_1).f0) true _ A6.out).mono ?_); rintro e w' ⟨rfl, ⟨nd, rfl⟩⟩; (try first | exact ⟨rfl, _, World.drewN_drewN _ _ _⟩ | exact ⟨rfl, _, Eq.trans (World.drewN_drewN _ _ _) (congrArg (World.drewN _) (Nat.add_assoc _ _ _))⟩); have p204 : 0 ≤ ((ji9) : Int) := of_decide_eq_true hE; have q204 : (ji9) < (l0.length : Int) := of_decide_eq_true hE; obtain ⟨ad204, e204, hx204_0, hx204_1, hx204_2⟩ := at_T80 HR0.out (ji9) p204 q204; obtain rfl : ad201 = ad204 := (by injection e204); replace hx204_0 := (HB.out.cell (World.block_lt_of_cell? w _ hx204_0)).trans hx204_0; replace hx204_1 := (HB.out.cell (World.block_lt_of_cell? w _ hx204_1)).trans hx204_1; replace hx204_2 := (HB.out.cell (World.block_lt_of_cell? w _ hx204_2)).trans hx204_2; replace p204 := eq_true p204; replace q204 := eq_true q204)); try go_wp2_with (first | ((with_reducible refine gate_dst (N := 6) rfl ?_); refine box_event rfl (N := 6) rfl (cs := #[.string (⟨#[]⟩ : ByteArray), .int .i64 0, .int .i64 0]) (t := 80) sE ?_; intro gb202 hg w23 hbox hb; have BK202 := Aside0.mk hbox; have GW202 := gS w hg (lU); have GE202 := gS w hg (lU); replace HB := bH (lU) hb; clear hb hbox hg; have hcz24_0 := cz BK202 0 (.string (⟨#[]⟩ : ByteArray)); have hcz24_1 := cz BK202 1 (.int .i64 0); have hcz24_2 := cz BK202 2 (.int .i64 0); have hfz24_0 := fz BK202 0; have hfz24_1 := fz BK202 1; have hfz24_2 := fz BK202 2) | ((with_reducible refine gate_store (t := 80) (p := 6) rfl ?_); (try (rw [drewN_self w23]; generalize hq_ : World.drewN w23 _ = w23; replace BK202 := Aside0.mk (blk_at hq_ BK202.out); replace HB := Aside0.mk (below_at hq_ HB.out); clear hq_)); refine store_event (t := 80) (p := 6) (v := ?vo_w25) (w1 := (((w23.setCell ⟨gb202, 0, none⟩ (.string ((rd_T80 l0 x9_1).f0))).setCell ⟨gb202, 1, none⟩ (.int .i64 ((rd_T80 l0 x9_1).f1))).setCell ⟨gb202, 2, none⟩ (.int .i64 ((rd_T80 l0 x9_1).f2)))) ?hg ?ho ?hn ?hr ?_; (case ho => rfl); (case hg => rfl); (case hn => rfl); (case hr => first | (go_simp; done) | (go_simp; rfl) | (have hq0_ := (blk_cell BK202.out 0).trans (show _ = some _ from rfl); have hf0_ := blk_frozen BK202.out 0; have hq1_ := (blk_cell BK202.out 1).trans (show _ = some _ from rfl); have hf1_ := blk_frozen BK202.out 1; have hq2_ := (blk_cell BK202.out 2).trans (show _ = some _ from rfl); have hf2_ := blk_frozen BK202.out 2; first | (go_simp; done) | (go_simp; rfl))); intro w25 hw; replace BK202 : Aside0 (w25.heap[gb202]? = some (.cells #[.string ((rd_T80 l0 x9_1).f0), .int .i64 ((rd_T80 l0 x9_1).f1), .int .i64 ((rd_T80 l0 x9_1).f2)] 80 (0, 0))) := ⟨(by rw [hw]; exact (by refine bU ?_; refine blk_put (cs := #[.string ((rd_T80 l0 x9_1).f0), .int .i64 ((rd_T80 l0 x9_1).f1), .int .i64 0]) ?_ 2 _ rfl; refine bU ?_; refine blk_put (cs := #[.string ((rd_T80 l0 x9_1).f0), .int .i64 0, .int .i64 0]) ?_ 1 _ rfl; refine bU ?_; refine blk_put (cs := #[.string (⟨#[]⟩ : ByteArray), .int .i64 0, .int .i64 0]) ?_ 0 _ rfl; refine bU ?_; exact BK202.out))⟩; replace HB : Aside0 (Below w.heap.size w w25) := ⟨(by rw [hw]; exact (lV1 GE202))⟩; clear hw; have hcz26_0 := cz BK202 0 (.string ((rd_T80 l0 x9_1).f0)); have hcz26_1 := cz BK202 1 (.int .i64 ((rd_T80 l0 x9_1).f1)); have hcz26_2 := cz BK202 2 (.int .i64 ((rd_T80 l0 x9_1).f2)); have hfz26_0 := fz BK202 0; have hfz26_1 := fz BK202 1; have hfz26_2 := fz BK202 2) | (go_at_call 67; (with_reducible refine (impl_GoodName.calls k1 ((rd_T80 l0 x9_1).f0) true _ A6.out).mono ?_); rintro e w' ⟨rfl, ⟨nd, rfl⟩⟩; (try first | exact ⟨rfl, _, World.drewN_drewN _ _ _⟩ | exact ⟨rfl, _, Eq.trans (World.drewN_drewN _ _ _) (congrArg (World.drewN _) (Nat.add_assoc _ _ _))⟩); have p204 : 0 ≤ ((ji9) : Int) := of_decide_eq_true hE; have q204 : (ji9) < (l0.length : Int) := of_decide_eq_true hE; obtain ⟨ad204, e204, hx204_0, hx204_1, hx204_2⟩ := at_T80 HR0.out (ji9) p204 q204; obtain rfl : ad201 = ad204 := (by injection e204); replace hx204_0 := (HB.out.cell (World.block_lt_of_cell? w _ hx204_0)).trans hx204_0; replace hx204_1 := (HB.out.cell (World.block_lt_of_cell? w _ hx204_1)).trans hx204_1; replace hx204_2 := (HB.out.cell (World.block_lt_of_cell? w _ hx204_2)).trans hx204_2; replace p204 := eq_true p204; replace q204 := eq_true q204)))
           go_ret
           exact ⟨by first | rfl | (simp [errW_none, errW_some] <;> rfl) | (simp only [← hji9]; first | rfl | (simp [errW_none, errW_some] <;> rfl)) | (simp [*, errW_none, errW_some] <;> rfl), lV1 GE202⟩
         ·rw [if_neg c11] at H
          exact absurd H (by simp)
        ·rw [if_neg c10] at H
         exact absurd H (by simp)
       ·rw [if_neg c8] at H
        have c8b0 : decide (0 < x9_1) = false := decide_eq_false c8
        clear c8
        replace H := Option.bind_eq_some_iff.mp H
        obtain ⟨t206, A270, H⟩ := H
        replace H : (if t206 = true then (impl_areParts.l0 k1 l0 a1 l0 (l0.length : Int) (wrap64 (x9_1 + 1))) else (some false)) = some r := H
        have A27 := Aside0.mk A270
        clear A270
        by_cases c28 : t206 = true
        ·subst c28
         have H1 : (impl_areParts.l0 k1 l0 a1 l0 (l0.length : Int) (wrap64 (x9_1 + 1))) = some r := by rw [if_pos rfl] at H; exact H
         clear H
         have H := H1
         clear H1
         have H' := Aside0.mk H
         clear H
         have p201 : 0 ≤ (x9_1 : Int) := of_decide_eq_true hE
         have q201 : x9_1 < (l0.length : Int) := of_decide_eq_true hE
         obtain ⟨ad201, e201, hx201_0, hx201_1, hx201_2⟩ := at_T80 HR0.out x9_1 p201 q201
         cases e201
         replace hx201_0 := (HB.out.cell (World.block_lt_of_cell? w _ hx201_0)).trans hx201_0
         replace hx201_1 := (HB.out.cell (World.block_lt_of_cell? w _ hx201_1)).trans hx201_1
         replace hx201_2 := (HB.out.cell (World.block_lt_of_cell? w _ hx201_2)).trans hx201_2
         replace p201 := eq_true p201
         replace q201 := eq_true q201
         go_wp2_with (first | ((with_reducible refine gate_dst (N := 6) rfl ?_); refine box_event rfl (N := 6) rfl (cs := #[.string (⟨#[]⟩ : ByteArray), .int .i64 0, .int .i64 0]) (t := 80) sE ?_; intro gb202 hg w29 hbox hb; have BK202 := Aside0.mk hbox; have GW202 := gS w hg (lU); have GE202 := gS w hg (lU); replace HB := bH (lU) hb; clear hb hbox hg; have hcz30_0 := cz BK202 0 (.string (⟨#[]⟩ : ByteArray)); have hcz30_1 := cz BK202 1 (.int .i64 0); have hcz30_2 := cz BK202 2 (.int .i64 0); have hfz30_0 := fz BK202 0; have hfz30_1 := fz BK202 1; have hfz30_2 := fz BK202 2) | ((with_reducible refine gate_store (t := 80) (p := 6) rfl ?_); (try (rw [drewN_self w29]; generalize hq_ : World.drewN w29 _ = w29; replace BK202 := Aside0.mk (blk_at hq_ BK202.out); replace HB := Aside0.mk (below_at hq_ HB.out); clear hq_)); refine store_event (t := 80) (p := 6) (v := ?vo_w31) (w1 := (((w29.setCell ⟨gb202, 0, none⟩ (.string ((rd_T80 l0 x9_1).f0))).setCell ⟨gb202, 1, none⟩ (.int .i64 ((rd_T80 l0 x9_1).f1))).setCell ⟨gb202, 2, none⟩ (.int .i64 ((rd_T80 l0 x9_1).f2)))) ?hg ?ho ?hn ?hr ?_; (case ho => rfl); (case hg => rfl); (case hn => rfl); (case hr => first | (go_simp; done) | (go_simp; rfl) | (have hq0_ := (blk_cell BK202.out 0).trans (show _ = some _ from rfl); have hf0_ := blk_frozen BK202.out 0; have hq1_ := (blk_cell BK202.out 1).trans (show _ = some _ from rfl); have hf1_ := blk_frozen BK202.out 1; have hq2_ := (blk_cell BK202.out 2).trans (show _ = some _ from rfl); have hf2_ := blk_frozen BK202.out 2; first | (go_simp; done) | (go_simp; rfl))); intro w31 hw; replace BK202 : Aside0 (w31.heap[gb202]? = some (.cells #[.string ((rd_T80 l0 x9_1).f0), .int .i64 ((rd_T80 l0 x9_1).f1), .int .i64 ((rd_T80 l0 x9_1).f2)] 80 (0, 0))) := ⟨(by rw [hw]; exact (by refine bU ?_; refine blk_put (cs := #[.string ((rd_T80 l0 x9_1).f0), .int .i64 ((rd_T80 l0 x9_1).f1), .int .i64 0]) ?_ 2 _ rfl; refine bU ?_; refine blk_put (cs := #[.string ((rd_T80 l0 x9_1).f0), .int .i64 0, .int .i64 0]) ?_ 1 _ rfl; refine bU ?_; refine blk_put (cs := #[.string (⟨#[]⟩ : ByteArray), .int .i64 0, .int .i64 0]) ?_ 0 _ rfl; refine bU ?_; exact BK202.out))⟩; replace HB : Aside0 (Below w.heap.size w w31) := ⟨(by rw [hw]; exact (lV1 GE202))⟩; clear hw; have hcz32_0 := cz BK202 0 (.string ((rd_T80 l0 x9_1).f0)); have hcz32_1 := cz BK202 1 (.int .i64 ((rd_T80 l0 x9_1).f1)); have hcz32_2 := cz BK202 2 (.int .i64 ((rd_T80 l0 x9_1).f2)); have hfz32_0 := fz BK202 0; have hfz32_1 := fz BK202 1; have hfz32_2 := fz BK202 2) | (go_at_call 67; (with_reducible refine (impl_GoodName.calls k1 ((rd_T80 l0 x9_1).f0) true _ A6.out).mono ?_); rintro e w' ⟨rfl, ⟨nd, rfl⟩⟩; (try first | exact ⟨rfl, _, World.drewN_drewN _ _ _⟩ | exact ⟨rfl, _, Eq.trans (World.drewN_drewN _ _ _) (congrArg (World.drewN _) (Nat.add_assoc _ _ _))⟩)) | (go_at_call 36; (with_reducible refine (impl_inRange.calls ((rd_T80 l0 x9_1).f2) 0 a1 true _ A27.out).mono ?_); rintro e w' ⟨rfl, ⟨nd, rfl⟩⟩; (try first | exact ⟨rfl, _, World.drewN_drewN _ _ _⟩ | exact ⟨rfl, _, Eq.trans (World.drewN_drewN _ _ _) (congrArg (World.drewN _) (Nat.add_assoc _ _ _))⟩)))
         repeat (go_quiet (first | ((with_reducible refine gate_dst (N := 6) rfl ?_); refine box_event rfl (N := 6) rfl (cs := #[.string (⟨#[]⟩ : ByteArray), .int .i64 0, .int .i64 0]) (t := 80) sE ?_; intro gb202 hg w29 hbox hb; have BK202 := Aside0.mk hbox; have GW202 := gS w hg (lU); have GE202 := gS w hg (lU); replace HB := bH (lU) hb; clear hb hbox hg; have hcz30_0 := cz BK202 0 (.string (⟨#[]⟩ : ByteArray)); have hcz30_1 := cz BK202 1 (.int .i64 0); have hcz30_2 := cz BK202 2 (.int .i64 0); have hfz30_0 := fz BK202 0; have hfz30_1 := fz BK202 1; have hfz30_2 := fz BK202 2) | ((with_reducible refine gate_store (t := 80) (p := 6) rfl ?_); (try (rw [drewN_self w29]; generalize hq_ : World.drewN w29 _ = w29; replace BK202 := Aside0.mk (blk_at hq_ BK202.out); replace HB := Aside0.mk (below_at hq_ HB.out); clear hq_)); refine store_event (t := 80) (p := 6) (v := ?vo_w31) (w1 := (((w29.setCell ⟨gb202, 0, none⟩ (.string ((rd_T80 l0 x9_1).f0))).setCell ⟨gb202, 1, none⟩ (.int .i64 ((rd_T80 l0 x9_1).f1))).setCell ⟨gb202, 2, none⟩ (.int .i64 ((rd_T80 l0 x9_1).f2)))) ?hg ?ho ?hn ?hr ?_; (case ho => rfl); (case hg => rfl); (case hn => rfl); (case hr => first | (go_simp; done) | (go_simp; rfl) | (have hq0_ := (blk_cell BK202.out 0).trans (show _ = some _ from rfl); have hf0_ := blk_frozen BK202.out 0; have hq1_ := (blk_cell BK202.out 1).trans (show _ = some _ from rfl); have hf1_ := blk_frozen BK202.out 1; have hq2_ := (blk_cell BK202.out 2).trans (show _ = some _ from rfl); have hf2_ := blk_frozen BK202.out 2; first | (go_simp; done) | (go_simp; rfl))); intro w31 hw; replace BK202 : Aside0 (w31.heap[gb202]? = some (.cells #[.string ((rd_T80 l0 x9_1).f0), .int .i64 ((rd_T80 l0 x9_1).f1), .int .i64 ((rd_T80 l0 x9_1).f2)] 80 (0, 0))) := ⟨(by rw [hw]; exact (by refine bU ?_; refine blk_put (cs := #[.string ((rd_T80 l0 x9_1).f0), .int .i64 ((rd_T80 l0 x9_1).f1), .int .i64 0]) ?_ 2 _ rfl; refine bU ?_; refine blk_put (cs := #[.string ((rd_T80 l0 x9_1).f0), .int .i64 0, .int .i64 0]) ?_ 1 _ rfl; refine bU ?_; refine blk_put (cs := #[.string (⟨#[]⟩ : ByteArray), .int .i64 0, .int .i64 0]) ?_ 0 _ rfl; refine bU ?_; exact BK202.out))⟩; replace HB : Aside0 (Below w.heap.size w w31) := ⟨(by rw [hw]; exact (lV1 GE202))⟩; clear hw; have hcz32_0 := cz BK202 0 (.string ((rd_T80 l0 x9_1).f0)); have hcz32_1 := cz BK202 1 (.int .i64 ((rd_T80 l0 x9_1).f1)); have hcz32_2 := cz BK202 2 (.int .i64 ((rd_T80 l0 x9_1).f2)); have hfz32_0 := fz BK202 0; have hfz32_1 := fz BK202 1; have hfz32_2 := fz BK202 2) | (go_at_call 67; (with_reducible refine (impl_GoodName.calls k1 ((rd_T80 l0 x9_1).f0) true _ A6.out).mono ?_); rintro e w' ⟨rfl, ⟨nd, rfl⟩⟩; (try first | exact ⟨rfl, _, World.drewN_drewN _ _ _⟩ | exact ⟨rfl, _, Eq.trans (World.drewN_drewN _ _ _) (congrArg (World.drewN _) (Nat.add_assoc _ _ _))⟩)) | (go_at_call 36; (with_reducible refine (impl_inRange.calls ((rd_T80 l0 x9_1).f2) 0 a1 true _ A27.out).mono ?_); rintro e w' ⟨rfl, ⟨nd, rfl⟩⟩; (try first | exact ⟨rfl, _, World.drewN_drewN _ _ _⟩ | exact ⟨rfl, _, Eq.trans (World.drewN_drewN _ _ _) (congrArg (World.drewN _) (Nat.add_assoc _ _ _))⟩))); try go_wp2_with (first | ((with_reducible refine gate_dst (N := 6) rfl ?_); refine box_event rfl (N := 6) rfl (cs := #[.string (⟨#[]⟩ : ByteArray), .int .i64 0, .int .i64 0]) (t := 80) sE ?_; intro gb202 hg w29 hbox hb; have BK202 := Aside0.mk hbox; have GW202 := gS w hg (lU); have GE202 := gS w hg (lU); replace HB := bH (lU) hb; clear hb hbox hg; have hcz30_0 := cz BK202 0 (.string (⟨#[]⟩ : ByteArray)); have hcz30_1 := cz BK202 1 (.int .i64 0); have hcz30_2 := cz BK202 2 (.int .i64 0); have hfz30_0 := fz BK202 0; have hfz30_1 := fz BK202 1; have hfz30_2 := fz BK202 2) | ((with_reducible refine gate_store (t := 80) (p := 6) rfl ?_); (try (rw [drewN_self w29]; generalize hq_ : World.drewN w29 _ = w29; replace BK202 := Aside0.mk (blk_at hq_ BK202.out); replace HB := Aside0.mk (below_at hq_ HB.out); clear hq_)); refine store_event (t := 80) (p := 6) (v := ?vo_w31) (w1 := (((w29.setCell ⟨gb202, 0, none⟩ (.string ((rd_T80 l0 x9_1).f0))).setCell ⟨gb202, 1, none⟩ (.int .i64 ((rd_T80 l0 x9_1).f1))).setCell ⟨gb202, 2, none⟩ (.int .i64 ((rd_T80 l0 x9_1).f2)))) ?hg ?ho ?hn ?hr ?_; (case ho => rfl); (case hg => rfl); (case hn => rfl); (case hr => first | (go_simp; done) | (go_simp; rfl) | (have hq0_ := (blk_cell BK202.out 0).trans (show _ = some _ from rfl); have hf0_ := blk_frozen BK202.out 0; have hq1_ := (blk_cell BK202.out 1).trans (show _ = some _ from rfl); have hf1_ := blk_frozen BK202.out 1; have hq2_ := (blk_cell BK202.out 2).trans (show _ = some _ from rfl); have hf2_ := blk_frozen BK202.out 2; first | (go_simp; done) | (go_simp; rfl))); intro w31 hw; replace BK202 : Aside0 (w31.heap[gb202]? = some (.cells #[.string ((rd_T80 l0 x9_1).f0), .int .i64 ((rd_T80 l0 x9_1).f1), .int .i64 ((rd_T80 l0 x9_1).f2)] 80 (0, 0))) := ⟨(by rw [hw]; exact (by refine bU ?_; refine blk_put (cs := #[.string ((rd_T80 l0 x9_1).f0), .int .i64 ((rd_T80 l0 x9_1).f1), .int .i64 0]) ?_ 2 _ rfl; refine bU ?_; refine blk_put (cs := #[.string ((rd_T80 l0 x9_1).f0), .int .i64 0, .int .i64 0]) ?_ 1 _ rfl; refine bU ?_; refine blk_put (cs := #[.string (⟨#[]⟩ : ByteArray), .int .i64 0, .int .i64 0]) ?_ 0 _ rfl; refine bU ?_; exact BK202.out))⟩; replace HB : Aside0 (Below w.heap.size w w31) := ⟨(by rw [hw]; exact (lV1 GE202))⟩; clear hw; have hcz32_0 := cz BK202 0 (.string ((rd_T80 l0 x9_1).f0)); have hcz32_1 := cz BK202 1 (.int .i64 ((rd_T80 l0 x9_1).f1)); have hcz32_2 := cz BK202 2 (.int .i64 ((rd_T80 l0 x9_1).f2)); have hfz32_0 := fz BK202 0; have hfz32_1 := fz BK202 1; have hfz32_2 := fz BK202 2) | (go_at_call 67; (with_reducible refine (impl_GoodName.calls k1 ((rd_T80 l0 x9_1).f0) true _ A6.out).mono ?_); rintro e w' ⟨rfl, ⟨nd, rfl⟩⟩; (try first | exact ⟨rfl, _, World.drewN_drewN _ _ _⟩ | exact ⟨rfl, _, Eq.trans (World.drewN_drewN _ _ _) (congrArg (World.drewN _) (Nat.add_assoc _ _ _))⟩)) | (go_at_call 36; (with_reducible refine (impl_inRange.calls ((rd_T80 l0 x9_1).f2) 0 a1 true _ A27.out).mono ?_); rintro e w' ⟨rfl, ⟨nd, rfl⟩⟩; (try first | exact ⟨rfl, _, World.drewN_drewN _ _ _⟩ | exact ⟨rfl, _, Eq.trans (World.drewN_drewN _ _ _) (congrArg (World.drewN _) (Nat.add_assoc _ _ _))⟩))))
         go_roundg k1
         case measure => have := HK1.out; omega
         case rel => exact ⟨(wrap64 (x9_1 + 1)), tE, H', ⟨by have := HK1.out; omega⟩, ⟨by repeat (first | (with_reducible first | exact HB.out | apply below_alloc | apply pw_below_drewN | apply below_drew1 | refine below_set ?_ GE202.out) | exact HB.out)⟩⟩
        ·replace c28 := Bool.eq_false_iff.mpr c28
         subst c28
         have H1 : (some false) = some r := by rw [if_neg (show ¬ (false = true) by decide)] at H; exact H
         clear H
         have H := H1
         clear H1
         obtain rfl := Option.some.inj H
         have p201 : 0 ≤ (x9_1 : Int) := of_decide_eq_true hE
         have q201 : x9_1 < (l0.length : Int) := of_decide_eq_true hE
         obtain ⟨ad201, e201, hx201_0, hx201_1, hx201_2⟩ := at_T80 HR0.out x9_1 p201 q201
         cases e201
         replace hx201_0 := (HB.out.cell (World.block_lt_of_cell? w _ hx201_0)).trans hx201_0
         replace hx201_1 := (HB.out.cell (World.block_lt_of_cell? w _ hx201_1)).trans hx201_1
         replace hx201_2 := (HB.out.cell (World.block_lt_of_cell? w _ hx201_2)).trans hx201_2
         replace p201 := eq_true p201
         replace q201 := eq_true q201
         go_wp2_with (first | ((with_reducible refine gate_dst (N := 6) rfl ?_); refine box_event rfl (N := 6) rfl (cs := #[.string (⟨#[]⟩ : ByteArray), .int .i64 0, .int .i64 0]) (t := 80) sE ?_; intro gb202 hg w33 hbox hb; have BK202 := Aside0.mk hbox; have GW202 := gS w hg (lU); have GE202 := gS w hg (lU); replace HB := bH (lU) hb; clear hb hbox hg; have hcz34_0 := cz BK202 0 (.string (⟨#[]⟩ : ByteArray)); have hcz34_1 := cz BK202 1 (.int .i64 0); have hcz34_2 := cz BK202 2 (.int .i64 0); have hfz34_0 := fz BK202 0; have hfz34_1 := fz BK202 1; have hfz34_2 := fz BK202 2) | ((with_reducible refine gate_store (t := 80) (p := 6) rfl ?_); (try (rw [drewN_self w33]; generalize hq_ : World.drewN w33 _ = w33; replace BK202 := Aside0.mk (blk_at hq_ BK202.out); replace HB := Aside0.mk (below_at hq_ HB.out); clear hq_)); refine store_event (t := 80) (p := 6) (v := ?vo_w35) (w1 := (((w33.setCell ⟨gb202, 0, none⟩ (.string ((rd_T80 l0 x9_1).f0))).setCell ⟨gb202, 1, none⟩ (.int .i64 ((rd_T80 l0 x9_1).f1))).setCell ⟨gb202, 2, none⟩ (.int .i64 ((rd_T80 l0 x9_1).f2)))) ?hg ?ho ?hn ?hr ?_; (case ho => rfl); (case hg => rfl); (case hn => rfl); (case hr => first | (go_simp; done) | (go_simp; rfl) | (have hq0_ := (blk_cell BK202.out 0).trans (show _ = some _ from rfl); have hf0_ := blk_frozen BK202.out 0; have hq1_ := (blk_cell BK202.out 1).trans (show _ = some _ from rfl); have hf1_ := blk_frozen BK202.out 1; have hq2_ := (blk_cell BK202.out 2).trans (show _ = some _ from rfl); have hf2_ := blk_frozen BK202.out 2; first | (go_simp; done) | (go_simp; rfl))); intro w35 hw; replace BK202 : Aside0 (w35.heap[gb202]? = some (.cells #[.string ((rd_T80 l0 x9_1).f0), .int .i64 ((rd_T80 l0 x9_1).f1), .int .i64 ((rd_T80 l0 x9_1).f2)] 80 (0, 0))) := ⟨(by rw [hw]; exact (by refine bU ?_; refine blk_put (cs := #[.string ((rd_T80 l0 x9_1).f0), .int .i64 ((rd_T80 l0 x9_1).f1), .int .i64 0]) ?_ 2 _ rfl; refine bU ?_; refine blk_put (cs := #[.string ((rd_T80 l0 x9_1).f0), .int .i64 0, .int .i64 0]) ?_ 1 _ rfl; refine bU ?_; refine blk_put (cs := #[.string (⟨#[]⟩ : ByteArray), .int .i64 0, .int .i64 0]) ?_ 0 _ rfl; refine bU ?_; exact BK202.out))⟩; replace HB : Aside0 (Below w.heap.size w w35) := ⟨(by rw [hw]; exact (lV1 GE202))⟩; clear hw; have hcz36_0 := cz BK202 0 (.string ((rd_T80 l0 x9_1).f0)); have hcz36_1 := cz BK202 1 (.int .i64 ((rd_T80 l0 x9_1).f1)); have hcz36_2 := cz BK202 2 (.int .i64 ((rd_T80 l0 x9_1).f2)); have hfz36_0 := fz BK202 0; have hfz36_1 := fz BK202 1; have hfz36_2 := fz BK202 2) | (go_at_call 67; (with_reducible refine (impl_GoodName.calls k1 ((rd_T80 l0 x9_1).f0) true _ A6.out).mono ?_); rintro e w' ⟨rfl, ⟨nd, rfl⟩⟩; (try first | exact ⟨rfl, _, World.drewN_drewN _ _ _⟩ | exact ⟨rfl, _, Eq.trans (World.drewN_drewN _ _ _) (congrArg (World.drewN _) (Nat.add_assoc _ _ _))⟩)) | (go_at_call 36; (with_reducible refine (impl_inRange.calls ((rd_T80 l0 x9_1).f2) 0 a1 false _ A27.out).mono ?_); rintro e w' ⟨rfl, ⟨nd, rfl⟩⟩; (try first | exact ⟨rfl, _, World.drewN_drewN _ _ _⟩ | exact ⟨rfl, _, Eq.trans (World.drewN_drewN _ _ _) (congrArg (World.drewN _) (Nat.add_assoc _ _ _))⟩)))
         repeat (go_quiet (first | ((with_reducible refine gate_dst (N := 6) rfl ?_); refine box_event rfl (N := 6) rfl (cs := #[.string (⟨#[]⟩ : ByteArray), .int .i64 0, .int .i64 0]) (t := 80) sE ?_; intro gb202 hg w33 hbox hb; have BK202 := Aside0.mk hbox; have GW202 := gS w hg (lU); have GE202 := gS w hg (lU); replace HB := bH (lU) hb; clear hb hbox hg; have hcz34_0 := cz BK202 0 (.string (⟨#[]⟩ : ByteArray)); have hcz34_1 := cz BK202 1 (.int .i64 0); have hcz34_2 := cz BK202 2 (.int .i64 0); have hfz34_0 := fz BK202 0; have hfz34_1 := fz BK202 1; have hfz34_2 := fz BK202 2) | ((with_reducible refine gate_store (t := 80) (p := 6) rfl ?_); (try (rw [drewN_self w33]; generalize hq_ : World.drewN w33 _ = w33; replace BK202 := Aside0.mk (blk_at hq_ BK202.out); replace HB := Aside0.mk (below_at hq_ HB.out); clear hq_)); refine store_event (t := 80) (p := 6) (v := ?vo_w35) (w1 := (((w33.setCell ⟨gb202, 0, none⟩ (.string ((rd_T80 l0 x9_1).f0))).setCell ⟨gb202, 1, none⟩ (.int .i64 ((rd_T80 l0 x9_1).f1))).setCell ⟨gb202, 2, none⟩ (.int .i64 ((rd_T80 l0 x9_1).f2)))) ?hg ?ho ?hn ?hr ?_; (case ho => rfl); (case hg => rfl); (case hn => rfl); (case hr => first | (go_simp; done) | (go_simp; rfl) | (have hq0_ := (blk_cell BK202.out 0).trans (show _ = some _ from rfl); have hf0_ := blk_frozen BK202.out 0; have hq1_ := (blk_cell BK202.out 1).trans (show _ = some _ from rfl); have hf1_ := blk_frozen BK202.out 1; have hq2_ := (blk_cell BK202.out 2).trans (show _ = some _ from rfl); have hf2_ := blk_frozen BK202.out 2; first | (go_simp; done) | (go_simp; rfl))); intro w35 hw; replace BK202 : Aside0 (w35.heap[gb202]? = some (.cells #[.string ((rd_T80 l0 x9_1).f0), .int .i64 ((rd_T80 l0 x9_1).f1), .int .i64 ((rd_T80 l0 x9_1).f2)] 80 (0, 0))) := ⟨(by rw [hw]; exact (by refine bU ?_; refine blk_put (cs := #[.string ((rd_T80 l0 x9_1).f0), .int .i64 ((rd_T80 l0 x9_1).f1), .int .i64 0]) ?_ 2 _ rfl; refine bU ?_; refine blk_put (cs := #[.string ((rd_T80 l0 x9_1).f0), .int .i64 0, .int .i64 0]) ?_ 1 _ rfl; refine bU ?_; refine blk_put (cs := #[.string (⟨#[]⟩ : ByteArray), .int .i64 0, .int .i64 0]) ?_ 0 _ rfl; refine bU ?_; exact BK202.out))⟩; replace HB : Aside0 (Below w.heap.size w w35) := ⟨(by rw [hw]; exact (lV1 GE202))⟩; clear hw; have hcz36_0 := cz BK202 0 (.string ((rd_T80 l0 x9_1).f0)); have hcz36_1 := cz BK202 1 (.int .i64 ((rd_T80 l0 x9_1).f1)); have hcz36_2 := cz BK202 2 (.int .i64 ((rd_T80 l0 x9_1).f2)); have hfz36_0 := fz BK202 0; have hfz36_1 := fz BK202 1; have hfz36_2 := fz BK202 2) | (go_at_call 67; (with_reducible refine (impl_GoodName.calls k1 ((rd_T80 l0 x9_1).f0) true _ A6.out).mono ?_); rintro e w' ⟨rfl, ⟨nd, rfl⟩⟩; (try first | exact ⟨rfl, _, World.drewN_drewN _ _ _⟩ | exact ⟨rfl, _, Eq.trans (World.drewN_drewN _ _ _) (congrArg (World.drewN _) (Nat.add_assoc _ _ _))⟩)) | (go_at_call 36; (with_reducible refine (impl_inRange.calls ((rd_T80 l0 x9_1).f2) 0 a1 false _ A27.out).mono ?_); rintro e w' ⟨rfl, ⟨nd, rfl⟩⟩; (try first | exact ⟨rfl, _, World.drewN_drewN _ _ _⟩ | exact ⟨rfl, _, Eq.trans (World.drewN_drewN _ _ _) (congrArg (World.drewN _) (Nat.add_assoc _ _ _))⟩))); try go_wp2_with (first | ((with_reducible refine gate_dst (N := 6) rfl ?_); refine box_event rfl (N := 6) rfl (cs := #[.string (⟨#[]⟩ : ByteArray), .int .i64 0, .int .i64 0]) (t := 80) sE ?_; intro gb202 hg w33 hbox hb; have BK202 := Aside0.mk hbox; have GW202 := gS w hg (lU); have GE202 := gS w hg (lU); replace HB := bH (lU) hb; clear hb hbox hg; have hcz34_0 := cz BK202 0 (.string (⟨#[]⟩ : ByteArray)); have hcz34_1 := cz BK202 1 (.int .i64 0); have hcz34_2 := cz BK202 2 (.int .i64 0); have hfz34_0 := fz BK202 0; have hfz34_1 := fz BK202 1; have hfz34_2 := fz BK202 2) | ((with_reducible refine gate_store (t := 80) (p := 6) rfl ?_); (try (rw [drewN_self w33]; generalize hq_ : World.drewN w33 _ = w33; replace BK202 := Aside0.mk (blk_at hq_ BK202.out); replace HB := Aside0.mk (below_at hq_ HB.out); clear hq_)); refine store_event (t := 80) (p := 6) (v := ?vo_w35) (w1 := (((w33.setCell ⟨gb202, 0, none⟩ (.string ((rd_T80 l0 x9_1).f0))).setCell ⟨gb202, 1, none⟩ (.int .i64 ((rd_T80 l0 x9_1).f1))).setCell ⟨gb202, 2, none⟩ (.int .i64 ((rd_T80 l0 x9_1).f2)))) ?hg ?ho ?hn ?hr ?_; (case ho => rfl); (case hg => rfl); (case hn => rfl); (case hr => first | (go_simp; done) | (go_simp; rfl) | (have hq0_ := (blk_cell BK202.out 0).trans (show _ = some _ from rfl); have hf0_ := blk_frozen BK202.out 0; have hq1_ := (blk_cell BK202.out 1).trans (show _ = some _ from rfl); have hf1_ := blk_frozen BK202.out 1; have hq2_ := (blk_cell BK202.out 2).trans (show _ = some _ from rfl); have hf2_ := blk_frozen BK202.out 2; first | (go_simp; done) | (go_simp; rfl))); intro w35 hw; replace BK202 : Aside0 (w35.heap[gb202]? = some (.cells #[.string ((rd_T80 l0 x9_1).f0), .int .i64 ((rd_T80 l0 x9_1).f1), .int .i64 ((rd_T80 l0 x9_1).f2)] 80 (0, 0))) := ⟨(by rw [hw]; exact (by refine bU ?_; refine blk_put (cs := #[.string ((rd_T80 l0 x9_1).f0), .int .i64 ((rd_T80 l0 x9_1).f1), .int .i64 0]) ?_ 2 _ rfl; refine bU ?_; refine blk_put (cs := #[.string ((rd_T80 l0 x9_1).f0), .int .i64 0, .int .i64 0]) ?_ 1 _ rfl; refine bU ?_; refine blk_put (cs := #[.string (⟨#[]⟩ : ByteArray), .int .i64 0, .int .i64 0]) ?_ 0 _ rfl; refine bU ?_; exact BK202.out))⟩; replace HB : Aside0 (Below w.heap.size w w35) := ⟨(by rw [hw]; exact (lV1 GE202))⟩; clear hw; have hcz36_0 := cz BK202 0 (.string ((rd_T80 l0 x9_1).f0)); have hcz36_1 := cz BK202 1 (.int .i64 ((rd_T80 l0 x9_1).f1)); have hcz36_2 := cz BK202 2 (.int .i64 ((rd_T80 l0 x9_1).f2)); have hfz36_0 := fz BK202 0; have hfz36_1 := fz BK202 1; have hfz36_2 := fz BK202 2) | (go_at_call 67; (with_reducible refine (impl_GoodName.calls k1 ((rd_T80 l0 x9_1).f0) true _ A6.out).mono ?_); rintro e w' ⟨rfl, ⟨nd, rfl⟩⟩; (try first | exact ⟨rfl, _, World.drewN_drewN _ _ _⟩ | exact ⟨rfl, _, Eq.trans (World.drewN_drewN _ _ _) (congrArg (World.drewN _) (Nat.add_assoc _ _ _))⟩)) | (go_at_call 36; (with_reducible refine (impl_inRange.calls ((rd_T80 l0 x9_1).f2) 0 a1 false _ A27.out).mono ?_); rintro e w' ⟨rfl, ⟨nd, rfl⟩⟩; (try first | exact ⟨rfl, _, World.drewN_drewN _ _ _⟩ | exact ⟨rfl, _, Eq.trans (World.drewN_drewN _ _ _) (congrArg (World.drewN _) (Nat.add_assoc _ _ _))⟩))))
         go_ret
         exact ⟨eE, lV1 GE202⟩
      ·replace c7 := Bool.eq_false_iff.mpr c7
       subst c7
       have H1 : (some false) = some r := by rw [if_neg (show ¬ (false = true) by decide)] at H; exact H
       clear H
       have H := H1
       clear H1
       obtain rfl := Option.some.inj H
       have p201 : 0 ≤ (x9_1 : Int) := of_decide_eq_true hE
       have q201 : x9_1 < (l0.length : Int) := of_decide_eq_true hE
       obtain ⟨ad201, e201, hx201_0, hx201_1, hx201_2⟩ := at_T80 HR0.out x9_1 p201 q201
       cases e201
       replace hx201_0 := (HB.out.cell (World.block_lt_of_cell? w _ hx201_0)).trans hx201_0
       replace hx201_1 := (HB.out.cell (World.block_lt_of_cell? w _ hx201_1)).trans hx201_1
       replace hx201_2 := (HB.out.cell (World.block_lt_of_cell? w _ hx201_2)).trans hx201_2
       replace p201 := eq_true p201
       replace q201 := eq_true q201
       go_wp2_with (first | ((with_reducible refine gate_dst (N := 6) rfl ?_); refine box_event rfl (N := 6) rfl (cs := #[.string (⟨#[]⟩ : ByteArray), .int .i64 0, .int .i64 0]) (t := 80) sE ?_; intro gb202 hg w37 hbox hb; have BK202 := Aside0.mk hbox; have GW202 := gS w hg (lU); have GE202 := gS w hg (lU); replace HB := bH (lU) hb; clear hb hbox hg; have hcz38_0 := cz BK202 0 (.string (⟨#[]⟩ : ByteArray)); have hcz38_1 := cz BK202 1 (.int .i64 0); have hcz38_2 := cz BK202 2 (.int .i64 0); have hfz38_0 := fz BK202 0; have hfz38_1 := fz BK202 1; have hfz38_2 := fz BK202 2) | ((with_reducible refine gate_store (t := 80) (p := 6) rfl ?_); (try (rw [drewN_self w37]; generalize hq_ : World.drewN w37 _ = w37; replace BK202 := Aside0.mk (blk_at hq_ BK202.out); replace HB := Aside0.mk (below_at hq_ HB.out); clear hq_)); refine store_event (t := 80) (p := 6) (v := ?vo_w39) (w1 := (((w37.setCell ⟨gb202, 0, none⟩ (.string ((rd_T80 l0 x9_1).f0))).setCell ⟨gb202, 1, none⟩ (.int .i64 ((rd_T80 l0 x9_1).f1))).setCell ⟨gb202, 2, none⟩ (.int .i64 ((rd_T80 l0 x9_1).f2)))) ?hg ?ho ?hn ?hr ?_; (case ho => rfl); (case hg => rfl); (case hn => rfl); (case hr => first | (go_simp; done) | (go_simp; rfl) | (have hq0_ := (blk_cell BK202.out 0).trans (show _ = some _ from rfl); have hf0_ := blk_frozen BK202.out 0; have hq1_ := (blk_cell BK202.out 1).trans (show _ = some _ from rfl); have hf1_ := blk_frozen BK202.out 1; have hq2_ := (blk_cell BK202.out 2).trans (show _ = some _ from rfl); have hf2_ := blk_frozen BK202.out 2; first | (go_simp; done) | (go_simp; rfl))); intro w39 hw; replace BK202 : Aside0 (w39.heap[gb202]? = some (.cells #[.string ((rd_T80 l0 x9_1).f0), .int .i64 ((rd_T80 l0 x9_1).f1), .int .i64 ((rd_T80 l0 x9_1).f2)] 80 (0, 0))) := ⟨(by rw [hw]; exact (by refine bU ?_; refine blk_put (cs := #[.string ((rd_T80 l0 x9_1).f0), .int .i64 ((rd_T80 l0 x9_1).f1), .int .i64 0]) ?_ 2 _ rfl; refine bU ?_; refine blk_put (cs := #[.string ((rd_T80 l0 x9_1).f0), .int .i64 0, .int .i64 0]) ?_ 1 _ rfl; refine bU ?_; refine blk_put (cs := #[.string (⟨#[]⟩ : ByteArray), .int .i64 0, .int .i64 0]) ?_ 0 _ rfl; refine bU ?_; exact BK202.out))⟩; replace HB : Aside0 (Below w.heap.size w w39) := ⟨(by rw [hw]; exact (lV1 GE202))⟩; clear hw; have hcz40_0 := cz BK202 0 (.string ((rd_T80 l0 x9_1).f0)); have hcz40_1 := cz BK202 1 (.int .i64 ((rd_T80 l0 x9_1).f1)); have hcz40_2 := cz BK202 2 (.int .i64 ((rd_T80 l0 x9_1).f2)); have hfz40_0 := fz BK202 0; have hfz40_1 := fz BK202 1; have hfz40_2 := fz BK202 2) | (go_at_call 67; (with_reducible refine (impl_GoodName.calls k1 ((rd_T80 l0 x9_1).f0) false _ A6.out).mono ?_); rintro e w' ⟨rfl, ⟨nd, rfl⟩⟩; (try first | exact ⟨rfl, _, World.drewN_drewN _ _ _⟩ | exact ⟨rfl, _, Eq.trans (World.drewN_drewN _ _ _) (congrArg (World.drewN _) (Nat.add_assoc _ _ _))⟩)))
       repeat (go_quiet (first | ((with_reducible refine gate_dst (N := 6) rfl ?_); refine box_event rfl (N := 6) rfl (cs := #[.string (⟨#[]⟩ : ByteArray), .int .i64 0, .int .i64 0]) (t := 80) sE ?_; intro gb202 hg w37 hbox hb; have BK202 := Aside0.mk hbox; have GW202 := gS w hg (lU); have GE202 := gS w hg (lU); replace HB := bH (lU) hb; clear hb hbox hg; have hcz38_0 := cz BK202 0 (.string (⟨#[]⟩ : ByteArray)); have hcz38_1 := cz BK202 1 (.int .i64 0); have hcz38_2 := cz BK202 2 (.int .i64 0); have hfz38_0 := fz BK202 0; have hfz38_1 := fz BK202 1; have hfz38_2 := fz BK202 2) | ((with_reducible refine gate_store (t := 80) (p := 6) rfl ?_); (try (rw [drewN_self w37]; generalize hq_ : World.drewN w37 _ = w37; replace BK202 := Aside0.mk (blk_at hq_ BK202.out); replace HB := Aside0.mk (below_at hq_ HB.out); clear hq_)); refine store_event (t := 80) (p := 6) (v := ?vo_w39) (w1 := (((w37.setCell ⟨gb202, 0, none⟩ (.string ((rd_T80 l0 x9_1).f0))).setCell ⟨gb202, 1, none⟩ (.int .i64 ((rd_T80 l0 x9_1).f1))).setCell ⟨gb202, 2, none⟩ (.int .i64 ((rd_T80 l0 x9_1).f2)))) ?hg ?ho ?hn ?hr ?_; (case ho => rfl); (case hg => rfl); (case hn => rfl); (case hr => first | (go_simp; done) | (go_simp; rfl) | (have hq0_ := (blk_cell BK202.out 0).trans (show _ = some _ from rfl); have hf0_ := blk_frozen BK202.out 0; have hq1_ := (blk_cell BK202.out 1).trans (show _ = some _ from rfl); have hf1_ := blk_frozen BK202.out 1; have hq2_ := (blk_cell BK202.out 2).trans (show _ = some _ from rfl); have hf2_ := blk_frozen BK202.out 2; first | (go_simp; done) | (go_simp; rfl))); intro w39 hw; replace BK202 : Aside0 (w39.heap[gb202]? = some (.cells #[.string ((rd_T80 l0 x9_1).f0), .int .i64 ((rd_T80 l0 x9_1).f1), .int .i64 ((rd_T80 l0 x9_1).f2)] 80 (0, 0))) := ⟨(by rw [hw]; exact (by refine bU ?_; refine blk_put (cs := #[.string ((rd_T80 l0 x9_1).f0), .int .i64 ((rd_T80 l0 x9_1).f1), .int .i64 0]) ?_ 2 _ rfl; refine bU ?_; refine blk_put (cs := #[.string ((rd_T80 l0 x9_1).f0), .int .i64 0, .int .i64 0]) ?_ 1 _ rfl; refine bU ?_; refine blk_put (cs := #[.string (⟨#[]⟩ : ByteArray), .int .i64 0, .int .i64 0]) ?_ 0 _ rfl; refine bU ?_; exact BK202.out))⟩; replace HB : Aside0 (Below w.heap.size w w39) := ⟨(by rw [hw]; exact (lV1 GE202))⟩; clear hw; have hcz40_0 := cz BK202 0 (.string ((rd_T80 l0 x9_1).f0)); have hcz40_1 := cz BK202 1 (.int .i64 ((rd_T80 l0 x9_1).f1)); have hcz40_2 := cz BK202 2 (.int .i64 ((rd_T80 l0 x9_1).f2)); have hfz40_0 := fz BK202 0; have hfz40_1 := fz BK202 1; have hfz40_2 := fz BK202 2) | (go_at_call 67; (with_reducible refine (impl_GoodName.calls k1 ((rd_T80 l0 x9_1).f0) false _ A6.out).mono ?_); rintro e w' ⟨rfl, ⟨nd, rfl⟩⟩; (try first | exact ⟨rfl, _, World.drewN_drewN _ _ _⟩ | exact ⟨rfl, _, Eq.trans (World.drewN_drewN _ _ _) (congrArg (World.drewN _) (Nat.add_assoc _ _ _))⟩))); try go_wp2_with (first | ((with_reducible refine gate_dst (N := 6) rfl ?_); refine box_event rfl (N := 6) rfl (cs := #[.string (⟨#[]⟩ : ByteArray), .int .i64 0, .int .i64 0]) (t := 80) sE ?_; intro gb202 hg w37 hbox hb; have BK202 := Aside0.mk hbox; have GW202 := gS w hg (lU); have GE202 := gS w hg (lU); replace HB := bH (lU) hb; clear hb hbox hg; have hcz38_0 := cz BK202 0 (.string (⟨#[]⟩ : ByteArray)); have hcz38_1 := cz BK202 1 (.int .i64 0); have hcz38_2 := cz BK202 2 (.int .i64 0); have hfz38_0 := fz BK202 0; have hfz38_1 := fz BK202 1; have hfz38_2 := fz BK202 2) | ((with_reducible refine gate_store (t := 80) (p := 6) rfl ?_); (try (rw [drewN_self w37]; generalize hq_ : World.drewN w37 _ = w37; replace BK202 := Aside0.mk (blk_at hq_ BK202.out); replace HB := Aside0.mk (below_at hq_ HB.out); clear hq_)); refine store_event (t := 80) (p := 6) (v := ?vo_w39) (w1 := (((w37.setCell ⟨gb202, 0, none⟩ (.string ((rd_T80 l0 x9_1).f0))).setCell ⟨gb202, 1, none⟩ (.int .i64 ((rd_T80 l0 x9_1).f1))).setCell ⟨gb202, 2, none⟩ (.int .i64 ((rd_T80 l0 x9_1).f2)))) ?hg ?ho ?hn ?hr ?_; (case ho => rfl); (case hg => rfl); (case hn => rfl); (case hr => first | (go_simp; done) | (go_simp; rfl) | (have hq0_ := (blk_cell BK202.out 0).trans (show _ = some _ from rfl); have hf0_ := blk_frozen BK202.out 0; have hq1_ := (blk_cell BK202.out 1).trans (show _ = some _ from rfl); have hf1_ := blk_frozen BK202.out 1; have hq2_ := (blk_cell BK202.out 2).trans (show _ = some _ from rfl); have hf2_ := blk_frozen BK202.out 2; first | (go_simp; done) | (go_simp; rfl))); intro w39 hw; replace BK202 : Aside0 (w39.heap[gb202]? = some (.cells #[.string ((rd_T80 l0 x9_1).f0), .int .i64 ((rd_T80 l0 x9_1).f1), .int .i64 ((rd_T80 l0 x9_1).f2)] 80 (0, 0))) := ⟨(by rw [hw]; exact (by refine bU ?_; refine blk_put (cs := #[.string ((rd_T80 l0 x9_1).f0), .int .i64 ((rd_T80 l0 x9_1).f1), .int .i64 0]) ?_ 2 _ rfl; refine bU ?_; refine blk_put (cs := #[.string ((rd_T80 l0 x9_1).f0), .int .i64 0, .int .i64 0]) ?_ 1 _ rfl; refine bU ?_; refine blk_put (cs := #[.string (⟨#[]⟩ : ByteArray), .int .i64 0, .int .i64 0]) ?_ 0 _ rfl; refine bU ?_; exact BK202.out))⟩; replace HB : Aside0 (Below w.heap.size w w39) := ⟨(by rw [hw]; exact (lV1 GE202))⟩; clear hw; have hcz40_0 := cz BK202 0 (.string ((rd_T80 l0 x9_1).f0)); have hcz40_1 := cz BK202 1 (.int .i64 ((rd_T80 l0 x9_1).f1)); have hcz40_2 := cz BK202 2 (.int .i64 ((rd_T80 l0 x9_1).f2)); have hfz40_0 := fz BK202 0; have hfz40_1 := fz BK202 1; have hfz40_2 := fz BK202 2) | (go_at_call 67; (with_reducible refine (impl_GoodName.calls k1 ((rd_T80 l0 x9_1).f0) false _ A6.out).mono ?_); rintro e w' ⟨rfl, ⟨nd, rfl⟩⟩; (try first | exact ⟨rfl, _, World.drewN_drewN _ _ _⟩ | exact ⟨rfl, _, Eq.trans (World.drewN_drewN _ _ _) (congrArg (World.drewN _) (Nat.add_assoc _ _ _))⟩))))
       go_ret
       exact ⟨eE, lV1 GE202⟩
     ·rw [if_neg c5] at H
      exact absurd H (by simp)
    ·rw [if_neg c4] at H
     exact absurd H (by simp)
   ·rw [if_neg c3] at H
    have c3b0 : decide (x9_1 < (l0.length : Int)) = false := decide_eq_false c3
    clear c3
    obtain rfl := Option.some.inj H
    go_wp2
    repeat (go_quiet (fail); try go_wp2)
    go_ret
    exact ⟨eE, lU⟩
end Go.Proofs.Ytcpodjegdpbalaa.PFnExactQueryWorld
namespace Go.Proofs.Ytcpodjegdpbalaa.PFnExactQueryWorld
open Go.RowKit Go.Proofs.YtcpodjegdpbalaaW.PrintWords Go.Proofs.YtcpodjegdpbalaaW.PrintLast Go.Proofs.YtcpodjegdpbalaaW.PrintMore
attribute [local go_sem] max2_int min2_int max_two min_two max_three min_three max_four min_four   -- for this text's walks alone
set_option linter.unusedVariables false
set_option linter.unusedSimpArgs false
def impl_GoodWorld.l0 : Nat → List (S77) → Int → Int → Int → Int → List (S77) → Option (Bool)
 | 0, _, _, _, _, _, _ => none
 | k + 1, x6, x7, x8, x208000, x208001, x208002 => if x8 < x7 then (if 0 ≤ x8 then (if x8 < (x6.length : Int) then ((impl_inRange.f ((rd_T77 x6 x8).f0) 1 (wrap64 (x208000 - 1))).bind fun t212 => (if t212 = true then (if x8 > 0 then (if 0 ≤ (wrap64 (x8 - 1)) then (if (wrap64 (x8 - 1)) < (x208002.length : Int) then (if ((rd_T77 x208002 (wrap64 (x8 - 1))).f0) ≥ ((rd_T77 x6 x8).f0) then (some false) else ((impl_areParts.f k ((rd_T77 x6 x8).f1) x208001).bind fun t214 => (if t214 = true then (impl_GoodWorld.l0 k x6 x7 (wrap64 (x8 + 1)) x208000 x208001 x208002) else (some false)))) else (none)) else (none)) else ((impl_areParts.f k ((rd_T77 x6 x8).f1) x208001).bind fun t215 => (if t215 = true then (impl_GoodWorld.l0 k x6 x7 (wrap64 (x8 + 1)) x208000 x208001 x208002) else (some false)))) else (some false))) else (none)) else (none)) else ((impl_inRange.f x208000 1 1000000).bind fun t208 => (if t208 = true then ((impl_inRange.f x208001 0 1000000).bind fun t209 => (if t209 = true then (some (decide ((x208002.length : Int) ≤ 60))) else (some false))) else (some false)))
def impl_GoodWorld.f (k : Nat) (a0_0 : Int) (a0_1 : Int) (l0_2 : List (S77)) : Option (Bool) := impl_GoodWorld.l0 k l0_2 (l0_2.length : Int) 0 a0_0 a0_1 l0_2
theorem impl_GoodWorld.mono_l : ∀ k, (∀ y0 y1 y2 y3 y4 y5, LeO (impl_GoodWorld.l0 k y0 y1 y2 y3 y4 y5) (impl_GoodWorld.l0 (k + 1) y0 y1 y2 y3 y4 y5))
 | 0 => fun _ _ _ _ _ _ r h => by simp [impl_GoodWorld.l0] at h
 | k + 1 => by
  have ih0 := impl_GoodWorld.mono_l k
  ·intro y0 y1 y2 y3 y4 y5
   unfold impl_GoodWorld.l0
   repeat' first
   | (with_reducible exact ih0 _ _ _ _ _ _)
   | (with_reducible exact impl_areParts.mono _ _ _)
   | (with_reducible exact LeO.refl _)
   | (with_reducible exact LeO.none _)
   | (with_reducible refine LeO.ite ?_ ?_)
   | (with_reducible refine LeO.bind ?_ (fun _ => ?_))
   | exact ih0 _ _ _ _ _ _
   | exact impl_areParts.mono _ _ _
   | exact LeO.none _
   | refine LeO.ite ?_ ?_
   | refine LeO.bind ?_ (fun _ => ?_)
theorem impl_GoodWorld.mono : ∀ a0 a1 a2 k, LeO (impl_GoodWorld.f k a0 a1 a2) (impl_GoodWorld.f (k + 1) a0 a1 a2) := by
 intro a0 a1 a2 k
 have ih0 := impl_GoodWorld.mono_l k
 unfold impl_GoodWorld.f
 repeat' first
   | (with_reducible exact ih0 _ _ _ _ _ _)
   | (with_reducible exact impl_areParts.mono _ _ _)
   | (with_reducible exact LeO.refl _)
   | (with_reducible exact LeO.none _)
   | (with_reducible refine LeO.ite ?_ ?_)
   | (with_reducible refine LeO.bind ?_ (fun _ => ?_))
   | exact ih0 _ _ _ _ _ _
   | exact impl_areParts.mono _ _ _
   | exact LeO.none _
   | refine LeO.ite ?_ ?_
   | refine LeO.bind ?_ (fun _ => ?_)
def impl_GoodWorld.T4 : Bool × List (List Nat × List Nat) := (true, [([], []), ([0], [0]), ([], []), ([2], [2]), ([3], [3]), ([1, 4], [1, 4]), ([5], [5]), ([6, 5], [6]), ([7], [7]), ([8, 7], [7, 8]), ([9, 7, 7], [7, 9]), ([10], [10]), ([11, 10], [10, 11]), ([10], [10]), ([13, 10], [10, 13]), ([12, 14, 10], [10, 12, 14]), ([15, 10], [10, 15]), ([16, 10], [10, 16]), ([10], [10]), ([18, 10], [10, 18]), ([17, 19, 10], [10, 17, 19]), ([10, 20, 7], [7, 10, 20]), ([7, 21], [7, 21]), ([22, 10], [22]), ([23], [23]), ([24, 23], [23, 24]), ([23], [23]), ([26, 23], [23, 26]), ([25, 27, 23, 23], [23, 25, 27]), ([28, 23], [23, 28]), ([23, 29], [23, 29])])
def impl_GoodWorld.B4 : List Nat := [0, 1, 0, 4, 12, 31, 63, 127, 255, 511, 1023, 2047, 4095, 2047, 10239, 32767, 65535, 131071, 2047, 264191, 1048575, 2097151, 4194303, 8388607, 16777215, 33554431, 16777215, 83886079, 268435455, 536870911, 1073741823]
theorem impl_GoodWorld.tab4 : rtab .any (opsOf Try.f46 4) = impl_GoodWorld.T4 := by kernel_rfl
theorem impl_GoodWorld.bits4 : waitsOk impl_GoodWorld.T4.2 impl_GoodWorld.B4 = true := by kernel_rfl
set_option maxHeartbeats 8000000 in
set_option maxRecDepth 100000 in
theorem impl_GoodWorld.calls (k : Nat) (a0_0 : Int) (a0_1 : Int) (A0_2 : Option Addr) (c0_2 : Nat) (l0_2 : List (S77)) (r : Bool) (w : World) (hr0_2 : Kd.C k77 w A0_2 l0_2.length l0_2) (hc0_2 : l0_2.length ≤ c0_2) (h : impl_GoodWorld.f k a0_0 a0_1 l0_2 = some r) :
  Calls Try.prog 46 #[.agg #[.int .i64 a0_0, .int .i64 a0_1, .slice A0_2 l0_2.length c0_2]] w fun e w' => e = .returned (.bool r) ∧ Below w.heap.size w w' := by
 have hu50 := Try.underlying50
 have hu77 := Try.underlying77
 have HR0_2 := Aside0.mk hr0_2
 have HC0_2 := Aside0.mk hc0_2
 clear hr0_2 hc0_2
 have HB := Aside0.mk (Below.refl w.heap.size w)
 have H : (impl_GoodWorld.l0 k l0_2 (l0_2.length : Int) 0 a0_0 a0_1 l0_2) = some r := h
 clear h
 have H' := Aside0.mk H
 clear H
 go_enter Try.func46, Try.ntmps46
 go_wp2_with (first | ((with_reducible refine gate_dst (N := 1) rfl ?_); (try (refine gate_guard (by rfl) ?_; dsimp only)); refine box_event rfl (N := 1) rfl (cs := #[.int .i64 a0_0, .int .i64 a0_1, .slice A0_2 l0_2.length c0_2]) (t := 50) sE ?_; intro gb207 hg w2 hbox hb; have BK207 := Aside0.mk hbox; have GW207 := gS w hg (lU); have GE207 := gS w hg (lU); replace HB := bH (lU) hb; clear hb hbox hg; have hcz3_0 := cz BK207 0 (.int .i64 a0_0); have hcz3_1 := cz BK207 1 (.int .i64 a0_1); have hcz3_2 := cz BK207 2 (.slice A0_2 l0_2.length c0_2); have hfz3_0 := fz BK207 0; have hfz3_1 := fz BK207 1; have hfz3_2 := fz BK207 2))
 (try simp only [Act.put, List.setIfInBounds_toArray, List.set_cons_zero, List.set_cons_succ])
 go_loopg [8] k (fun kq v8 w' => ∃ (x8_1 : Int), v8 = .int .i64 x8_1 ∧ Aside0 (impl_GoodWorld.l0 kq l0_2 (l0_2.length : Int) x8_1 a0_0 a0_1 l0_2 = some r) ∧ Aside0 (kq ≤ k) ∧ Aside0 (w'.heap[gb207]? = some (.cells #[.int .i64 a0_0, .int .i64 a0_1, (.slice A0_2 l0_2.length c0_2)] 50 (0, 0))) ∧ Aside0 (Below w.heap.size w w'))
 case atStart => exact ⟨(0), tE, H', ⟨Nat.le_refl _⟩, ⟨by refine bU ?_; exact BK207.out⟩, ⟨by repeat (first | (with_reducible first | exact HB.out | apply below_alloc | apply pw_below_drewN | apply below_drew1 | refine below_set ?_ GE207.out) | exact HB.out)⟩⟩
 case round =>
  clear H'
  try clear p2
  try clear hcz3_0
  try clear hcz3_1
  try clear hcz3_2
  try clear hfz3_0
  try clear hfz3_1
  try clear hfz3_2
  obtain ⟨x8_1, rfl, HA, HK1, BK207, HB⟩ := hrel
  cases gk with
  | zero => exact absurd HA.out (by simp [impl_GoodWorld.l0])
  | succ k1 =>
   have H := HA.out
   clear HA
   simp only [impl_GoodWorld.l0] at H
   by_cases c4 : x8_1 < (l0_2.length : Int)
   ·rw [if_pos c4] at H
    have c4b0 : decide (x8_1 < (l0_2.length : Int)) = true := decide_eq_true c4
    clear c4
    by_cases c5 : 0 ≤ x8_1
    ·rw [if_pos c5] at H
     have c5b0 : decide (0 ≤ x8_1) = true := decide_eq_true c5
     clear c5
     by_cases c6 : x8_1 < (l0_2.length : Int)
     ·rw [if_pos c6] at H
      have c6b0 : decide (x8_1 < (l0_2.length : Int)) = true := decide_eq_true c6
      clear c6
      replace H := Option.bind_eq_some_iff.mp H
      obtain ⟨t212, A70, H⟩ := H
      replace H : (if t212 = true then (if x8_1 > 0 then (if 0 ≤ (wrap64 (x8_1 - 1)) then (if (wrap64 (x8_1 - 1)) < (l0_2.length : Int) then (if ((rd_T77 l0_2 (wrap64 (x8_1 - 1))).f0) ≥ ((rd_T77 l0_2 x8_1).f0) then (some false) else ((impl_areParts.f k1 ((rd_T77 l0_2 x8_1).f1) a0_1).bind fun t214 => (if t214 = true then (impl_GoodWorld.l0 k1 l0_2 (l0_2.length : Int) (wrap64 (x8_1 + 1)) a0_0 a0_1 l0_2) else (some false)))) else (none)) else (none)) else ((impl_areParts.f k1 ((rd_T77 l0_2 x8_1).f1) a0_1).bind fun t215 => (if t215 = true then (impl_GoodWorld.l0 k1 l0_2 (l0_2.length : Int) (wrap64 (x8_1 + 1)) a0_0 a0_1 l0_2) else (some false)))) else (some false)) = some r := H
      have A7 := Aside0.mk A70
      clear A70
      by_cases c8 : t212 = true
      ·subst c8
       have H1 : (if x8_1 > 0 then (if 0 ≤ (wrap64 (x8_1 - 1)) then (if (wrap64 (x8_1 - 1)) < (l0_2.length : Int) then (if ((rd_T77 l0_2 (wrap64 (x8_1 - 1))).f0) ≥ ((rd_T77 l0_2 x8_1).f0) then (some false) else ((impl_areParts.f k1 ((rd_T77 l0_2 x8_1).f1) a0_1).bind fun t214 => (if t214 = true then (impl_GoodWorld.l0 k1 l0_2 (l0_2.length : Int) (wrap64 (x8_1 + 1)) a0_0 a0_1 l0_2) else (some false)))) else (none)) else (none)) else ((impl_areParts.f k1 ((rd_T77 l0_2 x8_1).f1) a0_1).bind fun t215 => (if t215 = true then (impl_GoodWorld.l0 k1 l0_2 (l0_2.length : Int) (wrap64 (x8_1 + 1)) a0_0 a0_1 l0_2) else (some false)))) = some r := by rw [if_pos rfl] at H; exact H
       clear H
       have H := H1
       clear H1
       by_cases c9 : x8_1 > 0
       ·rw [if_pos c9] at H
        have c9b0 : decide (0 < x8_1) = true := decide_eq_true c9
        clear c9
        obtain ⟨ji10, hji10⟩ : ∃ j_ : Int, (wrap64 (x8_1 - 1)) = j_ := ⟨_, rfl⟩
        replace H : (if 0 ≤ (ji10) then (if (ji10) < (l0_2.length : Int) then (if ((rd_T77 l0_2 (ji10)).f0) ≥ ((rd_T77 l0_2 x8_1).f0) then (some false) else ((impl_areParts.f k1 ((rd_T77 l0_2 x8_1).f1) a0_1).bind fun t214 => (if t214 = true then (impl_GoodWorld.l0 k1 l0_2 (l0_2.length : Int) (wrap64 (x8_1 + 1)) a0_0 a0_1 l0_2) else (some false)))) else (none)) else (none)) = some r := by first | (rw [hji10] at H; exact H) | (simp only [hji10] at H ⊢; exact H)
        (try rw [hji10] at A7)
        have hji10w : (IntKind.i64.wrap (x8_1 - 1)) = ji10 := (i64_w _).trans hji10
        by_cases c11 : 0 ≤ (ji10)
        ·rw [if_pos c11] at H
         have c11b0 : decide (0 ≤ (ji10)) = true := decide_eq_true c11
         clear c11
         by_cases c12 : (ji10) < (l0_2.length : Int)
         ·rw [if_pos c12] at H
          have c12b0 : decide ((ji10) < (l0_2.length : Int)) = true := decide_eq_true c12
          clear c12
          by_cases c13 : ((rd_T77 l0_2 (ji10)).f0) ≥ ((rd_T77 l0_2 x8_1).f0)
          ·rw [if_pos c13] at H
           have c13b0 : decide (((rd_T77 l0_2 x8_1).f0) ≤ ((rd_T77 l0_2 (ji10)).f0)) = true := decide_eq_true c13
           clear c13
           obtain rfl := Option.some.inj H
           have p210 : 0 ≤ (x8_1 : Int) := of_decide_eq_true hE
           have q210 : x8_1 < (l0_2.length : Int) := of_decide_eq_true hE
           obtain ⟨ad210, A210_1, c210_1, e210, hx210_0, hx210_1, hl210_1, hi210_1⟩ := at_T77 HR0_2.out x8_1 p210 q210
           cases e210
           replace hx210_0 := (HB.out.cell (World.block_lt_of_cell? w _ hx210_0)).trans hx210_0
           replace hx210_1 := (HB.out.cell (World.block_lt_of_cell? w _ hx210_1)).trans hx210_1
           have HR210_1 := Aside0.mk hi210_1
           have HC210_1 := Aside0.mk hl210_1
           clear hi210_1 hl210_1
           replace p210 := eq_true p210
           replace q210 := eq_true q210
           try go_wp2_with (first | ((with_reducible refine gate_dst (N := 4) rfl ?_); (try (refine gate_guard (by rfl) ?_; dsimp only)); refine box_event rfl (N := 4) rfl (cs := #[.int .i64 0, .slice none 0 0]) (t := 77) sE ?_; intro gb211 hg w14 hbox hb; have BK211 := Aside0.mk hbox; have GW211 := gS w hg (lV1 GE207); have GE211 := gS w hg (lV1 GE207); replace HB := bH (lV1 GE207) hb; have NB207_211 := nL hg (bV BK207); have NB211_207 := nG hg (bV BK207); replace BK207 := bB (bV BK207) hb; clear hb hbox hg; have hnb15 := NB211_207.out; have hnc15 := NB207_211.out; have hcz16_0 := cz BK211 0 (.int .i64 0); have hcz16_1 := cz BK211 1 (.slice none 0 0); have hfz16_0 := fz BK211 0; have hfz16_1 := fz BK211 1) | ((with_reducible refine gate_store (t := 77) (p := 4) rfl ?_); refine store_event (t := 77) (p := 4) (v := ?vo_w17) (w1 := ((w14.setCell ⟨gb211, 0, none⟩ (.int .i64 ((rd_T77 l0_2 x8_1).f0))).setCell ⟨gb211, 1, none⟩ (.slice A210_1 ((rd_T77 l0_2 x8_1).f1).length c210_1))) ?hg ?ho ?hn ?hr ?_; (case ho => rfl); (case hg => rfl); (case hn => rfl); (case hr => first | (go_simp; done) | (go_simp; rfl) | (have hq0_ := (blk_cell BK211.out 0).trans (show _ = some _ from rfl); have hf0_ := blk_frozen BK211.out 0; have hq1_ := (blk_cell BK211.out 1).trans (show _ = some _ from rfl); have hf1_ := blk_frozen BK211.out 1; first | (go_simp; done) | (go_simp; rfl))); intro w17 hw; replace BK207 : Aside0 (w17.heap[gb207]? = some (.cells #[.int .i64 a0_0, .int .i64 a0_1, .slice (some ad210) l0_2.length c0_2] 50 (0, 0))) := ⟨(by rw [hw]; exact (bG NB207_211 BK207))⟩; replace BK211 : Aside0 (w17.heap[gb211]? = some (.cells #[.int .i64 ((rd_T77 l0_2 x8_1).f0), .slice A210_1 ((rd_T77 l0_2 x8_1).f1).length c210_1] 77 (0, 0))) := ⟨(by rw [hw]; exact (by refine bU ?_; refine blk_put (cs := #[.int .i64 ((rd_T77 l0_2 x8_1).f0), .slice none 0 0]) ?_ 1 _ rfl; refine bU ?_; refine blk_put (cs := #[.int .i64 0, .slice none 0 0]) ?_ 0 _ rfl; refine bU ?_; exact BK211.out))⟩; replace HB : Aside0 (Below w.heap.size w w17) := ⟨(by rw [hw]; exact (lV2 GE207 GE211))⟩; clear hw))
           replace BK207 := Aside0.mk (blk_drew BK207.out)
           replace BK211 := Aside0.mk (blk_drew BK211.out)
           replace HB := Aside0.mk (below_drew1 HB.out)
           have p213 : 0 ≤ ((ji10) : Int) := of_decide_eq_true hE
           have q213 : (ji10) < (l0_2.length : Int) := of_decide_eq_true hE
           obtain ⟨ad213, A213_1, c213_1, e213, hx213_0, hx213_1, hl213_1, hi213_1⟩ := at_T77 HR0_2.out (ji10) p213 q213
           have hw213_1 := hx213_1
           have hw213_0 := hx213_0
           obtain rfl : ad210 = ad213 := (by injection e213)
           replace hx213_0 := (HB.out.cell (World.block_lt_of_cell? w _ hx213_0)).trans hx213_0
           replace hx213_1 := (HB.out.cell (World.block_lt_of_cell? w _ hx213_1)).trans hx213_1
           have HR213_1 := Aside0.mk hi213_1
           have HC213_1 := Aside0.mk hl213_1
           clear hi213_1 hl213_1
           replace p213 := eq_true p213
           replace q213 := eq_true q213
           refine start_ (n := 31) (S := fun w' => w'.cell? ⟨gb211, 0, none⟩ = some (.int .i64 ((rd_T77 l0_2 x8_1).f0)) ∧ w'.cell? ⟨gb211, 1, none⟩ = some (.slice A210_1 ((rd_T77 l0_2 x8_1).f1).length c210_1) ∧ w'.cell? ⟨gb207, 0, none⟩ = some (.int .i64 a0_0) ∧ w'.cell? ⟨gb207, 1, none⟩ = some (.int .i64 a0_1) ∧ w'.cell? ⟨gb207, 2, none⟩ = some (.slice (some ad210) l0_2.length c0_2) ∧ w'.cell? (ad210.add (((ji10)).toNat * 2)) = some (.int .i64 ((rd_T77 l0_2 (ji10)).f0)) ∧ w'.cell? ⟨(ad210.add (((ji10)).toNat * 2)).block, (ad210.add (((ji10)).toNat * 2)).off + 1, none⟩ = some (.slice A213_1 ((rd_T77 l0_2 (ji10)).f1).length c213_1)) (ds := []) #[false, false, false, false, false, false, false, false, false, false, false, false, false, false, false, false, false, false, false, false, false, false, false, false, false, false, false, false, false, false, false] (by kernel_rfl) rfl rfl ⟨cz BK211 0 _, cz BK211 1 _, cz BK207 0 _, cz BK207 1 _, cz BK207 2 _, ((HB.out.cell (World.block_lt_of_cell? w _ hw213_0)).trans hw213_0), ((HB.out.cell (World.block_lt_of_cell? w _ hw213_1)).trans hw213_1)⟩ (fun hHeld => ?_); refine with_tabW impl_GoodWorld.tab4 impl_GoodWorld.bits4 (fun HT_ HW_ => ?_)
           generalize w17.drew = w18 at BK207 BK211 HB HR213_1 hx213_0 hx213_1 hHeld ⊢
           refine pureA 0 13 (bz 31 1) rfl rfl (any_of HT_.out (by kernel_rfl)) ?_
           refine pureA 2 15 (bz 31 5) rfl rfl (any_of HT_.out (by kernel_rfl)) ?_
           refine takeA 1 14 (bz 31 7) rfl rfl (take_ofW HT_.out HW_.out (by kernel_rfl)) hHeld (by rintro w' ⟨s0, s1, s2, s3, s4, s5, s6⟩; go_simp; with_reducible rfl) ?_
           refine takeA 3 16 (bz 31 15) rfl rfl (take_ofW HT_.out HW_.out (by kernel_rfl)) hHeld (by rintro w' ⟨s0, s1, s2, s3, s4, s5, s6⟩; go_simp; with_reducible rfl) ?_
           refine pureA 4 17 (bz 31 31) rfl rfl (any_of HT_.out (by kernel_rfl)) ?_
           refine one_ (i := 5) (N := some 18) (bz 31 63) rfl rfl (one_of HT_.out (by kernel_rfl)) (by decide) (fun K hK => ?_)
           refine goes_ Try.func36 (by kernel_rfl) rfl #[.int .i64 ((rd_T77 l0_2 x8_1).f0), .int .i64 1, .int .i64 (wrap64 (a0_0 - 1))] (by rfl) rfl rfl aE ?_
           with_reducible refine (impl_inRange.calls ((rd_T77 l0_2 x8_1).f0) 1 (wrap64 (a0_0 - 1)) true _ A7.out).mono ?_
           rintro e w' ⟨rfl, ⟨nd, rfl⟩⟩
           refine ⟨_, rfl, ?_⟩
           refine hK.out _ _ ⟨cz BK211 0 _, cz BK211 1 _, cz BK207 0 _, cz BK207 1 _, cz BK207 2 _, ((HB.out.cell (World.block_lt_of_cell? w _ hw213_0)).trans hw213_0), ((HB.out.cell (World.block_lt_of_cell? w _ hw213_1)).trans hw213_1)⟩ (fun hHeld => ?_)
           clear hK K
           refine norm_ (a' := ?_) ?_ ?_
           rotate_left
           ·show Act.put _ (some 18) _ = _
            simp only [Act.put, List.setIfInBounds_toArray, List.set_cons_zero, List.set_cons_succ, i64_w, i32_w]
            rfl
           refine pureA 6 19 (bz 31 127) rfl rfl (any_of HT_.out (by kernel_rfl)) ?_
           refine pureA 7 20 (bz 31 255) rfl rfl (any_of HT_.out (by kernel_rfl)) ?_
           refine pureA 8 21 (bz 31 511) rfl rfl (any_of HT_.out (by kernel_rfl)) ?_
           refine pureA 9 22 (bz 31 1023) rfl rfl (any_of HT_.out (by kernel_rfl)) ?_
           refine pureA 10 23 (bz 31 2047) rfl rfl (any_of HT_.out (by kernel_rfl)) ?_
           refine pureA 11 24 (bz 31 4095) rfl rfl (any_of HT_.out (by kernel_rfl)) ?_
           refine pureA 13 26 (bz 31 12287) rfl rfl (any_of HT_.out (by kernel_rfl)) ?_
           refine pureA 14 27 (bz 31 28671) rfl rfl (any_of HT_.out (by kernel_rfl)) ?_
           refine pureA 18 31 (bz 31 290815) rfl rfl (any_of HT_.out (by kernel_rfl)) ?_
           refine takeA 12 25 (bz 31 294911) rfl rfl (take_ofW HT_.out HW_.out (by kernel_rfl)) hHeld (by rintro w' ⟨s0, s1, s2, s3, s4, s5, s6⟩; go_simp; with_reducible rfl) ?_
           refine pureA 15 28 (bz 31 327679) rfl rfl (any_of HT_.out (by kernel_rfl)) ?_
           refine pureA 16 29 (bz 31 393215) rfl rfl (any_of HT_.out (by kernel_rfl)) ?_
           refine takeA 17 30 (bz 31 524287) rfl rfl (take_ofW HT_.out HW_.out (by kernel_rfl)) hHeld (by rintro w' ⟨s0, s1, s2, s3, s4, s5, s6⟩; go_simp; with_reducible rfl) ?_
           refine takeA 19 32 (bz 31 1048575) rfl rfl (take_ofW HT_.out HW_.out (by kernel_rfl)) hHeld (by rintro w' ⟨s0, s1, s2, s3, s4, s5, s6⟩; go_simp; with_reducible rfl) ?_
           refine pureA 20 33 (bz 31 2097151) rfl rfl (any_of HT_.out (by kernel_rfl)) ?_
           refine pureA 21 34 (bz 31 4194303) rfl rfl (any_of HT_.out (by kernel_rfl)) ?_
           refine pureA 22 35 (bz 31 8388607) rfl rfl (any_of HT_.out (by kernel_rfl)) ?_
           refine pureA 23 36 (bz 31 16777215) rfl rfl (any_of HT_.out (by kernel_rfl)) ?_
           refine pureU 24 37 (bz 31 33554431) rfl rfl (any_of HT_.out (by kernel_rfl)) ?_
           refine pureU 25 38 (bz 31 67108863) rfl rfl (any_of HT_.out (by kernel_rfl)) ?_
           refine pureU 26 39 (bz 31 134217727) rfl rfl (any_of HT_.out (by kernel_rfl)) ?_
           refine pureU 27 40 (bz 31 268435455) rfl rfl (any_of HT_.out (by kernel_rfl)) ?_
           refine pureU 28 41 (bz 31 536870911) rfl rfl (any_of HT_.out (by kernel_rfl)) ?_
           refine pureU 29 42 (bz 31 1073741823) rfl rfl (any_of HT_.out (by kernel_rfl)) ?_
           refine pureA 30 43 (bz 31 2147483647) rfl rfl (any_of HT_.out (by kernel_rfl)) ?_
           refine done_ (done_of HT_.out (by kernel_rfl)) ?_
           try go_wp2
           go_ret
           exact ⟨by first | rfl | (simp [errW_none, errW_some] <;> rfl) | (simp only [← hji10]; first | rfl | (simp [errW_none, errW_some] <;> rfl)) | (simp [*, errW_none, errW_some] <;> rfl), lV2 GE207 GE211⟩
          ·rw [if_neg c13] at H
           have c13b0 : decide (((rd_T77 l0_2 x8_1).f0) ≤ ((rd_T77 l0_2 (ji10)).f0)) = false := decide_eq_false c13
           clear c13
           replace H := Option.bind_eq_some_iff.mp H
           obtain ⟨t214, A190, H⟩ := H
           replace H : (if t214 = true then (impl_GoodWorld.l0 k1 l0_2 (l0_2.length : Int) (wrap64 (x8_1 + 1)) a0_0 a0_1 l0_2) else (some false)) = some r := H
           have A19 := Aside0.mk A190
           clear A190
           by_cases c20 : t214 = true
           ·subst c20
            have H1 : (impl_GoodWorld.l0 k1 l0_2 (l0_2.length : Int) (wrap64 (x8_1 + 1)) a0_0 a0_1 l0_2) = some r := by rw [if_pos rfl] at H; exact H
            clear H
            have H := H1
            clear H1
            have H' := Aside0.mk H
            clear H
            have p210 : 0 ≤ (x8_1 : Int) := of_decide_eq_true hE
            have q210 : x8_1 < (l0_2.length : Int) := of_decide_eq_true hE
            obtain ⟨ad210, A210_1, c210_1, e210, hx210_0, hx210_1, hl210_1, hi210_1⟩ := at_T77 HR0_2.out x8_1 p210 q210
            cases e210
            replace hx210_0 := (HB.out.cell (World.block_lt_of_cell? w _ hx210_0)).trans hx210_0
            replace hx210_1 := (HB.out.cell (World.block_lt_of_cell? w _ hx210_1)).trans hx210_1
            have HR210_1 := Aside0.mk hi210_1
            have HC210_1 := Aside0.mk hl210_1
            clear hi210_1 hl210_1
            replace p210 := eq_true p210
            replace q210 := eq_true q210
            try go_wp2_with (first | ((with_reducible refine gate_dst (N := 4) rfl ?_); (try (refine gate_guard (by rfl) ?_; dsimp only)); refine box_event rfl (N := 4) rfl (cs := #[.int .i64 0, .slice none 0 0]) (t := 77) sE ?_; intro gb211 hg w21 hbox hb; have BK211 := Aside0.mk hbox; have GW211 := gS w hg (lV1 GE207); have GE211 := gS w hg (lV1 GE207); replace HB := bH (lV1 GE207) hb; have NB207_211 := nL hg (bV BK207); have NB211_207 := nG hg (bV BK207); replace BK207 := bB (bV BK207) hb; clear hb hbox hg; have hnb22 := NB211_207.out; have hnc22 := NB207_211.out; have hcz23_0 := cz BK211 0 (.int .i64 0); have hcz23_1 := cz BK211 1 (.slice none 0 0); have hfz23_0 := fz BK211 0; have hfz23_1 := fz BK211 1) | ((with_reducible refine gate_store (t := 77) (p := 4) rfl ?_); refine store_event (t := 77) (p := 4) (v := ?vo_w24) (w1 := ((w21.setCell ⟨gb211, 0, none⟩ (.int .i64 ((rd_T77 l0_2 x8_1).f0))).setCell ⟨gb211, 1, none⟩ (.slice A210_1 ((rd_T77 l0_2 x8_1).f1).length c210_1))) ?hg ?ho ?hn ?hr ?_; (case ho => rfl); (case hg => rfl); (case hn => rfl); (case hr => first | (go_simp; done) | (go_simp; rfl) | (have hq0_ := (blk_cell BK211.out 0).trans (show _ = some _ from rfl); have hf0_ := blk_frozen BK211.out 0; have hq1_ := (blk_cell BK211.out 1).trans (show _ = some _ from rfl); have hf1_ := blk_frozen BK211.out 1; first | (go_simp; done) | (go_simp; rfl))); intro w24 hw; replace BK207 : Aside0 (w24.heap[gb207]? = some (.cells #[.int .i64 a0_0, .int .i64 a0_1, .slice (some ad210) l0_2.length c0_2] 50 (0, 0))) := ⟨(by rw [hw]; exact (bG NB207_211 BK207))⟩; replace BK211 : Aside0 (w24.heap[gb211]? = some (.cells #[.int .i64 ((rd_T77 l0_2 x8_1).f0), .slice A210_1 ((rd_T77 l0_2 x8_1).f1).length c210_1] 77 (0, 0))) := ⟨(by rw [hw]; exact (by refine bU ?_; refine blk_put (cs := #[.int .i64 ((rd_T77 l0_2 x8_1).f0), .slice none 0 0]) ?_ 1 _ rfl; refine bU ?_; refine blk_put (cs := #[.int .i64 0, .slice none 0 0]) ?_ 0 _ rfl; refine bU ?_; exact BK211.out))⟩; replace HB : Aside0 (Below w.heap.size w w24) := ⟨(by rw [hw]; exact (lV2 GE207 GE211))⟩; clear hw))
            replace BK207 := Aside0.mk (blk_drew BK207.out)
            replace BK211 := Aside0.mk (blk_drew BK211.out)
            replace HB := Aside0.mk (below_drew1 HB.out)
            have p213 : 0 ≤ ((ji10) : Int) := of_decide_eq_true hE
            have q213 : (ji10) < (l0_2.length : Int) := of_decide_eq_true hE
            obtain ⟨ad213, A213_1, c213_1, e213, hx213_0, hx213_1, hl213_1, hi213_1⟩ := at_T77 HR0_2.out (ji10) p213 q213
            have hw213_1 := hx213_1
            have hw213_0 := hx213_0
            obtain rfl : ad210 = ad213 := (by injection e213)
            replace hx213_0 := (HB.out.cell (World.block_lt_of_cell? w _ hx213_0)).trans hx213_0
            replace hx213_1 := (HB.out.cell (World.block_lt_of_cell? w _ hx213_1)).trans hx213_1
            have HR213_1 := Aside0.mk hi213_1
            have HC213_1 := Aside0.mk hl213_1
            clear hi213_1 hl213_1
            replace p213 := eq_true p213
            replace q213 := eq_true q213
            refine start_ (n := 31) (S := fun w' => w'.cell? ⟨gb211, 0, none⟩ = some (.int .i64 ((rd_T77 l0_2 x8_1).f0)) ∧ w'.cell? ⟨gb211, 1, none⟩ = some (.slice A210_1 ((rd_T77 l0_2 x8_1).f1).length c210_1) ∧ w'.cell? ⟨gb207, 0, none⟩ = some (.int .i64 a0_0) ∧ w'.cell? ⟨gb207, 1, none⟩ = some (.int .i64 a0_1) ∧ w'.cell? ⟨gb207, 2, none⟩ = some (.slice (some ad210) l0_2.length c0_2) ∧ w'.cell? (ad210.add (((ji10)).toNat * 2)) = some (.int .i64 ((rd_T77 l0_2 (ji10)).f0)) ∧ w'.cell? ⟨(ad210.add (((ji10)).toNat * 2)).block, (ad210.add (((ji10)).toNat * 2)).off + 1, none⟩ = some (.slice A213_1 ((rd_T77 l0_2 (ji10)).f1).length c213_1)) (ds := []) #[false, false, false, false, false, false, false, false, false, false, false, false, false, false, false, false, false, false, false, false, false, false, false, false, false, false, false, false, false, false, false] (by kernel_rfl) rfl rfl ⟨cz BK211 0 _, cz BK211 1 _, cz BK207 0 _, cz BK207 1 _, cz BK207 2 _, ((HB.out.cell (World.block_lt_of_cell? w _ hw213_0)).trans hw213_0), ((HB.out.cell (World.block_lt_of_cell? w _ hw213_1)).trans hw213_1)⟩ (fun hHeld => ?_); refine with_tabW impl_GoodWorld.tab4 impl_GoodWorld.bits4 (fun HT_ HW_ => ?_)
            generalize w24.drew = w25 at BK207 BK211 HB HR213_1 hx213_0 hx213_1 hHeld ⊢
            refine pureA 0 13 (bz 31 1) rfl rfl (any_of HT_.out (by kernel_rfl)) ?_
            refine pureA 2 15 (bz 31 5) rfl rfl (any_of HT_.out (by kernel_rfl)) ?_
            refine takeA 1 14 (bz 31 7) rfl rfl (take_ofW HT_.out HW_.out (by kernel_rfl)) hHeld (by rintro w' ⟨s0, s1, s2, s3, s4, s5, s6⟩; go_simp; with_reducible rfl) ?_
            refine takeA 3 16 (bz 31 15) rfl rfl (take_ofW HT_.out HW_.out (by kernel_rfl)) hHeld (by rintro w' ⟨s0, s1, s2, s3, s4, s5, s6⟩; go_simp; with_reducible rfl) ?_
            refine pureA 4 17 (bz 31 31) rfl rfl (any_of HT_.out (by kernel_rfl)) ?_
            refine one_ (i := 5) (N := some 18) (bz 31 63) rfl rfl (one_of HT_.out (by kernel_rfl)) (by decide) (fun K hK => ?_)
            refine goes_ Try.func36 (by kernel_rfl) rfl #[.int .i64 ((rd_T77 l0_2 x8_1).f0), .int .i64 1, .int .i64 (wrap64 (a0_0 - 1))] (by rfl) rfl rfl aE ?_
            with_reducible refine (impl_inRange.calls ((rd_T77 l0_2 x8_1).f0) 1 (wrap64 (a0_0 - 1)) true _ A7.out).mono ?_
            rintro e w' ⟨rfl, ⟨nd, rfl⟩⟩
            refine ⟨_, rfl, ?_⟩
            refine hK.out _ _ ⟨cz BK211 0 _, cz BK211 1 _, cz BK207 0 _, cz BK207 1 _, cz BK207 2 _, ((HB.out.cell (World.block_lt_of_cell? w _ hw213_0)).trans hw213_0), ((HB.out.cell (World.block_lt_of_cell? w _ hw213_1)).trans hw213_1)⟩ (fun hHeld => ?_)
            clear hK K
            refine norm_ (a' := ?_) ?_ ?_
            rotate_left
            ·show Act.put _ (some 18) _ = _
             simp only [Act.put, List.setIfInBounds_toArray, List.set_cons_zero, List.set_cons_succ, i64_w, i32_w]
             rfl
            refine pureA 6 19 (bz 31 127) rfl rfl (any_of HT_.out (by kernel_rfl)) ?_
            refine pureA 7 20 (bz 31 255) rfl rfl (any_of HT_.out (by kernel_rfl)) ?_
            refine pureA 8 21 (bz 31 511) rfl rfl (any_of HT_.out (by kernel_rfl)) ?_
            refine pureA 9 22 (bz 31 1023) rfl rfl (any_of HT_.out (by kernel_rfl)) ?_
            refine pureA 10 23 (bz 31 2047) rfl rfl (any_of HT_.out (by kernel_rfl)) ?_
            refine pureA 11 24 (bz 31 4095) rfl rfl (any_of HT_.out (by kernel_rfl)) ?_
            refine pureA 13 26 (bz 31 12287) rfl rfl (any_of HT_.out (by kernel_rfl)) ?_
            refine pureA 14 27 (bz 31 28671) rfl rfl (any_of HT_.out (by kernel_rfl)) ?_
            refine pureA 18 31 (bz 31 290815) rfl rfl (any_of HT_.out (by kernel_rfl)) ?_
            refine takeA 12 25 (bz 31 294911) rfl rfl (take_ofW HT_.out HW_.out (by kernel_rfl)) hHeld (by rintro w' ⟨s0, s1, s2, s3, s4, s5, s6⟩; go_simp; with_reducible rfl) ?_
            refine pureA 15 28 (bz 31 327679) rfl rfl (any_of HT_.out (by kernel_rfl)) ?_
            refine pureA 16 29 (bz 31 393215) rfl rfl (any_of HT_.out (by kernel_rfl)) ?_
            refine takeA 17 30 (bz 31 524287) rfl rfl (take_ofW HT_.out HW_.out (by kernel_rfl)) hHeld (by rintro w' ⟨s0, s1, s2, s3, s4, s5, s6⟩; go_simp; with_reducible rfl) ?_
            refine takeA 19 32 (bz 31 1048575) rfl rfl (take_ofW HT_.out HW_.out (by kernel_rfl)) hHeld (by rintro w' ⟨s0, s1, s2, s3, s4, s5, s6⟩; go_simp; with_reducible rfl) ?_
            refine pureA 20 33 (bz 31 2097151) rfl rfl (any_of HT_.out (by kernel_rfl)) ?_
            refine pureA 21 34 (bz 31 4194303) rfl rfl (any_of HT_.out (by kernel_rfl)) ?_
            refine pureA 22 35 (bz 31 8388607) rfl rfl (any_of HT_.out (by kernel_rfl)) ?_
            refine pureA 23 36 (bz 31 16777215) rfl rfl (any_of HT_.out (by kernel_rfl)) ?_
            refine pureA 24 37 (bz 31 33554431) rfl rfl (any_of HT_.out (by kernel_rfl)) ?_
            refine pureA 26 39 (bz 31 100663295) rfl rfl (any_of HT_.out (by kernel_rfl)) ?_
            refine takeA 25 38 (bz 31 134217727) rfl rfl (take_ofW HT_.out HW_.out (by kernel_rfl)) hHeld (by rintro w' ⟨s0, s1, s2, s3, s4, s5, s6⟩; go_simp; with_reducible rfl) ?_
            refine takeA 27 40 (bz 31 268435455) rfl rfl (take_ofW HT_.out HW_.out (by kernel_rfl)) hHeld (by rintro w' ⟨s0, s1, s2, s3, s4, s5, s6⟩; go_simp; with_reducible rfl) ?_
            refine one_ (i := 28) (N := some 41) (bz 31 536870911) rfl rfl (one_of HT_.out (by kernel_rfl)) (by decide) (fun K hK => ?_)
            refine goes_ Try.func57 (by kernel_rfl) rfl #[.slice A210_1 ((rd_T77 l0_2 x8_1).f1).length c210_1, .int .i64 a0_1] (by rfl) rfl rfl aE ?_
            with_reducible refine (impl_areParts.calls k1 _ _ ((rd_T77 l0_2 x8_1).f1) a0_1 true _ ?side1 ?side2 A19.out).mono ?_
            (case side1 => exact cU (Kd.C_below HR210_1.out (lV2 GE207 GE211)))
            (case side2 => exact HC210_1.out)
            rintro e w26 ⟨rfl, hb⟩
            refine ⟨_, rfl, ?_⟩
            replace BK207 := bB (bV BK207) hb
            replace BK211 := bB (bV BK211) hb
            replace HB := bH (lV2 GE207 GE211) hb
            (try clear hb)
            (try clear hb2)
            (try clear hk)
            (try clear hi)
            refine hK.out _ _ ⟨cz BK211 0 _, cz BK211 1 _, cz BK207 0 _, cz BK207 1 _, cz BK207 2 _, ((HB.out.cell (World.block_lt_of_cell? w _ hw213_0)).trans hw213_0), ((HB.out.cell (World.block_lt_of_cell? w _ hw213_1)).trans hw213_1)⟩ (fun hHeld => ?_)
            clear hK K
            refine norm_ (a' := ?_) ?_ ?_
            rotate_left
            ·show Act.put _ (some 41) _ = _
             simp only [Act.put, List.setIfInBounds_toArray, List.set_cons_zero, List.set_cons_succ, i64_w, i32_w]
             rfl
            refine pureA 29 42 (bz 31 1073741823) rfl rfl (any_of HT_.out (by kernel_rfl)) ?_
            refine pureA 30 43 (bz 31 2147483647) rfl rfl (any_of HT_.out (by kernel_rfl)) ?_
            refine done_ (done_of HT_.out (by kernel_rfl)) ?_
            try go_wp2
            go_roundg k1
            case measure => have := HK1.out; omega
            case rel => exact ⟨(wrap64 (x8_1 + 1)), tE, H', ⟨by have := HK1.out; omega⟩, ⟨by refine bU ?_; exact BK207.out⟩, ⟨by repeat (first | (with_reducible first | exact HB.out | apply below_alloc | apply pw_below_drewN | apply below_drew1 | refine below_set ?_ GE207.out | refine below_set ?_ GE211.out) | exact HB.out)⟩⟩
           ·replace c20 := Bool.eq_false_iff.mpr c20
            subst c20
            have H1 : (some false) = some r := by rw [if_neg (show ¬ (false = true) by decide)] at H; exact H
            clear H
            have H := H1
            clear H1
            obtain rfl := Option.some.inj H
            have p210 : 0 ≤ (x8_1 : Int) := of_decide_eq_true hE
            have q210 : x8_1 < (l0_2.length : Int) := of_decide_eq_true hE
            obtain ⟨ad210, A210_1, c210_1, e210, hx210_0, hx210_1, hl210_1, hi210_1⟩ := at_T77 HR0_2.out x8_1 p210 q210
            cases e210
            replace hx210_0 := (HB.out.cell (World.block_lt_of_cell? w _ hx210_0)).trans hx210_0
            replace hx210_1 := (HB.out.cell (World.block_lt_of_cell? w _ hx210_1)).trans hx210_1
            have HR210_1 := Aside0.mk hi210_1
            have HC210_1 := Aside0.mk hl210_1
            clear hi210_1 hl210_1
            replace p210 := eq_true p210
            replace q210 := eq_true q210
            try go_wp2_with (first | ((with_reducible refine gate_dst (N := 4) rfl ?_); (try (refine gate_guard (by rfl) ?_; dsimp only)); refine box_event rfl (N := 4) rfl (cs := #[.int .i64 0, .slice none 0 0]) (t := 77) sE ?_; intro gb211 hg w27 hbox hb; have BK211 := Aside0.mk hbox; have GW211 := gS w hg (lV1 GE207); have GE211 := gS w hg (lV1 GE207); replace HB := bH (lV1 GE207) hb; have NB207_211 := nL hg (bV BK207); have NB211_207 := nG hg (bV BK207); replace BK207 := bB (bV BK207) hb; clear hb hbox hg; have hnb28 := NB211_207.out; have hnc28 := NB207_211.out; have hcz29_0 := cz BK211 0 (.int .i64 0); have hcz29_1 := cz BK211 1 (.slice none 0 0); have hfz29_0 := fz BK211 0; have hfz29_1 := fz BK211 1) | ((with_reducible refine gate_store (t := 77) (p := 4) rfl ?_); refine store_event (t := 77) (p := 4) (v := ?vo_w30) (w1 := ((w27.setCell ⟨gb211, 0, none⟩ (.int .i64 ((rd_T77 l0_2 x8_1).f0))).setCell ⟨gb211, 1, none⟩ (.slice A210_1 ((rd_T77 l0_2 x8_1).f1).length c210_1))) ?hg ?ho ?hn ?hr ?_; (case ho => rfl); (case hg => rfl); (case hn => rfl); (case hr => first | (go_simp; done) | (go_simp; rfl) | (have hq0_ := (blk_cell BK211.out 0).trans (show _ = some _ from rfl); have hf0_ := blk_frozen BK211.out 0; have hq1_ := (blk_cell BK211.out 1).trans (show _ = some _ from rfl); have hf1_ := blk_frozen BK211.out 1; first | (go_simp; done) | (go_simp; rfl))); intro w30 hw; replace BK207 : Aside0 (w30.heap[gb207]? = some (.cells #[.int .i64 a0_0, .int .i64 a0_1, .slice (some ad210) l0_2.length c0_2] 50 (0, 0))) := ⟨(by rw [hw]; exact (bG NB207_211 BK207))⟩; replace BK211 : Aside0 (w30.heap[gb211]? = some (.cells #[.int .i64 ((rd_T77 l0_2 x8_1).f0), .slice A210_1 ((rd_T77 l0_2 x8_1).f1).length c210_1] 77 (0, 0))) := ⟨(by rw [hw]; exact (by refine bU ?_; refine blk_put (cs := #[.int .i64 ((rd_T77 l0_2 x8_1).f0), .slice none 0 0]) ?_ 1 _ rfl; refine bU ?_; refine blk_put (cs := #[.int .i64 0, .slice none 0 0]) ?_ 0 _ rfl; refine bU ?_; exact BK211.out))⟩; replace HB : Aside0 (Below w.heap.size w w30) := ⟨(by rw [hw]; exact (lV2 GE207 GE211))⟩; clear hw))
            replace BK207 := Aside0.mk (blk_drew BK207.out)
            replace BK211 := Aside0.mk (blk_drew BK211.out)
            replace HB := Aside0.mk (below_drew1 HB.out)
            have p213 : 0 ≤ ((ji10) : Int) := of_decide_eq_true hE
            have q213 : (ji10) < (l0_2.length : Int) := of_decide_eq_true hE
            obtain ⟨ad213, A213_1, c213_1, e213, hx213_0, hx213_1, hl213_1, hi213_1⟩ := at_T77 HR0_2.out (ji10) p213 q213
            have hw213_1 := hx213_1
            have hw213_0 := hx213_0
            obtain rfl : ad210 = ad213 := (by injection e213)
            replace hx213_0 := (HB.out.cell (World.block_lt_of_cell? w _ hx213_0)).trans hx213_0
            replace hx213_1 := (HB.out.cell (World.block_lt_of_cell? w _ hx213_1)).trans hx213_1
            have HR213_1 := Aside0.mk hi213_1
            have HC213_1 := Aside0.mk hl213_1
            clear hi213_1 hl213_1
            replace p213 := eq_true p213
            replace q213 := eq_true q213
            refine start_ (n := 31) (S := fun w' => w'.cell? ⟨gb211, 0, none⟩ = some (.int .i64 ((rd_T77 l0_2 x8_1).f0)) ∧ w'.cell? ⟨gb211, 1, none⟩ = some (.slice A210_1 ((rd_T77 l0_2 x8_1).f1).length c210_1) ∧ w'.cell? ⟨gb207, 0, none⟩ = some (.int .i64 a0_0) ∧ w'.cell? ⟨gb207, 1, none⟩ = some (.int .i64 a0_1) ∧ w'.cell? ⟨gb207, 2, none⟩ = some (.slice (some ad210) l0_2.length c0_2) ∧ w'.cell? (ad210.add (((ji10)).toNat * 2)) = some (.int .i64 ((rd_T77 l0_2 (ji10)).f0)) ∧ w'.cell? ⟨(ad210.add (((ji10)).toNat * 2)).block, (ad210.add (((ji10)).toNat * 2)).off + 1, none⟩ = some (.slice A213_1 ((rd_T77 l0_2 (ji10)).f1).length c213_1)) (ds := []) #[false, false, false, false, false, false, false, false, false, false, false, false, false, false, false, false, false, false, false, false, false, false, false, false, false, false, false, false, false, false, false] (by kernel_rfl) rfl rfl ⟨cz BK211 0 _, cz BK211 1 _, cz BK207 0 _, cz BK207 1 _, cz BK207 2 _, ((HB.out.cell (World.block_lt_of_cell? w _ hw213_0)).trans hw213_0), ((HB.out.cell (World.block_lt_of_cell? w _ hw213_1)).trans hw213_1)⟩ (fun hHeld => ?_); refine with_tabW impl_GoodWorld.tab4 impl_GoodWorld.bits4 (fun HT_ HW_ => ?_)
            generalize w30.drew = w31 at BK207 BK211 HB HR213_1 hx213_0 hx213_1 hHeld ⊢
            refine pureA 0 13 (bz 31 1) rfl rfl (any_of HT_.out (by kernel_rfl)) ?_
            refine pureA 2 15 (bz 31 5) rfl rfl (any_of HT_.out (by kernel_rfl)) ?_
            refine takeA 1 14 (bz 31 7) rfl rfl (take_ofW HT_.out HW_.out (by kernel_rfl)) hHeld (by rintro w' ⟨s0, s1, s2, s3, s4, s5, s6⟩; go_simp; with_reducible rfl) ?_
            refine takeA 3 16 (bz 31 15) rfl rfl (take_ofW HT_.out HW_.out (by kernel_rfl)) hHeld (by rintro w' ⟨s0, s1, s2, s3, s4, s5, s6⟩; go_simp; with_reducible rfl) ?_
            refine pureA 4 17 (bz 31 31) rfl rfl (any_of HT_.out (by kernel_rfl)) ?_
            refine one_ (i := 5) (N := some 18) (bz 31 63) rfl rfl (one_of HT_.out (by kernel_rfl)) (by decide) (fun K hK => ?_)
            refine goes_ Try.func36 (by kernel_rfl) rfl #[.int .i64 ((rd_T77 l0_2 x8_1).f0), .int .i64 1, .int .i64 (wrap64 (a0_0 - 1))] (by rfl) rfl rfl aE ?_
            with_reducible refine (impl_inRange.calls ((rd_T77 l0_2 x8_1).f0) 1 (wrap64 (a0_0 - 1)) true _ A7.out).mono ?_
            rintro e w' ⟨rfl, ⟨nd, rfl⟩⟩
            refine ⟨_, rfl, ?_⟩
            refine hK.out _ _ ⟨cz BK211 0 _, cz BK211 1 _, cz BK207 0 _, cz BK207 1 _, cz BK207 2 _, ((HB.out.cell (World.block_lt_of_cell? w _ hw213_0)).trans hw213_0), ((HB.out.cell (World.block_lt_of_cell? w _ hw213_1)).trans hw213_1)⟩ (fun hHeld => ?_)
            clear hK K
            refine norm_ (a' := ?_) ?_ ?_
            rotate_left
            ·show Act.put _ (some 18) _ = _
             simp only [Act.put, List.setIfInBounds_toArray, List.set_cons_zero, List.set_cons_succ, i64_w, i32_w]
             rfl
            refine pureA 6 19 (bz 31 127) rfl rfl (any_of HT_.out (by kernel_rfl)) ?_
            refine pureA 7 20 (bz 31 255) rfl rfl (any_of HT_.out (by kernel_rfl)) ?_
            refine pureA 8 21 (bz 31 511) rfl rfl (any_of HT_.out (by kernel_rfl)) ?_
            refine pureA 9 22 (bz 31 1023) rfl rfl (any_of HT_.out (by kernel_rfl)) ?_
            refine pureA 10 23 (bz 31 2047) rfl rfl (any_of HT_.out (by kernel_rfl)) ?_
            refine pureA 11 24 (bz 31 4095) rfl rfl (any_of HT_.out (by kernel_rfl)) ?_
            refine pureA 13 26 (bz 31 12287) rfl rfl (any_of HT_.out (by kernel_rfl)) ?_
            refine pureA 14 27 (bz 31 28671) rfl rfl (any_of HT_.out (by kernel_rfl)) ?_
            refine pureA 18 31 (bz 31 290815) rfl rfl (any_of HT_.out (by kernel_rfl)) ?_
            refine takeA 12 25 (bz 31 294911) rfl rfl (take_ofW HT_.out HW_.out (by kernel_rfl)) hHeld (by rintro w' ⟨s0, s1, s2, s3, s4, s5, s6⟩; go_simp; with_reducible rfl) ?_
            refine pureA 15 28 (bz 31 327679) rfl rfl (any_of HT_.out (by kernel_rfl)) ?_
            refine pureA 16 29 (bz 31 393215) rfl rfl (any_of HT_.out (by kernel_rfl)) ?_
            refine takeA 17 30 (bz 31 524287) rfl rfl (take_ofW HT_.out HW_.out (by kernel_rfl)) hHeld (by rintro w' ⟨s0, s1, s2, s3, s4, s5, s6⟩; go_simp; with_reducible rfl) ?_
            refine takeA 19 32 (bz 31 1048575) rfl rfl (take_ofW HT_.out HW_.out (by kernel_rfl)) hHeld (by rintro w' ⟨s0, s1, s2, s3, s4, s5, s6⟩; go_simp; with_reducible rfl) ?_
            refine pureA 20 33 (bz 31 2097151) rfl rfl (any_of HT_.out (by kernel_rfl)) ?_
            refine pureA 21 34 (bz 31 4194303) rfl rfl (any_of HT_.out (by kernel_rfl)) ?_
            refine pureA 22 35 (bz 31 8388607) rfl rfl (any_of HT_.out (by kernel_rfl)) ?_
            refine pureA 23 36 (bz 31 16777215) rfl rfl (any_of HT_.out (by kernel_rfl)) ?_
            refine pureA 24 37 (bz 31 33554431) rfl rfl (any_of HT_.out (by kernel_rfl)) ?_
            refine pureA 26 39 (bz 31 100663295) rfl rfl (any_of HT_.out (by kernel_rfl)) ?_
            refine takeA 25 38 (bz 31 134217727) rfl rfl (take_ofW HT_.out HW_.out (by kernel_rfl)) hHeld (by rintro w' ⟨s0, s1, s2, s3, s4, s5, s6⟩; go_simp; with_reducible rfl) ?_
            refine takeA 27 40 (bz 31 268435455) rfl rfl (take_ofW HT_.out HW_.out (by kernel_rfl)) hHeld (by rintro w' ⟨s0, s1, s2, s3, s4, s5, s6⟩; go_simp; with_reducible rfl) ?_
            refine one_ (i := 28) (N := some 41) (bz 31 536870911) rfl rfl (one_of HT_.out (by kernel_rfl)) (by decide) (fun K hK => ?_)
            refine goes_ Try.func57 (by kernel_rfl) rfl #[.slice A210_1 ((rd_T77 l0_2 x8_1).f1).length c210_1, .int .i64 a0_1] (by rfl) rfl rfl aE ?_
            with_reducible refine (impl_areParts.calls k1 _ _ ((rd_T77 l0_2 x8_1).f1) a0_1 false _ ?side1 ?side2 A19.out).mono ?_
            (case side1 => exact cU (Kd.C_below HR210_1.out (lV2 GE207 GE211)))
            (case side2 => exact HC210_1.out)
            rintro e w32 ⟨rfl, hb⟩
            refine ⟨_, rfl, ?_⟩
            replace BK207 := bB (bV BK207) hb
            replace BK211 := bB (bV BK211) hb
            replace HB := bH (lV2 GE207 GE211) hb
            (try clear hb)
            (try clear hb2)
            (try clear hk)
            (try clear hi)
            refine hK.out _ _ ⟨cz BK211 0 _, cz BK211 1 _, cz BK207 0 _, cz BK207 1 _, cz BK207 2 _, ((HB.out.cell (World.block_lt_of_cell? w _ hw213_0)).trans hw213_0), ((HB.out.cell (World.block_lt_of_cell? w _ hw213_1)).trans hw213_1)⟩ (fun hHeld => ?_)
            clear hK K
            refine norm_ (a' := ?_) ?_ ?_
            rotate_left
            ·show Act.put _ (some 41) _ = _
             simp only [Act.put, List.setIfInBounds_toArray, List.set_cons_zero, List.set_cons_succ, i64_w, i32_w]
             rfl
            refine pureA 29 42 (bz 31 1073741823) rfl rfl (any_of HT_.out (by kernel_rfl)) ?_
            refine pureA 30 43 (bz 31 2147483647) rfl rfl (any_of HT_.out (by kernel_rfl)) ?_
            refine done_ (done_of HT_.out (by kernel_rfl)) ?_
            try go_wp2
            go_ret
            exact ⟨by first | rfl | (simp [errW_none, errW_some] <;> rfl) | (simp only [← hji10]; first | rfl | (simp [errW_none, errW_some] <;> rfl)) | (simp [*, errW_none, errW_some] <;> rfl), lV2 GE207 GE211⟩
         ·rw [if_neg c12] at H
          exact absurd H (by simp)
        ·rw [if_neg c11] at H
         exact absurd H (by simp)
       ·rw [if_neg c9] at H
        have c9b0 : decide (0 < x8_1) = false := decide_eq_false c9
        clear c9
        replace H := Option.bind_eq_some_iff.mp H
        obtain ⟨t215, A330, H⟩ := H
        replace H : (if t215 = true then (impl_GoodWorld.l0 k1 l0_2 (l0_2.length : Int) (wrap64 (x8_1 + 1)) a0_0 a0_1 l0_2) else (some false)) = some r := H
        have A33 := Aside0.mk A330
        clear A330
        by_cases c34 : t215 = true
        ·subst c34
         have H1 : (impl_GoodWorld.l0 k1 l0_2 (l0_2.length : Int) (wrap64 (x8_1 + 1)) a0_0 a0_1 l0_2) = some r := by rw [if_pos rfl] at H; exact H
         clear H
         have H := H1
         clear H1
         have H' := Aside0.mk H
         clear H
         have p210 : 0 ≤ (x8_1 : Int) := of_decide_eq_true hE
         have q210 : x8_1 < (l0_2.length : Int) := of_decide_eq_true hE
         obtain ⟨ad210, A210_1, c210_1, e210, hx210_0, hx210_1, hl210_1, hi210_1⟩ := at_T77 HR0_2.out x8_1 p210 q210
         cases e210
         replace hx210_0 := (HB.out.cell (World.block_lt_of_cell? w _ hx210_0)).trans hx210_0
         replace hx210_1 := (HB.out.cell (World.block_lt_of_cell? w _ hx210_1)).trans hx210_1
         have HR210_1 := Aside0.mk hi210_1
         have HC210_1 := Aside0.mk hl210_1
         clear hi210_1 hl210_1
         replace p210 := eq_true p210
         replace q210 := eq_true q210
         try go_wp2_with (first | ((with_reducible refine gate_dst (N := 4) rfl ?_); (try (refine gate_guard (by rfl) ?_; dsimp only)); refine box_event rfl (N := 4) rfl (cs := #[.int .i64 0, .slice none 0 0]) (t := 77) sE ?_; intro gb211 hg w35 hbox hb; have BK211 := Aside0.mk hbox; have GW211 := gS w hg (lV1 GE207); have GE211 := gS w hg (lV1 GE207); replace HB := bH (lV1 GE207) hb; have NB207_211 := nL hg (bV BK207); have NB211_207 := nG hg (bV BK207); replace BK207 := bB (bV BK207) hb; clear hb hbox hg; have hnb36 := NB211_207.out; have hnc36 := NB207_211.out; have hcz37_0 := cz BK211 0 (.int .i64 0); have hcz37_1 := cz BK211 1 (.slice none 0 0); have hfz37_0 := fz BK211 0; have hfz37_1 := fz BK211 1) | ((with_reducible refine gate_store (t := 77) (p := 4) rfl ?_); refine store_event (t := 77) (p := 4) (v := ?vo_w38) (w1 := ((w35.setCell ⟨gb211, 0, none⟩ (.int .i64 ((rd_T77 l0_2 x8_1).f0))).setCell ⟨gb211, 1, none⟩ (.slice A210_1 ((rd_T77 l0_2 x8_1).f1).length c210_1))) ?hg ?ho ?hn ?hr ?_; (case ho => rfl); (case hg => rfl); (case hn => rfl); (case hr => first | (go_simp; done) | (go_simp; rfl) | (have hq0_ := (blk_cell BK211.out 0).trans (show _ = some _ from rfl); have hf0_ := blk_frozen BK211.out 0; have hq1_ := (blk_cell BK211.out 1).trans (show _ = some _ from rfl); have hf1_ := blk_frozen BK211.out 1; first | (go_simp; done) | (go_simp; rfl))); intro w38 hw; replace BK207 : Aside0 (w38.heap[gb207]? = some (.cells #[.int .i64 a0_0, .int .i64 a0_1, .slice (some ad210) l0_2.length c0_2] 50 (0, 0))) := ⟨(by rw [hw]; exact (bG NB207_211 BK207))⟩; replace BK211 : Aside0 (w38.heap[gb211]? = some (.cells #[.int .i64 ((rd_T77 l0_2 x8_1).f0), .slice A210_1 ((rd_T77 l0_2 x8_1).f1).length c210_1] 77 (0, 0))) := ⟨(by rw [hw]; exact (by refine bU ?_; refine blk_put (cs := #[.int .i64 ((rd_T77 l0_2 x8_1).f0), .slice none 0 0]) ?_ 1 _ rfl; refine bU ?_; refine blk_put (cs := #[.int .i64 0, .slice none 0 0]) ?_ 0 _ rfl; refine bU ?_; exact BK211.out))⟩; replace HB : Aside0 (Below w.heap.size w w38) := ⟨(by rw [hw]; exact (lV2 GE207 GE211))⟩; clear hw))
         replace BK207 := Aside0.mk (blk_drew BK207.out)
         replace BK211 := Aside0.mk (blk_drew BK211.out)
         replace HB := Aside0.mk (below_drew1 HB.out)
         refine start_ (n := 31) (S := fun w' => w'.cell? ⟨gb211, 0, none⟩ = some (.int .i64 ((rd_T77 l0_2 x8_1).f0)) ∧ w'.cell? ⟨gb211, 1, none⟩ = some (.slice A210_1 ((rd_T77 l0_2 x8_1).f1).length c210_1) ∧ w'.cell? ⟨gb207, 0, none⟩ = some (.int .i64 a0_0) ∧ w'.cell? ⟨gb207, 1, none⟩ = some (.int .i64 a0_1) ∧ w'.cell? ⟨gb207, 2, none⟩ = some (.slice (some ad210) l0_2.length c0_2)) (ds := []) #[false, false, false, false, false, false, false, false, false, false, false, false, false, false, false, false, false, false, false, false, false, false, false, false, false, false, false, false, false, false, false] (by kernel_rfl) rfl rfl ⟨cz BK211 0 _, cz BK211 1 _, cz BK207 0 _, cz BK207 1 _, cz BK207 2 _⟩ (fun hHeld => ?_); refine with_tabW impl_GoodWorld.tab4 impl_GoodWorld.bits4 (fun HT_ HW_ => ?_)
         generalize w38.drew = w39 at BK207 BK211 HB hHeld ⊢
         refine pureA 0 13 (bz 31 1) rfl rfl (any_of HT_.out (by kernel_rfl)) ?_
         refine pureA 2 15 (bz 31 5) rfl rfl (any_of HT_.out (by kernel_rfl)) ?_
         refine takeA 1 14 (bz 31 7) rfl rfl (take_ofW HT_.out HW_.out (by kernel_rfl)) hHeld (by rintro w' ⟨s0, s1, s2, s3, s4⟩; go_simp; with_reducible rfl) ?_
         refine takeA 3 16 (bz 31 15) rfl rfl (take_ofW HT_.out HW_.out (by kernel_rfl)) hHeld (by rintro w' ⟨s0, s1, s2, s3, s4⟩; go_simp; with_reducible rfl) ?_
         refine pureA 4 17 (bz 31 31) rfl rfl (any_of HT_.out (by kernel_rfl)) ?_
         refine one_ (i := 5) (N := some 18) (bz 31 63) rfl rfl (one_of HT_.out (by kernel_rfl)) (by decide) (fun K hK => ?_)
         refine goes_ Try.func36 (by kernel_rfl) rfl #[.int .i64 ((rd_T77 l0_2 x8_1).f0), .int .i64 1, .int .i64 (wrap64 (a0_0 - 1))] (by rfl) rfl rfl aE ?_
         with_reducible refine (impl_inRange.calls ((rd_T77 l0_2 x8_1).f0) 1 (wrap64 (a0_0 - 1)) true _ A7.out).mono ?_
         rintro e w' ⟨rfl, ⟨nd, rfl⟩⟩
         refine ⟨_, rfl, ?_⟩
         refine hK.out _ _ ⟨cz BK211 0 _, cz BK211 1 _, cz BK207 0 _, cz BK207 1 _, cz BK207 2 _⟩ (fun hHeld => ?_)
         clear hK K
         refine norm_ (a' := ?_) ?_ ?_
         rotate_left
         ·show Act.put _ (some 18) _ = _
          simp only [Act.put, List.setIfInBounds_toArray, List.set_cons_zero, List.set_cons_succ, i64_w, i32_w]
          rfl
         refine pureA 6 19 (bz 31 127) rfl rfl (any_of HT_.out (by kernel_rfl)) ?_
         refine pureA 7 20 (bz 31 255) rfl rfl (any_of HT_.out (by kernel_rfl)) ?_
         refine pureA 8 21 (bz 31 511) rfl rfl (any_of HT_.out (by kernel_rfl)) ?_
         refine pureA 9 22 (bz 31 1023) rfl rfl (any_of HT_.out (by kernel_rfl)) ?_
         refine pureA 10 23 (bz 31 2047) rfl rfl (any_of HT_.out (by kernel_rfl)) ?_
         refine pureU 11 24 (bz 31 4095) rfl rfl (any_of HT_.out (by kernel_rfl)) ?_
         refine pureU 12 25 (bz 31 8191) rfl rfl (any_of HT_.out (by kernel_rfl)) ?_
         refine pureU 13 26 (bz 31 16383) rfl rfl (any_of HT_.out (by kernel_rfl)) ?_
         refine pureU 14 27 (bz 31 32767) rfl rfl (any_of HT_.out (by kernel_rfl)) ?_
         refine pureU 15 28 (bz 31 65535) rfl rfl (any_of HT_.out (by kernel_rfl)) ?_
         refine pureU 16 29 (bz 31 131071) rfl rfl (any_of HT_.out (by kernel_rfl)) ?_
         refine pureU 17 30 (bz 31 262143) rfl rfl (any_of HT_.out (by kernel_rfl)) ?_
         refine pureU 18 31 (bz 31 524287) rfl rfl (any_of HT_.out (by kernel_rfl)) ?_
         refine pureU 19 32 (bz 31 1048575) rfl rfl (any_of HT_.out (by kernel_rfl)) ?_
         refine pureU 20 33 (bz 31 2097151) rfl rfl (any_of HT_.out (by kernel_rfl)) ?_
         refine pureA 21 34 (bz 31 4194303) rfl rfl (any_of HT_.out (by kernel_rfl)) ?_
         refine pureA 22 35 (bz 31 8388607) rfl rfl (any_of HT_.out (by kernel_rfl)) ?_
         refine pureA 23 36 (bz 31 16777215) rfl rfl (any_of HT_.out (by kernel_rfl)) ?_
         refine pureA 24 37 (bz 31 33554431) rfl rfl (any_of HT_.out (by kernel_rfl)) ?_
         refine pureA 26 39 (bz 31 100663295) rfl rfl (any_of HT_.out (by kernel_rfl)) ?_
         refine takeA 25 38 (bz 31 134217727) rfl rfl (take_ofW HT_.out HW_.out (by kernel_rfl)) hHeld (by rintro w' ⟨s0, s1, s2, s3, s4⟩; go_simp; with_reducible rfl) ?_
         refine takeA 27 40 (bz 31 268435455) rfl rfl (take_ofW HT_.out HW_.out (by kernel_rfl)) hHeld (by rintro w' ⟨s0, s1, s2, s3, s4⟩; go_simp; with_reducible rfl) ?_
         refine one_ (i := 28) (N := some 41) (bz 31 536870911) rfl rfl (one_of HT_.out (by kernel_rfl)) (by decide) (fun K hK => ?_)
         refine goes_ Try.func57 (by kernel_rfl) rfl #[.slice A210_1 ((rd_T77 l0_2 x8_1).f1).length c210_1, .int .i64 a0_1] (by rfl) rfl rfl aE ?_
         with_reducible refine (impl_areParts.calls k1 _ _ ((rd_T77 l0_2 x8_1).f1) a0_1 true _ ?side1 ?side2 A33.out).mono ?_
         (case side1 => exact cU (Kd.C_below HR210_1.out (lV2 GE207 GE211)))
         (case side2 => exact HC210_1.out)
         rintro e w40 ⟨rfl, hb⟩
         refine ⟨_, rfl, ?_⟩
         replace BK207 := bB (bV BK207) hb
         replace BK211 := bB (bV BK211) hb
         replace HB := bH (lV2 GE207 GE211) hb
         (try clear hb)
         (try clear hb2)
         (try clear hk)
         (try clear hi)
         refine hK.out _ _ ⟨cz BK211 0 _, cz BK211 1 _, cz BK207 0 _, cz BK207 1 _, cz BK207 2 _⟩ (fun hHeld => ?_)
         clear hK K
         refine norm_ (a' := ?_) ?_ ?_
         rotate_left
         ·show Act.put _ (some 41) _ = _
          simp only [Act.put, List.setIfInBounds_toArray, List.set_cons_zero, List.set_cons_succ, i64_w, i32_w]
          rfl
         refine pureA 29 42 (bz 31 1073741823) rfl rfl (any_of HT_.out (by kernel_rfl)) ?_
         refine pureA 30 43 (bz 31 2147483647) rfl rfl (any_of HT_.out (by kernel_rfl)) ?_
         refine done_ (done_of HT_.out (by kernel_rfl)) ?_
         try go_wp2
         go_roundg k1
         case measure => have := HK1.out; omega
         case rel => exact ⟨(wrap64 (x8_1 + 1)), tE, H', ⟨by have := HK1.out; omega⟩, ⟨by refine bU ?_; exact BK207.out⟩, ⟨by repeat (first | (with_reducible first | exact HB.out | apply below_alloc | apply pw_below_drewN | apply below_drew1 | refine below_set ?_ GE207.out | refine below_set ?_ GE211.out) | exact HB.out)⟩⟩
        ·replace c34 := Bool.eq_false_iff.mpr c34
         subst c34
         have H1 : (some false) = some r := by rw [if_neg (show ¬ (false = true) by decide)] at H; exact H
         clear H
         have H := H1
         clear H1
         obtain rfl := Option.some.inj H
         have p210 : 0 ≤ (x8_1 : Int) := of_decide_eq_true hE
         have q210 : x8_1 < (l0_2.length : Int) := of_decide_eq_true hE
         obtain ⟨ad210, A210_1, c210_1, e210, hx210_0, hx210_1, hl210_1, hi210_1⟩ := at_T77 HR0_2.out x8_1 p210 q210
         cases e210
         replace hx210_0 := (HB.out.cell (World.block_lt_of_cell? w _ hx210_0)).trans hx210_0
         replace hx210_1 := (HB.out.cell (World.block_lt_of_cell? w _ hx210_1)).trans hx210_1
         have HR210_1 := Aside0.mk hi210_1
         have HC210_1 := Aside0.mk hl210_1
         clear hi210_1 hl210_1
         replace p210 := eq_true p210
         replace q210 := eq_true q210
         try go_wp2_with (first | ((with_reducible refine gate_dst (N := 4) rfl ?_); (try (refine gate_guard (by rfl) ?_; dsimp only)); refine box_event rfl (N := 4) rfl (cs := #[.int .i64 0, .slice none 0 0]) (t := 77) sE ?_; intro gb211 hg w41 hbox hb; have BK211 := Aside0.mk hbox; have GW211 := gS w hg (lV1 GE207); have GE211 := gS w hg (lV1 GE207); replace HB := bH (lV1 GE207) hb; have NB207_211 := nL hg (bV BK207); have NB211_207 := nG hg (bV BK207); replace BK207 := bB (bV BK207) hb; clear hb hbox hg; have hnb42 := NB211_207.out; have hnc42 := NB207_211.out; have hcz43_0 := cz BK211 0 (.int .i64 0); have hcz43_1 := cz BK211 1 (.slice none 0 0); have hfz43_0 := fz BK211 0; have hfz43_1 := fz BK211 1) | ((with_reducible refine gate_store (t := 77) (p := 4) rfl ?_); refine store_event (t := 77) (p := 4) (v := ?vo_w44) (w1 := ((w41.setCell ⟨gb211, 0, none⟩ (.int .i64 ((rd_T77 l0_2 x8_1).f0))).setCell ⟨gb211, 1, none⟩ (.slice A210_1 ((rd_T77 l0_2 x8_1).f1).length c210_1))) ?hg ?ho ?hn ?hr ?_; (case ho => rfl); (case hg => rfl); (case hn => rfl); (case hr => first | (go_simp; done) | (go_simp; rfl) | (have hq0_ := (blk_cell BK211.out 0).trans (show _ = some _ from rfl); have hf0_ := blk_frozen BK211.out 0; have hq1_ := (blk_cell BK211.out 1).trans (show _ = some _ from rfl); have hf1_ := blk_frozen BK211.out 1; first | (go_simp; done) | (go_simp; rfl))); intro w44 hw; replace BK207 : Aside0 (w44.heap[gb207]? = some (.cells #[.int .i64 a0_0, .int .i64 a0_1, .slice (some ad210) l0_2.length c0_2] 50 (0, 0))) := ⟨(by rw [hw]; exact (bG NB207_211 BK207))⟩; replace BK211 : Aside0 (w44.heap[gb211]? = some (.cells #[.int .i64 ((rd_T77 l0_2 x8_1).f0), .slice A210_1 ((rd_T77 l0_2 x8_1).f1).length c210_1] 77 (0, 0))) := ⟨(by rw [hw]; exact (by refine bU ?_; refine blk_put (cs := #[.int .i64 ((rd_T77 l0_2 x8_1).f0), .slice none 0 0]) ?_ 1 _ rfl; refine bU ?_; refine blk_put (cs := #[.int .i64 0, .slice none 0 0]) ?_ 0 _ rfl; refine bU ?_; exact BK211.out))⟩; replace HB : Aside0 (Below w.heap.size w w44) := ⟨(by rw [hw]; exact (lV2 GE207 GE211))⟩; clear hw))
         replace BK207 := Aside0.mk (blk_drew BK207.out)
         replace BK211 := Aside0.mk (blk_drew BK211.out)
         replace HB := Aside0.mk (below_drew1 HB.out)
         refine start_ (n := 31) (S := fun w' => w'.cell? ⟨gb211, 0, none⟩ = some (.int .i64 ((rd_T77 l0_2 x8_1).f0)) ∧ w'.cell? ⟨gb211, 1, none⟩ = some (.slice A210_1 ((rd_T77 l0_2 x8_1).f1).length c210_1) ∧ w'.cell? ⟨gb207, 0, none⟩ = some (.int .i64 a0_0) ∧ w'.cell? ⟨gb207, 1, none⟩ = some (.int .i64 a0_1) ∧ w'.cell? ⟨gb207, 2, none⟩ = some (.slice (some ad210) l0_2.length c0_2)) (ds := []) #[false, false, false, false, false, false, false, false, false, false, false, false, false, false, false, false, false, false, false, false, false, false, false, false, false, false, false, false, false, false, false] (by kernel_rfl) rfl rfl ⟨cz BK211 0 _, cz BK211 1 _, cz BK207 0 _, cz BK207 1 _, cz BK207 2 _⟩ (fun hHeld => ?_); refine with_tabW impl_GoodWorld.tab4 impl_GoodWorld.bits4 (fun HT_ HW_ => ?_)
         generalize w44.drew = w45 at BK207 BK211 HB hHeld ⊢
         refine pureA 0 13 (bz 31 1) rfl rfl (any_of HT_.out (by kernel_rfl)) ?_
         refine pureA 2 15 (bz 31 5) rfl rfl (any_of HT_.out (by kernel_rfl)) ?_
         refine takeA 1 14 (bz 31 7) rfl rfl (take_ofW HT_.out HW_.out (by kernel_rfl)) hHeld (by rintro w' ⟨s0, s1, s2, s3, s4⟩; go_simp; with_reducible rfl) ?_
         refine takeA 3 16 (bz 31 15) rfl rfl (take_ofW HT_.out HW_.out (by kernel_rfl)) hHeld (by rintro w' ⟨s0, s1, s2, s3, s4⟩; go_simp; with_reducible rfl) ?_
         refine pureA 4 17 (bz 31 31) rfl rfl (any_of HT_.out (by kernel_rfl)) ?_
         refine one_ (i := 5) (N := some 18) (bz 31 63) rfl rfl (one_of HT_.out (by kernel_rfl)) (by decide) (fun K hK => ?_)
         refine goes_ Try.func36 (by kernel_rfl) rfl #[.int .i64 ((rd_T77 l0_2 x8_1).f0), .int .i64 1, .int .i64 (wrap64 (a0_0 - 1))] (by rfl) rfl rfl aE ?_
         with_reducible refine (impl_inRange.calls ((rd_T77 l0_2 x8_1).f0) 1 (wrap64 (a0_0 - 1)) true _ A7.out).mono ?_
         rintro e w' ⟨rfl, ⟨nd, rfl⟩⟩
         refine ⟨_, rfl, ?_⟩
         refine hK.out _ _ ⟨cz BK211 0 _, cz BK211 1 _, cz BK207 0 _, cz BK207 1 _, cz BK207 2 _⟩ (fun hHeld => ?_)
         clear hK K
         refine norm_ (a' := ?_) ?_ ?_
         rotate_left
         ·show Act.put _ (some 18) _ = _
          simp only [Act.put, List.setIfInBounds_toArray, List.set_cons_zero, List.set_cons_succ, i64_w, i32_w]
          rfl
         refine pureA 6 19 (bz 31 127) rfl rfl (any_of HT_.out (by kernel_rfl)) ?_
         refine pureA 7 20 (bz 31 255) rfl rfl (any_of HT_.out (by kernel_rfl)) ?_
         refine pureA 8 21 (bz 31 511) rfl rfl (any_of HT_.out (by kernel_rfl)) ?_
         refine pureA 9 22 (bz 31 1023) rfl rfl (any_of HT_.out (by kernel_rfl)) ?_
         refine pureA 10 23 (bz 31 2047) rfl rfl (any_of HT_.out (by kernel_rfl)) ?_
         refine pureU 11 24 (bz 31 4095) rfl rfl (any_of HT_.out (by kernel_rfl)) ?_
         refine pureU 12 25 (bz 31 8191) rfl rfl (any_of HT_.out (by kernel_rfl)) ?_
         refine pureU 13 26 (bz 31 16383) rfl rfl (any_of HT_.out (by kernel_rfl)) ?_
         refine pureU 14 27 (bz 31 32767) rfl rfl (any_of HT_.out (by kernel_rfl)) ?_
         refine pureU 15 28 (bz 31 65535) rfl rfl (any_of HT_.out (by kernel_rfl)) ?_
         refine pureU 16 29 (bz 31 131071) rfl rfl (any_of HT_.out (by kernel_rfl)) ?_
         refine pureU 17 30 (bz 31 262143) rfl rfl (any_of HT_.out (by kernel_rfl)) ?_
         refine pureU 18 31 (bz 31 524287) rfl rfl (any_of HT_.out (by kernel_rfl)) ?_
         refine pureU 19 32 (bz 31 1048575) rfl rfl (any_of HT_.out (by kernel_rfl)) ?_
         refine pureU 20 33 (bz 31 2097151) rfl rfl (any_of HT_.out (by kernel_rfl)) ?_
         refine pureA 21 34 (bz 31 4194303) rfl rfl (any_of HT_.out (by kernel_rfl)) ?_
         refine pureA 22 35 (bz 31 8388607) rfl rfl (any_of HT_.out (by kernel_rfl)) ?_
         refine pureA 23 36 (bz 31 16777215) rfl rfl (any_of HT_.out (by kernel_rfl)) ?_
         refine pureA 24 37 (bz 31 33554431) rfl rfl (any_of HT_.out (by kernel_rfl)) ?_
         refine pureA 26 39 (bz 31 100663295) rfl rfl (any_of HT_.out (by kernel_rfl)) ?_
         refine takeA 25 38 (bz 31 134217727) rfl rfl (take_ofW HT_.out HW_.out (by kernel_rfl)) hHeld (by rintro w' ⟨s0, s1, s2, s3, s4⟩; go_simp; with_reducible rfl) ?_
         refine takeA 27 40 (bz 31 268435455) rfl rfl (take_ofW HT_.out HW_.out (by kernel_rfl)) hHeld (by rintro w' ⟨s0, s1, s2, s3, s4⟩; go_simp; with_reducible rfl) ?_
         refine one_ (i := 28) (N := some 41) (bz 31 536870911) rfl rfl (one_of HT_.out (by kernel_rfl)) (by decide) (fun K hK => ?_)
         refine goes_ Try.func57 (by kernel_rfl) rfl #[.slice A210_1 ((rd_T77 l0_2 x8_1).f1).length c210_1, .int .i64 a0_1] (by rfl) rfl rfl aE ?_
         with_reducible refine (impl_areParts.calls k1 _ _ ((rd_T77 l0_2 x8_1).f1) a0_1 false _ ?side1 ?side2 A33.out).mono ?_
         (case side1 => exact cU (Kd.C_below HR210_1.out (lV2 GE207 GE211)))
         (case side2 => exact HC210_1.out)
         rintro e w46 ⟨rfl, hb⟩
         refine ⟨_, rfl, ?_⟩
         replace BK207 := bB (bV BK207) hb
         replace BK211 := bB (bV BK211) hb
         replace HB := bH (lV2 GE207 GE211) hb
         (try clear hb)
         (try clear hb2)
         (try clear hk)
         (try clear hi)
         refine hK.out _ _ ⟨cz BK211 0 _, cz BK211 1 _, cz BK207 0 _, cz BK207 1 _, cz BK207 2 _⟩ (fun hHeld => ?_)
         clear hK K
         refine norm_ (a' := ?_) ?_ ?_
         rotate_left
         ·show Act.put _ (some 41) _ = _
          simp only [Act.put, List.setIfInBounds_toArray, List.set_cons_zero, List.set_cons_succ, i64_w, i32_w]
          rfl
         refine pureA 29 42 (bz 31 1073741823) rfl rfl (any_of HT_.out (by kernel_rfl)) ?_
         refine pureA 30 43 (bz 31 2147483647) rfl rfl (any_of HT_.out (by kernel_rfl)) ?_
         refine done_ (done_of HT_.out (by kernel_rfl)) ?_
         try go_wp2
         go_ret
         exact ⟨eE, lV2 GE207 GE211⟩
      ·replace c8 := Bool.eq_false_iff.mpr c8
       subst c8
       have H1 : (some false) = some r := by rw [if_neg (show ¬ (false = true) by decide)] at H; exact H
       clear H
       have H := H1
       clear H1
       obtain rfl := Option.some.inj H
       have p210 : 0 ≤ (x8_1 : Int) := of_decide_eq_true hE
       have q210 : x8_1 < (l0_2.length : Int) := of_decide_eq_true hE
       obtain ⟨ad210, A210_1, c210_1, e210, hx210_0, hx210_1, hl210_1, hi210_1⟩ := at_T77 HR0_2.out x8_1 p210 q210
       cases e210
       replace hx210_0 := (HB.out.cell (World.block_lt_of_cell? w _ hx210_0)).trans hx210_0
       replace hx210_1 := (HB.out.cell (World.block_lt_of_cell? w _ hx210_1)).trans hx210_1
       have HR210_1 := Aside0.mk hi210_1
       have HC210_1 := Aside0.mk hl210_1
       clear hi210_1 hl210_1
       replace p210 := eq_true p210
       replace q210 := eq_true q210
       try go_wp2_with (first | ((with_reducible refine gate_dst (N := 4) rfl ?_); (try (refine gate_guard (by rfl) ?_; dsimp only)); refine box_event rfl (N := 4) rfl (cs := #[.int .i64 0, .slice none 0 0]) (t := 77) sE ?_; intro gb211 hg w47 hbox hb; have BK211 := Aside0.mk hbox; have GW211 := gS w hg (lV1 GE207); have GE211 := gS w hg (lV1 GE207); replace HB := bH (lV1 GE207) hb; have NB207_211 := nL hg (bV BK207); have NB211_207 := nG hg (bV BK207); replace BK207 := bB (bV BK207) hb; clear hb hbox hg; have hnb48 := NB211_207.out; have hnc48 := NB207_211.out; have hcz49_0 := cz BK211 0 (.int .i64 0); have hcz49_1 := cz BK211 1 (.slice none 0 0); have hfz49_0 := fz BK211 0; have hfz49_1 := fz BK211 1) | ((with_reducible refine gate_store (t := 77) (p := 4) rfl ?_); refine store_event (t := 77) (p := 4) (v := ?vo_w50) (w1 := ((w47.setCell ⟨gb211, 0, none⟩ (.int .i64 ((rd_T77 l0_2 x8_1).f0))).setCell ⟨gb211, 1, none⟩ (.slice A210_1 ((rd_T77 l0_2 x8_1).f1).length c210_1))) ?hg ?ho ?hn ?hr ?_; (case ho => rfl); (case hg => rfl); (case hn => rfl); (case hr => first | (go_simp; done) | (go_simp; rfl) | (have hq0_ := (blk_cell BK211.out 0).trans (show _ = some _ from rfl); have hf0_ := blk_frozen BK211.out 0; have hq1_ := (blk_cell BK211.out 1).trans (show _ = some _ from rfl); have hf1_ := blk_frozen BK211.out 1; first | (go_simp; done) | (go_simp; rfl))); intro w50 hw; replace BK207 : Aside0 (w50.heap[gb207]? = some (.cells #[.int .i64 a0_0, .int .i64 a0_1, .slice (some ad210) l0_2.length c0_2] 50 (0, 0))) := ⟨(by rw [hw]; exact (bG NB207_211 BK207))⟩; replace BK211 : Aside0 (w50.heap[gb211]? = some (.cells #[.int .i64 ((rd_T77 l0_2 x8_1).f0), .slice A210_1 ((rd_T77 l0_2 x8_1).f1).length c210_1] 77 (0, 0))) := ⟨(by rw [hw]; exact (by refine bU ?_; refine blk_put (cs := #[.int .i64 ((rd_T77 l0_2 x8_1).f0), .slice none 0 0]) ?_ 1 _ rfl; refine bU ?_; refine blk_put (cs := #[.int .i64 0, .slice none 0 0]) ?_ 0 _ rfl; refine bU ?_; exact BK211.out))⟩; replace HB : Aside0 (Below w.heap.size w w50) := ⟨(by rw [hw]; exact (lV2 GE207 GE211))⟩; clear hw))
       replace BK207 := Aside0.mk (blk_drew BK207.out)
       replace BK211 := Aside0.mk (blk_drew BK211.out)
       replace HB := Aside0.mk (below_drew1 HB.out)
       refine start_ (n := 31) (S := fun w' => w'.cell? ⟨gb211, 0, none⟩ = some (.int .i64 ((rd_T77 l0_2 x8_1).f0)) ∧ w'.cell? ⟨gb211, 1, none⟩ = some (.slice A210_1 ((rd_T77 l0_2 x8_1).f1).length c210_1) ∧ w'.cell? ⟨gb207, 0, none⟩ = some (.int .i64 a0_0) ∧ w'.cell? ⟨gb207, 1, none⟩ = some (.int .i64 a0_1) ∧ w'.cell? ⟨gb207, 2, none⟩ = some (.slice (some ad210) l0_2.length c0_2)) (ds := []) #[false, false, false, false, false, false, false, false, false, false, false, false, false, false, false, false, false, false, false, false, false, false, false, false, false, false, false, false, false, false, false] (by kernel_rfl) rfl rfl ⟨cz BK211 0 _, cz BK211 1 _, cz BK207 0 _, cz BK207 1 _, cz BK207 2 _⟩ (fun hHeld => ?_); refine with_tabW impl_GoodWorld.tab4 impl_GoodWorld.bits4 (fun HT_ HW_ => ?_)
       generalize w50.drew = w51 at BK207 BK211 HB hHeld ⊢
       refine pureA 0 13 (bz 31 1) rfl rfl (any_of HT_.out (by kernel_rfl)) ?_
       refine pureA 2 15 (bz 31 5) rfl rfl (any_of HT_.out (by kernel_rfl)) ?_
       refine takeA 1 14 (bz 31 7) rfl rfl (take_ofW HT_.out HW_.out (by kernel_rfl)) hHeld (by rintro w' ⟨s0, s1, s2, s3, s4⟩; go_simp; with_reducible rfl) ?_
       refine takeA 3 16 (bz 31 15) rfl rfl (take_ofW HT_.out HW_.out (by kernel_rfl)) hHeld (by rintro w' ⟨s0, s1, s2, s3, s4⟩; go_simp; with_reducible rfl) ?_
       refine pureA 4 17 (bz 31 31) rfl rfl (any_of HT_.out (by kernel_rfl)) ?_
       refine one_ (i := 5) (N := some 18) (bz 31 63) rfl rfl (one_of HT_.out (by kernel_rfl)) (by decide) (fun K hK => ?_)
       refine goes_ Try.func36 (by kernel_rfl) rfl #[.int .i64 ((rd_T77 l0_2 x8_1).f0), .int .i64 1, .int .i64 (wrap64 (a0_0 - 1))] (by rfl) rfl rfl aE ?_
       with_reducible refine (impl_inRange.calls ((rd_T77 l0_2 x8_1).f0) 1 (wrap64 (a0_0 - 1)) false _ A7.out).mono ?_
       rintro e w' ⟨rfl, ⟨nd, rfl⟩⟩
       refine ⟨_, rfl, ?_⟩
       refine hK.out _ _ ⟨cz BK211 0 _, cz BK211 1 _, cz BK207 0 _, cz BK207 1 _, cz BK207 2 _⟩ (fun hHeld => ?_)
       clear hK K
       refine norm_ (a' := ?_) ?_ ?_
       rotate_left
       ·show Act.put _ (some 18) _ = _
        simp only [Act.put, List.setIfInBounds_toArray, List.set_cons_zero, List.set_cons_succ, i64_w, i32_w]
        rfl
       refine pureA 6 19 (bz 31 127) rfl rfl (any_of HT_.out (by kernel_rfl)) ?_
       refine pureA 7 20 (bz 31 255) rfl rfl (any_of HT_.out (by kernel_rfl)) ?_
       refine pureU 8 21 (bz 31 511) rfl rfl (any_of HT_.out (by kernel_rfl)) ?_
       refine pureU 9 22 (bz 31 1023) rfl rfl (any_of HT_.out (by kernel_rfl)) ?_
       refine pureU 10 23 (bz 31 2047) rfl rfl (any_of HT_.out (by kernel_rfl)) ?_
       refine pureU 11 24 (bz 31 4095) rfl rfl (any_of HT_.out (by kernel_rfl)) ?_
       refine pureU 12 25 (bz 31 8191) rfl rfl (any_of HT_.out (by kernel_rfl)) ?_
       refine pureU 13 26 (bz 31 16383) rfl rfl (any_of HT_.out (by kernel_rfl)) ?_
       refine pureU 14 27 (bz 31 32767) rfl rfl (any_of HT_.out (by kernel_rfl)) ?_
       refine pureU 15 28 (bz 31 65535) rfl rfl (any_of HT_.out (by kernel_rfl)) ?_
       refine pureU 16 29 (bz 31 131071) rfl rfl (any_of HT_.out (by kernel_rfl)) ?_
       refine pureU 17 30 (bz 31 262143) rfl rfl (any_of HT_.out (by kernel_rfl)) ?_
       refine pureU 18 31 (bz 31 524287) rfl rfl (any_of HT_.out (by kernel_rfl)) ?_
       refine pureU 19 32 (bz 31 1048575) rfl rfl (any_of HT_.out (by kernel_rfl)) ?_
       refine pureU 20 33 (bz 31 2097151) rfl rfl (any_of HT_.out (by kernel_rfl)) ?_
       refine pureU 21 34 (bz 31 4194303) rfl rfl (any_of HT_.out (by kernel_rfl)) ?_
       refine pureA 22 35 (bz 31 8388607) rfl rfl (any_of HT_.out (by kernel_rfl)) ?_
       refine pureA 23 36 (bz 31 16777215) rfl rfl (any_of HT_.out (by kernel_rfl)) ?_
       refine pureU 24 37 (bz 31 33554431) rfl rfl (any_of HT_.out (by kernel_rfl)) ?_
       refine pureU 25 38 (bz 31 67108863) rfl rfl (any_of HT_.out (by kernel_rfl)) ?_
       refine pureU 26 39 (bz 31 134217727) rfl rfl (any_of HT_.out (by kernel_rfl)) ?_
       refine pureU 27 40 (bz 31 268435455) rfl rfl (any_of HT_.out (by kernel_rfl)) ?_
       refine pureU 28 41 (bz 31 536870911) rfl rfl (any_of HT_.out (by kernel_rfl)) ?_
       refine pureU 29 42 (bz 31 1073741823) rfl rfl (any_of HT_.out (by kernel_rfl)) ?_
       refine pureA 30 43 (bz 31 2147483647) rfl rfl (any_of HT_.out (by kernel_rfl)) ?_
       refine done_ (done_of HT_.out (by kernel_rfl)) ?_
       try go_wp2
       go_ret
       exact ⟨eE, lV2 GE207 GE211⟩
     ·rw [if_neg c6] at H
      exact absurd H (by simp)
    ·rw [if_neg c5] at H
     exact absurd H (by simp)
   ·rw [if_neg c4] at H
    have c4b0 : decide (x8_1 < (l0_2.length : Int)) = false := decide_eq_false c4
    clear c4
    replace H := Option.bind_eq_some_iff.mp H
    obtain ⟨t208, A520, H⟩ := H
    replace H : (if t208 = true then ((impl_inRange.f a0_1 0 1000000).bind fun t209 => (if t209 = true then (some (decide ((l0_2.length : Int) ≤ 60))) else (some false))) else (some false)) = some r := H
    have A52 := Aside0.mk A520
    clear A520
    by_cases c53 : t208 = true
    ·subst c53
     have H1 : ((impl_inRange.f a0_1 0 1000000).bind fun t209 => (if t209 = true then (some (decide ((l0_2.length : Int) ≤ 60))) else (some false))) = some r := by rw [if_pos rfl] at H; exact H
     clear H
     have H := H1
     clear H1
     replace H := Option.bind_eq_some_iff.mp H
     obtain ⟨t209, A540, H⟩ := H
     replace H : (if t209 = true then (some (decide ((l0_2.length : Int) ≤ 60))) else (some false)) = some r := H
     have A54 := Aside0.mk A540
     clear A540
     by_cases c55 : t209 = true
     ·subst c55
      have H1 : (some (decide ((l0_2.length : Int) ≤ 60))) = some r := by rw [if_pos rfl] at H; exact H
      clear H
      have H := H1
      clear H1
      obtain rfl := Option.some.inj H
      have hcz56_0 := cz BK207 0 (.int .i64 a0_0)
      have hcz56_1 := cz BK207 1 (.int .i64 a0_1)
      have hcz56_2 := cz BK207 2 (.slice A0_2 l0_2.length c0_2)
      have hfz56_0 := fz BK207 0
      have hfz56_1 := fz BK207 1
      have hfz56_2 := fz BK207 2
      go_wp2_with (first | ((with_reducible refine gate_callee (f := 36) rfl ?_); refine goesL_ (some 47) rfl rfl Try.func36 (by kernel_rfl) rfl #[.int .i64 a0_0, .int .i64 1, .int .i64 1000000] rfl aE ?_; (with_reducible refine (impl_inRange.calls a0_0 1 1000000 true _ A52.out).mono ?_); rintro e w' ⟨rfl, ⟨nd, rfl⟩⟩; refine ⟨_, rfl, ?_⟩) | (go_at_call 36; (with_reducible refine (impl_inRange.calls a0_1 0 1000000 true _ A54.out).mono ?_); rintro e w' ⟨rfl, ⟨nd, rfl⟩⟩))
      go_ret
      exact ⟨eE, lV1 GE207⟩
     ·replace c55 := Bool.eq_false_iff.mpr c55
      subst c55
      have H1 : (some false) = some r := by rw [if_neg (show ¬ (false = true) by decide)] at H; exact H
      clear H
      have H := H1
      clear H1
      obtain rfl := Option.some.inj H
      have hcz57_0 := cz BK207 0 (.int .i64 a0_0)
      have hcz57_1 := cz BK207 1 (.int .i64 a0_1)
      have hcz57_2 := cz BK207 2 (.slice A0_2 l0_2.length c0_2)
      have hfz57_0 := fz BK207 0
      have hfz57_1 := fz BK207 1
      have hfz57_2 := fz BK207 2
      go_wp2_with (first | ((with_reducible refine gate_callee (f := 36) rfl ?_); refine goesL_ (some 47) rfl rfl Try.func36 (by kernel_rfl) rfl #[.int .i64 a0_0, .int .i64 1, .int .i64 1000000] rfl aE ?_; (with_reducible refine (impl_inRange.calls a0_0 1 1000000 true _ A52.out).mono ?_); rintro e w' ⟨rfl, ⟨nd, rfl⟩⟩; refine ⟨_, rfl, ?_⟩) | (go_at_call 36; (with_reducible refine (impl_inRange.calls a0_1 0 1000000 false _ A54.out).mono ?_); rintro e w' ⟨rfl, ⟨nd, rfl⟩⟩))
      go_ret
      exact ⟨eE, lV1 GE207⟩
    ·replace c53 := Bool.eq_false_iff.mpr c53
     subst c53
     have H1 : (some false) = some r := by rw [if_neg (show ¬ (false = true) by decide)] at H; exact H
     clear H
     have H := H1
     clear H1
     obtain rfl := Option.some.inj H
     have hcz58_0 := cz BK207 0 (.int .i64 a0_0)
     have hcz58_1 := cz BK207 1 (.int .i64 a0_1)
     have hcz58_2 := cz BK207 2 (.slice A0_2 l0_2.length c0_2)
     have hfz58_0 := fz BK207 0
     have hfz58_1 := fz BK207 1
     have hfz58_2 := fz BK207 2
     go_wp2_with (first | ((with_reducible refine gate_callee (f := 36) rfl ?_); refine goesL_ (some 47) rfl rfl Try.func36 (by kernel_rfl) rfl #[.int .i64 a0_0, .int .i64 1, .int .i64 1000000] rfl aE ?_; (with_reducible refine (impl_inRange.calls a0_0 1 1000000 false _ A52.out).mono ?_); rintro e w' ⟨rfl, ⟨nd, rfl⟩⟩; refine ⟨_, rfl, ?_⟩))
     go_ret
     exact ⟨eE, lV1 GE207⟩
end Go.Proofs.Ytcpodjegdpbalaa.PFnExactQueryWorld
namespace Go.Proofs.Ytcpodjegdpbalaa.PFnExactQueryWorld
open Go.RowKit Go.Proofs.YtcpodjegdpbalaaW.PrintWords Go.Proofs.YtcpodjegdpbalaaW.PrintLast Go.Proofs.YtcpodjegdpbalaaW.PrintMore
attribute [local go_sem] max2_int min2_int max_two min_two max_three min_three max_four min_four   -- for this text's walks alone
set_option linter.unusedVariables false
set_option linter.unusedSimpArgs false
def impl_areNames.l0 : Nat → List ByteArray → List ByteArray → Int → Int → Option (Bool)
 | 0, _, _, _, _ => none
 | k + 1, x0, x5, x6, x7 => if x7 < x6 then (if 0 ≤ x7 then (if x7 < (x5.length : Int) then ((impl_GoodName.f k (rdOf ByteArray.empty x5 x7)).bind fun t217 => (if t217 = true then (if x7 > 0 then (if 0 ≤ (wrap64 (x7 - 1)) then (if (wrap64 (x7 - 1)) < (x0.length : Int) then (if ((Op.bytesLess ((rdOf ByteArray.empty x0 (wrap64 (x7 - 1))).toList) ((rdOf ByteArray.empty x5 x7).toList)) = true) then (impl_areNames.l0 k x0 x5 x6 (wrap64 (x7 + 1))) else (some false)) else (none)) else (none)) else (impl_areNames.l0 k x0 x5 x6 (wrap64 (x7 + 1)))) else (some false))) else (none)) else (none)) else (some true)
def impl_areNames.f (k : Nat) (l0 : List ByteArray) : Option (Bool) := impl_areNames.l0 k l0 l0 (l0.length : Int) 0
theorem impl_areNames.mono_l : ∀ k, (∀ y0 y1 y2 y3, LeO (impl_areNames.l0 k y0 y1 y2 y3) (impl_areNames.l0 (k + 1) y0 y1 y2 y3))
 | 0 => fun _ _ _ _ r h => by simp [impl_areNames.l0] at h
 | k + 1 => by
  have ih0 := impl_areNames.mono_l k
  ·intro y0 y1 y2 y3
   unfold impl_areNames.l0
   repeat' first
   | (with_reducible exact ih0 _ _ _ _)
   | (with_reducible exact impl_GoodName.mono _ _)
   | (with_reducible exact LeO.refl _)
   | (with_reducible exact LeO.none _)
   | (with_reducible refine LeO.ite ?_ ?_)
   | (with_reducible refine LeO.bind ?_ (fun _ => ?_))
   | exact ih0 _ _ _ _
   | exact impl_GoodName.mono _ _
   | exact LeO.none _
   | refine LeO.ite ?_ ?_
   | refine LeO.bind ?_ (fun _ => ?_)
theorem impl_areNames.mono : ∀ a0 k, LeO (impl_areNames.f k a0) (impl_areNames.f (k + 1) a0) := by
 intro a0 k
 have ih0 := impl_areNames.mono_l k
 unfold impl_areNames.f
 repeat' first
   | (with_reducible exact ih0 _ _ _ _)
   | (with_reducible exact impl_GoodName.mono _ _)
   | (with_reducible exact LeO.refl _)
   | (with_reducible exact LeO.none _)
   | (with_reducible refine LeO.ite ?_ ?_)
   | (with_reducible refine LeO.bind ?_ (fun _ => ?_))
   | exact ih0 _ _ _ _
   | exact impl_GoodName.mono _ _
   | exact LeO.none _
   | refine LeO.ite ?_ ?_
   | refine LeO.bind ?_ (fun _ => ?_)
set_option maxHeartbeats 8000000 in
set_option maxRecDepth 100000 in
theorem impl_areNames.calls (k : Nat) (A0 : Option Addr) (c0 : Nat) (l0 : List ByteArray) (r : Bool) (w : World) (hr0 : Kd.C Kd.string w A0 l0.length l0) (hc0 : l0.length ≤ c0) (h : impl_areNames.f k l0 = some r) :
  Calls Try.prog 58 #[.slice A0 l0.length c0] w fun e w' => e = .returned (.bool r) ∧ Drawn0 w w' := by
 have HR0 := Aside0.mk hr0
 have HC0 := Aside0.mk hc0
 clear hr0 hc0
 have H : (impl_areNames.l0 k l0 l0 (l0.length : Int) 0) = some r := h
 clear h
 have H' := Aside0.mk H
 clear H
 go_enter Try.func58, Try.ntmps58
 go_wp2
 go_loopg [7] k (fun kq v7 w' => ∃ (x7_1 : Int), v7 = .int .i64 x7_1 ∧ Aside0 (impl_areNames.l0 kq l0 l0 (l0.length : Int) x7_1 = some r) ∧ Aside0 (kq ≤ k) ∧ Drawn0 w w')
 case atStart => exact ⟨(0), tE, H', ⟨Nat.le_refl _⟩, by repeat (first | exact Drawn0.refl _ | apply Drawn0.step)⟩
 case round =>
  clear H'
  obtain ⟨x7_1, rfl, HA, HK1, ⟨m1, rfl⟩⟩ := hrel
  cases gk with
  | zero => exact absurd HA.out (by simp [impl_areNames.l0])
  | succ k1 =>
   have H := HA.out
   clear HA
   simp only [impl_areNames.l0] at H
   by_cases c2 : x7_1 < (l0.length : Int)
   ·rw [if_pos c2] at H
    have c2b0 : decide (x7_1 < (l0.length : Int)) = true := decide_eq_true c2
    clear c2
    by_cases c3 : 0 ≤ x7_1
    ·rw [if_pos c3] at H
     have c3b0 : decide (0 ≤ x7_1) = true := decide_eq_true c3
     clear c3
     by_cases c4 : x7_1 < (l0.length : Int)
     ·rw [if_pos c4] at H
      have c4b0 : decide (x7_1 < (l0.length : Int)) = true := decide_eq_true c4
      clear c4
      replace H := Option.bind_eq_some_iff.mp H
      obtain ⟨t217, A50, H⟩ := H
      replace H : (if t217 = true then (if x7_1 > 0 then (if 0 ≤ (wrap64 (x7_1 - 1)) then (if (wrap64 (x7_1 - 1)) < (l0.length : Int) then (if ((Op.bytesLess ((rdOf ByteArray.empty l0 (wrap64 (x7_1 - 1))).toList) ((rdOf ByteArray.empty l0 x7_1).toList)) = true) then (impl_areNames.l0 k1 l0 l0 (l0.length : Int) (wrap64 (x7_1 + 1))) else (some false)) else (none)) else (none)) else (impl_areNames.l0 k1 l0 l0 (l0.length : Int) (wrap64 (x7_1 + 1)))) else (some false)) = some r := H
      have A5 := Aside0.mk A50
      clear A50
      by_cases c6 : t217 = true
      ·subst c6
       have H1 : (if x7_1 > 0 then (if 0 ≤ (wrap64 (x7_1 - 1)) then (if (wrap64 (x7_1 - 1)) < (l0.length : Int) then (if ((Op.bytesLess ((rdOf ByteArray.empty l0 (wrap64 (x7_1 - 1))).toList) ((rdOf ByteArray.empty l0 x7_1).toList)) = true) then (impl_areNames.l0 k1 l0 l0 (l0.length : Int) (wrap64 (x7_1 + 1))) else (some false)) else (none)) else (none)) else (impl_areNames.l0 k1 l0 l0 (l0.length : Int) (wrap64 (x7_1 + 1)))) = some r := by rw [if_pos rfl] at H; exact H
       clear H
       have H := H1
       clear H1
       by_cases c7 : x7_1 > 0
       ·rw [if_pos c7] at H
        have c7b0 : decide (0 < x7_1) = true := decide_eq_true c7
        clear c7
        obtain ⟨ji8, hji8⟩ : ∃ j_ : Int, (wrap64 (x7_1 - 1)) = j_ := ⟨_, rfl⟩
        replace H : (if 0 ≤ (ji8) then (if (ji8) < (l0.length : Int) then (if ((Op.bytesLess ((rdOf ByteArray.empty l0 (ji8)).toList) ((rdOf ByteArray.empty l0 x7_1).toList)) = true) then (impl_areNames.l0 k1 l0 l0 (l0.length : Int) (wrap64 (x7_1 + 1))) else (some false)) else (none)) else (none)) = some r := by first | (rw [hji8] at H; exact H) | (simp only [hji8] at H ⊢; exact H)
        (try rw [hji8] at A5)
        have hji8w : (IntKind.i64.wrap (x7_1 - 1)) = ji8 := (i64_w _).trans hji8
        by_cases c9 : 0 ≤ (ji8)
        ·rw [if_pos c9] at H
         have c9b0 : decide (0 ≤ (ji8)) = true := decide_eq_true c9
         clear c9
         by_cases c10 : (ji8) < (l0.length : Int)
         ·rw [if_pos c10] at H
          have c10b0 : decide ((ji8) < (l0.length : Int)) = true := decide_eq_true c10
          clear c10
          by_cases c11 : ((Op.bytesLess ((rdOf ByteArray.empty l0 (ji8)).toList) ((rdOf ByteArray.empty l0 x7_1).toList)) = true)
          ·rw [if_pos c11] at H
           have c11b0 : (Op.bytesLess ((rdOf ByteArray.empty l0 (ji8)).toList) ((rdOf ByteArray.empty l0 x7_1).toList)) = true := c11
           clear c11
           have H' := Aside0.mk H
           clear H
           have p216 : 0 ≤ (x7_1 : Int) := of_decide_eq_true hE
           have q216 : x7_1 < (l0.length : Int) := of_decide_eq_true hE
           obtain ⟨ad216, e216, hx216_0⟩ := Kd.at_string HR0.out x7_1 p216 q216
           cases e216
           replace p216 := eq_true p216
           replace q216 := eq_true q216
           go_wp2_with (first | ((with_reducible refine gate_callee (f := 67) rfl ?_); refine goesL_ (some 13) rfl rfl Try.func67 (by kernel_rfl) rfl #[.string (rdOf ByteArray.empty l0 x7_1)] rfl aE ?_; (with_reducible refine (impl_GoodName.calls k1 (rdOf ByteArray.empty l0 x7_1) true _ A5.out).mono ?_); rintro e w' ⟨rfl, ⟨nd, rfl⟩⟩; refine ⟨_, rfl, ?_⟩; have p218 : 0 ≤ ((ji8) : Int) := of_decide_eq_true hE; have q218 : (ji8) < (l0.length : Int) := of_decide_eq_true hE; obtain ⟨ad218, e218, hx218_0⟩ := Kd.at_string HR0.out (ji8) p218 q218; obtain rfl : ad216 = ad218 := (by injection e218); replace p218 := eq_true p218; replace q218 := eq_true q218))
           go_roundg k1
           case measure => have := HK1.out; omega
           case rel => exact ⟨(wrap64 (x7_1 + 1)), tE, H', ⟨by have := HK1.out; omega⟩, by repeat (first | exact Drawn0.refl _ | apply Drawn0.step)⟩
          ·rw [if_neg c11] at H
           have c11b0 : (Op.bytesLess ((rdOf ByteArray.empty l0 (ji8)).toList) ((rdOf ByteArray.empty l0 x7_1).toList)) = false := by simpa using c11
           clear c11
           obtain rfl := Option.some.inj H
           have p216 : 0 ≤ (x7_1 : Int) := of_decide_eq_true hE
           have q216 : x7_1 < (l0.length : Int) := of_decide_eq_true hE
           obtain ⟨ad216, e216, hx216_0⟩ := Kd.at_string HR0.out x7_1 p216 q216
           cases e216
           replace p216 := eq_true p216
           replace q216 := eq_true q216
           go_wp2_with (first | ((with_reducible refine gate_callee (f := 67) rfl ?_); refine goesL_ (some 13) rfl rfl Try.func67 (by kernel_rfl) rfl #[.string (rdOf ByteArray.empty l0 x7_1)] rfl aE ?_; (with_reducible refine (impl_GoodName.calls k1 (rdOf ByteArray.empty l0 x7_1) true _ A5.out).mono ?_); rintro e w' ⟨rfl, ⟨nd, rfl⟩⟩; refine ⟨_, rfl, ?_⟩; have p218 : 0 ≤ ((ji8) : Int) := of_decide_eq_true hE; have q218 : (ji8) < (l0.length : Int) := of_decide_eq_true hE; obtain ⟨ad218, e218, hx218_0⟩ := Kd.at_string HR0.out (ji8) p218 q218; obtain rfl : ad216 = ad218 := (by injection e218); replace p218 := eq_true p218; replace q218 := eq_true q218))
           go_ret
           exact ⟨by first | rfl | (simp; done) | (simp only [← hji8] <;> (first | rfl | simp)) | (simp [*]; done) | exact not_isEmpty _ | exact (not_isEmpty _).symm | exact is_empty _ | exact (is_empty _).symm, by repeat (first | exact Drawn0.refl _ | apply Drawn0.step)⟩
         ·rw [if_neg c10] at H
          exact absurd H (by simp)
        ·rw [if_neg c9] at H
         exact absurd H (by simp)
       ·rw [if_neg c7] at H
        have c7b0 : decide (0 < x7_1) = false := decide_eq_false c7
        clear c7
        have H' := Aside0.mk H
        clear H
        have p216 : 0 ≤ (x7_1 : Int) := of_decide_eq_true hE
        have q216 : x7_1 < (l0.length : Int) := of_decide_eq_true hE
        obtain ⟨ad216, e216, hx216_0⟩ := Kd.at_string HR0.out x7_1 p216 q216
        cases e216
        replace p216 := eq_true p216
        replace q216 := eq_true q216
        go_wp2_with (first | ((with_reducible refine gate_callee (f := 67) rfl ?_); refine goesL_ (some 13) rfl rfl Try.func67 (by kernel_rfl) rfl #[.string (rdOf ByteArray.empty l0 x7_1)] rfl aE ?_; (with_reducible refine (impl_GoodName.calls k1 (rdOf ByteArray.empty l0 x7_1) true _ A5.out).mono ?_); rintro e w' ⟨rfl, ⟨nd, rfl⟩⟩; refine ⟨_, rfl, ?_⟩))
        go_roundg k1
        case measure => have := HK1.out; omega
        case rel => exact ⟨(wrap64 (x7_1 + 1)), tE, H', ⟨by have := HK1.out; omega⟩, by repeat (first | exact Drawn0.refl _ | apply Drawn0.step)⟩
      ·replace c6 := Bool.eq_false_iff.mpr c6
       subst c6
       have H1 : (some false) = some r := by rw [if_neg (show ¬ (false = true) by decide)] at H; exact H
       clear H
       have H := H1
       clear H1
       obtain rfl := Option.some.inj H
       have p216 : 0 ≤ (x7_1 : Int) := of_decide_eq_true hE
       have q216 : x7_1 < (l0.length : Int) := of_decide_eq_true hE
       obtain ⟨ad216, e216, hx216_0⟩ := Kd.at_string HR0.out x7_1 p216 q216
       cases e216
       replace p216 := eq_true p216
       replace q216 := eq_true q216
       go_wp2_with (first | ((with_reducible refine gate_callee (f := 67) rfl ?_); refine goesL_ (some 13) rfl rfl Try.func67 (by kernel_rfl) rfl #[.string (rdOf ByteArray.empty l0 x7_1)] rfl aE ?_; (with_reducible refine (impl_GoodName.calls k1 (rdOf ByteArray.empty l0 x7_1) false _ A5.out).mono ?_); rintro e w' ⟨rfl, ⟨nd, rfl⟩⟩; refine ⟨_, rfl, ?_⟩))
       go_ret
       exact ⟨by first | rfl | (simp; done) | (simp [*]; done) | exact not_isEmpty _ | exact (not_isEmpty _).symm | exact is_empty _ | exact (is_empty _).symm, by repeat (first | exact Drawn0.refl _ | apply Drawn0.step)⟩
     ·rw [if_neg c4] at H
      exact absurd H (by simp)
    ·rw [if_neg c3] at H
     exact absurd H (by simp)
   ·rw [if_neg c2] at H
    have c2b0 : decide (x7_1 < (l0.length : Int)) = false := decide_eq_false c2
    clear c2
    obtain rfl := Option.some.inj H
    go_wp2
    go_ret
    exact ⟨by first | rfl | (simp; done) | (simp [*]; done) | exact not_isEmpty _ | exact (not_isEmpty _).symm | exact is_empty _ | exact (is_empty _).symm, by repeat (first | exact Drawn0.refl _ | apply Drawn0.step)⟩
def impl_isQuery.f (k : Nat) (l0_0 : List ByteArray) (l0_1 : List ByteArray) (a0_2 : Int) : Option (Bool) := (impl_areNames.f k l0_0).bind fun t220 => (if t220 = true then ((impl_areNames.f k l0_1).bind fun t221 => (if t221 = true then (if (l0_0.length : Int) ≤ 12 then (if (l0_1.length : Int) ≤ 12 then ((impl_inRange.f a0_2 0 1000000).bind fun t222 => (some t222)) else (some false)) else (some false)) else (some false))) else (some false))
theorem impl_isQuery.mono : ∀ a0 a1 a2 k, LeO (impl_isQuery.f k a0 a1 a2) (impl_isQuery.f (k + 1) a0 a1 a2) := by
 intro a0 a1 a2 k
 unfold impl_isQuery.f
 repeat' first
   | (with_reducible exact impl_areNames.mono _ _)
   | (with_reducible exact LeO.refl _)
   | (with_reducible exact LeO.none _)
   | (with_reducible refine LeO.ite ?_ ?_)
   | (with_reducible refine LeO.bind ?_ (fun _ => ?_))
   | exact impl_areNames.mono _ _
   | exact LeO.none _
   | refine LeO.ite ?_ ?_
   | refine LeO.bind ?_ (fun _ => ?_)
set_option maxHeartbeats 8000000 in
set_option maxRecDepth 100000 in
theorem impl_isQuery.calls (k : Nat) (A0_0 : Option Addr) (c0_0 : Nat) (l0_0 : List ByteArray) (A0_1 : Option Addr) (c0_1 : Nat) (l0_1 : List ByteArray) (a0_2 : Int) (r : Bool) (w : World) (hr0_0 : Kd.C Kd.string w A0_0 l0_0.length l0_0) (hc0_0 : l0_0.length ≤ c0_0) (hr0_1 : Kd.C Kd.string w A0_1 l0_1.length l0_1) (hc0_1 : l0_1.length ≤ c0_1) (h : impl_isQuery.f k l0_0 l0_1 a0_2 = some r) :
  Calls Try.prog 47 #[.agg #[.slice A0_0 l0_0.length c0_0, .slice A0_1 l0_1.length c0_1, .int .i64 a0_2]] w fun e w' => e = .returned (.bool r) ∧ Below w.heap.size w w' := by
 have hu52 := Try.underlying52
 have HR0_0 := Aside0.mk hr0_0
 have HC0_0 := Aside0.mk hc0_0
 clear hr0_0 hc0_0
 have HR0_1 := Aside0.mk hr0_1
 have HC0_1 := Aside0.mk hc0_1
 clear hr0_1 hc0_1
 have HB := Aside0.mk (Below.refl w.heap.size w)
 have H : ((impl_areNames.f k l0_0).bind fun t220 => (if t220 = true then ((impl_areNames.f k l0_1).bind fun t221 => (if t221 = true then (if (l0_0.length : Int) ≤ 12 then (if (l0_1.length : Int) ≤ 12 then ((impl_inRange.f a0_2 0 1000000).bind fun t222 => (some t222)) else (some false)) else (some false)) else (some false))) else (some false))) = some r := h
 clear h
 replace H := Option.bind_eq_some_iff.mp H
 obtain ⟨t220, A20, H⟩ := H
 replace H : (if t220 = true then ((impl_areNames.f k l0_1).bind fun t221 => (if t221 = true then (if (l0_0.length : Int) ≤ 12 then (if (l0_1.length : Int) ≤ 12 then ((impl_inRange.f a0_2 0 1000000).bind fun t222 => (some t222)) else (some false)) else (some false)) else (some false))) else (some false)) = some r := H
 have A2 := Aside0.mk A20
 clear A20
 by_cases c3 : t220 = true
 ·subst c3
  have H1 : ((impl_areNames.f k l0_1).bind fun t221 => (if t221 = true then (if (l0_0.length : Int) ≤ 12 then (if (l0_1.length : Int) ≤ 12 then ((impl_inRange.f a0_2 0 1000000).bind fun t222 => (some t222)) else (some false)) else (some false)) else (some false))) = some r := by rw [if_pos rfl] at H; exact H
  clear H
  have H := H1
  clear H1
  replace H := Option.bind_eq_some_iff.mp H
  obtain ⟨t221, A40, H⟩ := H
  replace H : (if t221 = true then (if (l0_0.length : Int) ≤ 12 then (if (l0_1.length : Int) ≤ 12 then ((impl_inRange.f a0_2 0 1000000).bind fun t222 => (some t222)) else (some false)) else (some false)) else (some false)) = some r := H
  have A4 := Aside0.mk A40
  clear A40
  by_cases c5 : t221 = true
  ·subst c5
   have H1 : (if (l0_0.length : Int) ≤ 12 then (if (l0_1.length : Int) ≤ 12 then ((impl_inRange.f a0_2 0 1000000).bind fun t222 => (some t222)) else (some false)) else (some false)) = some r := by rw [if_pos rfl] at H; exact H
   clear H
   have H := H1
   clear H1
   by_cases c6 : (l0_0.length : Int) ≤ 12
   ·rw [if_pos c6] at H
    have c6b0 : decide ((l0_0.length : Int) ≤ 12) = true := decide_eq_true c6
    have c6b1 : decide (l0_0.length ≤ 12) = true := decide_eq_true (by omega)
    clear c6
    by_cases c7 : (l0_1.length : Int) ≤ 12
    ·rw [if_pos c7] at H
     have c7b0 : decide ((l0_1.length : Int) ≤ 12) = true := decide_eq_true c7
     have c7b1 : decide (l0_1.length ≤ 12) = true := decide_eq_true (by omega)
     clear c7
     replace H := Option.bind_eq_some_iff.mp H
     obtain ⟨t222, A80, H⟩ := H
     replace H : (some t222) = some r := H
     have A8 := Aside0.mk A80
     clear A80
     obtain rfl := Option.some.inj H
     go_enter Try.func47, Try.ntmps47
     go_wp2_with (first | ((with_reducible refine gate_dst (N := 1) rfl ?_); (try (refine gate_guard (by rfl) ?_; dsimp only)); refine box_event rfl (N := 1) rfl (cs := #[.slice A0_0 l0_0.length c0_0, .slice A0_1 l0_1.length c0_1, .int .i64 a0_2]) (t := 52) sE ?_; intro gb219 hg w9 hbox hb; have BK219 := Aside0.mk hbox; have GW219 := gS w hg (lU); have GE219 := gS w hg (lU); replace HB := bH (lU) hb; clear hb hbox hg; have hcz10_0 := cz BK219 0 (.slice A0_0 l0_0.length c0_0); have hcz10_1 := cz BK219 1 (.slice A0_1 l0_1.length c0_1); have hcz10_2 := cz BK219 2 (.int .i64 a0_2); have hfz10_0 := fz BK219 0; have hfz10_1 := fz BK219 1; have hfz10_2 := fz BK219 2) | ((with_reducible refine gate_callee (f := 58) rfl ?_); refine goesL_ (some 5) rfl rfl Try.func58 (by kernel_rfl) rfl #[.slice A0_0 l0_0.length c0_0] rfl aE ?_; (with_reducible refine (impl_areNames.calls k _ _ l0_0 true _ ?side1 ?side2 A2.out).mono ?_); (case side1 => exact cU (Kd.C_below HR0_0.out HB.out)); (case side2 => exact HC0_0.out); rintro e w' ⟨rfl, ⟨nd, rfl⟩⟩; refine ⟨_, rfl, ?_⟩) | (go_at_call 58; (with_reducible refine (impl_areNames.calls k _ _ l0_1 true _ ?side1 ?side2 A4.out).mono ?_); (case side1 => exact cU (Kd.C_below HR0_1.out (lV1 GE219))); (case side2 => exact HC0_1.out); rintro e w' ⟨rfl, ⟨nd, rfl⟩⟩) | (go_at_call 36; (with_reducible refine (impl_inRange.calls a0_2 0 1000000 t222 _ A8.out).mono ?_); rintro e w' ⟨rfl, ⟨nd, rfl⟩⟩))
     go_ret
     exact ⟨eE, lV1 GE219⟩
    ·rw [if_neg c7] at H
     have c7b0 : decide ((l0_1.length : Int) ≤ 12) = false := decide_eq_false c7
     have c7b1 : decide (l0_1.length ≤ 12) = false := decide_eq_false (by omega)
     clear c7
     obtain rfl := Option.some.inj H
     go_enter Try.func47, Try.ntmps47
     go_wp2_with (first | ((with_reducible refine gate_dst (N := 1) rfl ?_); (try (refine gate_guard (by rfl) ?_; dsimp only)); refine box_event rfl (N := 1) rfl (cs := #[.slice A0_0 l0_0.length c0_0, .slice A0_1 l0_1.length c0_1, .int .i64 a0_2]) (t := 52) sE ?_; intro gb219 hg w11 hbox hb; have BK219 := Aside0.mk hbox; have GW219 := gS w hg (lU); have GE219 := gS w hg (lU); replace HB := bH (lU) hb; clear hb hbox hg; have hcz12_0 := cz BK219 0 (.slice A0_0 l0_0.length c0_0); have hcz12_1 := cz BK219 1 (.slice A0_1 l0_1.length c0_1); have hcz12_2 := cz BK219 2 (.int .i64 a0_2); have hfz12_0 := fz BK219 0; have hfz12_1 := fz BK219 1; have hfz12_2 := fz BK219 2) | ((with_reducible refine gate_callee (f := 58) rfl ?_); refine goesL_ (some 5) rfl rfl Try.func58 (by kernel_rfl) rfl #[.slice A0_0 l0_0.length c0_0] rfl aE ?_; (with_reducible refine (impl_areNames.calls k _ _ l0_0 true _ ?side1 ?side2 A2.out).mono ?_); (case side1 => exact cU (Kd.C_below HR0_0.out HB.out)); (case side2 => exact HC0_0.out); rintro e w' ⟨rfl, ⟨nd, rfl⟩⟩; refine ⟨_, rfl, ?_⟩) | (go_at_call 58; (with_reducible refine (impl_areNames.calls k _ _ l0_1 true _ ?side1 ?side2 A4.out).mono ?_); (case side1 => exact cU (Kd.C_below HR0_1.out (lV1 GE219))); (case side2 => exact HC0_1.out); rintro e w' ⟨rfl, ⟨nd, rfl⟩⟩))
     go_ret
     exact ⟨eE, lV1 GE219⟩
   ·rw [if_neg c6] at H
    have c6b0 : decide ((l0_0.length : Int) ≤ 12) = false := decide_eq_false c6
    have c6b1 : decide (l0_0.length ≤ 12) = false := decide_eq_false (by omega)
    clear c6
    obtain rfl := Option.some.inj H
    go_enter Try.func47, Try.ntmps47
    go_wp2_with (first | ((with_reducible refine gate_dst (N := 1) rfl ?_); (try (refine gate_guard (by rfl) ?_; dsimp only)); refine box_event rfl (N := 1) rfl (cs := #[.slice A0_0 l0_0.length c0_0, .slice A0_1 l0_1.length c0_1, .int .i64 a0_2]) (t := 52) sE ?_; intro gb219 hg w13 hbox hb; have BK219 := Aside0.mk hbox; have GW219 := gS w hg (lU); have GE219 := gS w hg (lU); replace HB := bH (lU) hb; clear hb hbox hg; have hcz14_0 := cz BK219 0 (.slice A0_0 l0_0.length c0_0); have hcz14_1 := cz BK219 1 (.slice A0_1 l0_1.length c0_1); have hcz14_2 := cz BK219 2 (.int .i64 a0_2); have hfz14_0 := fz BK219 0; have hfz14_1 := fz BK219 1; have hfz14_2 := fz BK219 2) | ((with_reducible refine gate_callee (f := 58) rfl ?_); refine goesL_ (some 5) rfl rfl Try.func58 (by kernel_rfl) rfl #[.slice A0_0 l0_0.length c0_0] rfl aE ?_; (with_reducible refine (impl_areNames.calls k _ _ l0_0 true _ ?side1 ?side2 A2.out).mono ?_); (case side1 => exact cU (Kd.C_below HR0_0.out HB.out)); (case side2 => exact HC0_0.out); rintro e w' ⟨rfl, ⟨nd, rfl⟩⟩; refine ⟨_, rfl, ?_⟩) | (go_at_call 58; (with_reducible refine (impl_areNames.calls k _ _ l0_1 true _ ?side1 ?side2 A4.out).mono ?_); (case side1 => exact cU (Kd.C_below HR0_1.out (lV1 GE219))); (case side2 => exact HC0_1.out); rintro e w' ⟨rfl, ⟨nd, rfl⟩⟩))
    go_ret
    exact ⟨eE, lV1 GE219⟩
  ·replace c5 := Bool.eq_false_iff.mpr c5
   subst c5
   have H1 : (some false) = some r := by rw [if_neg (show ¬ (false = true) by decide)] at H; exact H
   clear H
   have H := H1
   clear H1
   obtain rfl := Option.some.inj H
   go_enter Try.func47, Try.ntmps47
   go_wp2_with (first | ((with_reducible refine gate_dst (N := 1) rfl ?_); (try (refine gate_guard (by rfl) ?_; dsimp only)); refine box_event rfl (N := 1) rfl (cs := #[.slice A0_0 l0_0.length c0_0, .slice A0_1 l0_1.length c0_1, .int .i64 a0_2]) (t := 52) sE ?_; intro gb219 hg w15 hbox hb; have BK219 := Aside0.mk hbox; have GW219 := gS w hg (lU); have GE219 := gS w hg (lU); replace HB := bH (lU) hb; clear hb hbox hg; have hcz16_0 := cz BK219 0 (.slice A0_0 l0_0.length c0_0); have hcz16_1 := cz BK219 1 (.slice A0_1 l0_1.length c0_1); have hcz16_2 := cz BK219 2 (.int .i64 a0_2); have hfz16_0 := fz BK219 0; have hfz16_1 := fz BK219 1; have hfz16_2 := fz BK219 2) | ((with_reducible refine gate_callee (f := 58) rfl ?_); refine goesL_ (some 5) rfl rfl Try.func58 (by kernel_rfl) rfl #[.slice A0_0 l0_0.length c0_0] rfl aE ?_; (with_reducible refine (impl_areNames.calls k _ _ l0_0 true _ ?side1 ?side2 A2.out).mono ?_); (case side1 => exact cU (Kd.C_below HR0_0.out HB.out)); (case side2 => exact HC0_0.out); rintro e w' ⟨rfl, ⟨nd, rfl⟩⟩; refine ⟨_, rfl, ?_⟩) | (go_at_call 58; (with_reducible refine (impl_areNames.calls k _ _ l0_1 false _ ?side1 ?side2 A4.out).mono ?_); (case side1 => exact cU (Kd.C_below HR0_1.out (lV1 GE219))); (case side2 => exact HC0_1.out); rintro e w' ⟨rfl, ⟨nd, rfl⟩⟩))
   go_ret
   exact ⟨eE, lV1 GE219⟩
 ·replace c3 := Bool.eq_false_iff.mpr c3
  subst c3
  have H1 : (some false) = some r := by rw [if_neg (show ¬ (false = true) by decide)] at H; exact H
  clear H
  have H := H1
  clear H1
  obtain rfl := Option.some.inj H
  go_enter Try.func47, Try.ntmps47
  go_wp2_with (first | ((with_reducible refine gate_dst (N := 1) rfl ?_); (try (refine gate_guard (by rfl) ?_; dsimp only)); refine box_event rfl (N := 1) rfl (cs := #[.slice A0_0 l0_0.length c0_0, .slice A0_1 l0_1.length c0_1, .int .i64 a0_2]) (t := 52) sE ?_; intro gb219 hg w17 hbox hb; have BK219 := Aside0.mk hbox; have GW219 := gS w hg (lU); have GE219 := gS w hg (lU); replace HB := bH (lU) hb; clear hb hbox hg; have hcz18_0 := cz BK219 0 (.slice A0_0 l0_0.length c0_0); have hcz18_1 := cz BK219 1 (.slice A0_1 l0_1.length c0_1); have hcz18_2 := cz BK219 2 (.int .i64 a0_2); have hfz18_0 := fz BK219 0; have hfz18_1 := fz BK219 1; have hfz18_2 := fz BK219 2) | ((with_reducible refine gate_callee (f := 58) rfl ?_); refine goesL_ (some 5) rfl rfl Try.func58 (by kernel_rfl) rfl #[.slice A0_0 l0_0.length c0_0] rfl aE ?_; (with_reducible refine (impl_areNames.calls k _ _ l0_0 false _ ?side1 ?side2 A2.out).mono ?_); (case side1 => exact cU (Kd.C_below HR0_0.out HB.out)); (case side2 => exact HC0_0.out); rintro e w' ⟨rfl, ⟨nd, rfl⟩⟩; refine ⟨_, rfl, ?_⟩))
  go_ret
  exact ⟨eE, lV1 GE219⟩
def bytealg_CompareString.f (a0 : ByteArray) (a1 : ByteArray) : Option (Int) := some (cmps a0 a1)
set_option maxHeartbeats 8000000 in
set_option maxRecDepth 100000 in
theorem bytealg_CompareString.calls (a0 : ByteArray) (a1 : ByteArray) (r : Int) (w : World) (h : bytealg_CompareString.f a0 a1 = some r) :
  Calls Try.prog 76 #[.string a0, .string a1] w fun e w' => e = .returned (.int .i64 r) ∧ Drawn0 w w' := by
 have hx78 : ∀ (x_ y_ : ByteArray) (W_ : World), (callFunc 78 #[.string x_, .string y_]).run Try.prog W_ = .ok (.value (.int .i64 (cmps x_ y_))) W_ := fun x_ y_ W_ => call_cmps Try.func78 (by kernel_rfl) (by kernel_rfl) (by kernel_rfl) (by kernel_rfl) x_ y_ W_
 have H : (some (cmps a0 a1)) = some r := h
 clear h
 obtain rfl := Option.some.inj H
 go_enter Try.func76, Try.ntmps76
 go_wp2
 go_ret
 exact ⟨by first | rfl | (simp; done) | (simp [*]; done) | exact not_isEmpty _ | exact (not_isEmpty _).symm | exact is_empty _ | exact (is_empty _).symm, by repeat (first | exact Drawn0.refl _ | apply Drawn0.step)⟩
def strings_Compare.f (a0 : ByteArray) (a1 : ByteArray) : Option (Int) := (bytealg_CompareString.f a0 a1).bind fun t223 => (some t223)
set_option maxHeartbeats 8000000 in
set_option maxRecDepth 100000 in
theorem strings_Compare.calls (a0 : ByteArray) (a1 : ByteArray) (r : Int) (w : World) (h : strings_Compare.f a0 a1 = some r) :
  Calls Try.prog 70 #[.string a0, .string a1] w fun e w' => e = .returned (.int .i64 r) ∧ Drawn0 w w' := by
 have H : ((bytealg_CompareString.f a0 a1).bind fun t223 => (some t223)) = some r := h
 clear h
 replace H := Option.bind_eq_some_iff.mp H
 obtain ⟨t223, A30, H⟩ := H
 replace H : (some t223) = some r := H
 have A3 := Aside0.mk A30
 clear A30
 obtain rfl := Option.some.inj H
 go_enter Try.func70, Try.ntmps70
 go_wp2_with (first | ((with_reducible refine gate_callee (f := 76) rfl ?_); refine goesL_ (some 7) rfl rfl Try.func76 (by kernel_rfl) rfl #[.string a0, .string a1] rfl aE ?_; (with_reducible refine (bytealg_CompareString.calls a0 a1 t223 _ A3.out).mono ?_); rintro e w' ⟨rfl, ⟨nd, rfl⟩⟩; refine ⟨_, rfl, ?_⟩))
 go_ret
 exact ⟨by first | rfl | (simp; done) | (simp [*]; done) | exact not_isEmpty _ | exact (not_isEmpty _).symm | exact is_empty _ | exact (is_empty _).symm, by repeat (first | exact Drawn0.refl _ | apply Drawn0.step)⟩
def impl_Entity_place_1.f (a0_0 : ByteArray) (a0_1 : Int) (a0_2 : Int) (a1 : ByteArray) : Option (Int) := (strings_Compare.f a0_0 a1).bind fun t225 => (some t225)
set_option maxHeartbeats 8000000 in
set_option maxRecDepth 100000 in
theorem impl_Entity_place_1.calls (a0_0 : ByteArray) (a0_1 : Int) (a0_2 : Int) (a1 : ByteArray) (r : Int) (w : World) (h : impl_Entity_place_1.f a0_0 a0_1 a0_2 a1 = some r) :
  Calls Try.prog 69 #[.agg #[.string a0_0, .int .i64 a0_1, .int .i64 a0_2], .string a1] w fun e w' => e = .returned (.int .i64 r) ∧ Below w.heap.size w w' := by
 have hu80 := Try.underlying80
 have HB := Aside0.mk (Below.refl w.heap.size w)
 have H : ((strings_Compare.f a0_0 a1).bind fun t225 => (some t225)) = some r := h
 clear h
 replace H := Option.bind_eq_some_iff.mp H
 obtain ⟨t225, A30, H⟩ := H
 replace H : (some t225) = some r := H
 have A3 := Aside0.mk A30
 clear A30
 obtain rfl := Option.some.inj H
 go_enter Try.func69, Try.ntmps69
 go_wp2_with (first | ((with_reducible refine gate_dst (N := 2) rfl ?_); refine box_event rfl (N := 2) rfl (cs := #[.string a0_0, .int .i64 a0_1, .int .i64 a0_2]) (t := 80) sE ?_; intro gb224 hg w4 hbox hb; have BK224 := Aside0.mk hbox; have GW224 := gS w hg (lU); have GE224 := gS w hg (lU); replace HB := bH (lU) hb; clear hb hbox hg; have hcz5_0 := cz BK224 0 (.string a0_0); have hcz5_1 := cz BK224 1 (.int .i64 a0_1); have hcz5_2 := cz BK224 2 (.int .i64 a0_2); have hfz5_0 := fz BK224 0; have hfz5_1 := fz BK224 1; have hfz5_2 := fz BK224 2) | ((with_reducible refine gate_callee (f := 70) rfl ?_); refine goesL_ (some 8) rfl rfl Try.func70 (by kernel_rfl) rfl #[.string a0_0, .string a1] rfl aE ?_; (with_reducible refine (strings_Compare.calls a0_0 a1 t225 _ A3.out).mono ?_); rintro e w' ⟨rfl, ⟨nd, rfl⟩⟩; refine ⟨_, rfl, ?_⟩))
 go_ret
 exact ⟨eE, lV1 GE224⟩
def slices_BinarySearchFunc_w69.l0 : Nat → List (S80) → ByteArray → Int → Int → Int → Option (Int × Bool)
 | 0, _, _, _, _, _ => none
 | k + 1, x0, x1, x8, x9, x10 => if x9 < x10 then (if 0 ≤ (wrap64 ((IntKind.u64.wrap (wrap64 (x9 + x10))) / 2)) then (if (wrap64 ((IntKind.u64.wrap (wrap64 (x9 + x10))) / 2)) < (x0.length : Int) then ((impl_Entity_place_1.f ((rd_T80 x0 (wrap64 ((IntKind.u64.wrap (wrap64 (x9 + x10))) / 2))).f0) ((rd_T80 x0 (wrap64 ((IntKind.u64.wrap (wrap64 (x9 + x10))) / 2))).f1) ((rd_T80 x0 (wrap64 ((IntKind.u64.wrap (wrap64 (x9 + x10))) / 2))).f2) x1).bind fun t227 => (if t227 < 0 then (slices_BinarySearchFunc_w69.l0 k x0 x1 x8 (wrap64 ((wrap64 ((IntKind.u64.wrap (wrap64 (x9 + x10))) / 2)) + 1)) x10) else (slices_BinarySearchFunc_w69.l0 k x0 x1 x8 x9 (wrap64 ((IntKind.u64.wrap (wrap64 (x9 + x10))) / 2))))) else (none)) else (none)) else (if x9 < x8 then (if 0 ≤ x9 then (if x9 < (x0.length : Int) then ((impl_Entity_place_1.f ((rd_T80 x0 x9).f0) ((rd_T80 x0 x9).f1) ((rd_T80 x0 x9).f2) x1).bind fun t229 => (some (x9, (t229 == 0)))) else (none)) else (none)) else (some (x9, false)))
def slices_BinarySearchFunc_w69.f (k : Nat) (l0 : List (S80)) (a1 : ByteArray)  : Option (Int × Bool) := slices_BinarySearchFunc_w69.l0 k l0 a1 (l0.length : Int) 0 (l0.length : Int)
theorem slices_BinarySearchFunc_w69.mono_l : ∀ k, (∀ y0 y1 y2 y3 y4, LeO (slices_BinarySearchFunc_w69.l0 k y0 y1 y2 y3 y4) (slices_BinarySearchFunc_w69.l0 (k + 1) y0 y1 y2 y3 y4))
 | 0 => fun _ _ _ _ _ r h => by simp [slices_BinarySearchFunc_w69.l0] at h
 | k + 1 => by
  have ih0 := slices_BinarySearchFunc_w69.mono_l k
  ·intro y0 y1 y2 y3 y4
   unfold slices_BinarySearchFunc_w69.l0
   repeat' first
   | (with_reducible exact ih0 _ _ _ _ _)
   | (with_reducible exact LeO.refl _)
   | (with_reducible exact LeO.none _)
   | (with_reducible refine LeO.ite ?_ ?_)
   | (with_reducible refine LeO.bind ?_ (fun _ => ?_))
   | exact ih0 _ _ _ _ _
   | exact LeO.none _
   | refine LeO.ite ?_ ?_
   | refine LeO.bind ?_ (fun _ => ?_)
theorem slices_BinarySearchFunc_w69.mono : ∀ a0 a1 k, LeO (slices_BinarySearchFunc_w69.f k a0 a1) (slices_BinarySearchFunc_w69.f (k + 1) a0 a1) := by
 intro a0 a1 k
 have ih0 := slices_BinarySearchFunc_w69.mono_l k
 unfold slices_BinarySearchFunc_w69.f
 repeat' first
   | (with_reducible exact ih0 _ _ _ _ _)
   | (with_reducible exact LeO.refl _)
   | (with_reducible exact LeO.none _)
   | (with_reducible refine LeO.ite ?_ ?_)
   | (with_reducible refine LeO.bind ?_ (fun _ => ?_))
   | exact ih0 _ _ _ _ _
   | exact LeO.none _
   | refine LeO.ite ?_ ?_
   | refine LeO.bind ?_ (fun _ => ?_)
set_option maxHeartbeats 8000000 in
set_option maxRecDepth 100000 in
theorem slices_BinarySearchFunc_w69.calls (k : Nat) (A0 : Option Addr) (c0 : Nat) (l0 : List (S80)) (a1 : ByteArray)  (r1 : Int) (r2 : Bool) (w : World) (hr0 : Kd.C k80 w A0 l0.length l0) (hc0 : l0.length ≤ c0) (h : slices_BinarySearchFunc_w69.f k l0 a1 = some (r1, r2)) :
  Calls Try.prog 68 #[.slice A0 l0.length c0, .string a1, .func (.func 69) #[] #[]] w fun e w' => e = .returned (.tuple #[.int .i64 r1, .bool r2]) ∧ Below w.heap.size w w' := by
 have hu80 := Try.underlying80
 have HR0 := Aside0.mk hr0
 have HC0 := Aside0.mk hc0
 clear hr0 hc0
 have HB := Aside0.mk (Below.refl w.heap.size w)
 have H : (slices_BinarySearchFunc_w69.l0 k l0 a1 (l0.length : Int) 0 (l0.length : Int)) = some (r1, r2) := h
 clear h
 have H' := Aside0.mk H
 clear H
 go_enter Try.func68, Try.ntmps68
 go_wp2
 go_loopg [9, 10] k (fun kq v9 v10 w' => ∃ (x9_1 : Int) (x10_1 : Int), v9 = .int .i64 x9_1 ∧ v10 = .int .i64 x10_1 ∧ Aside0 (slices_BinarySearchFunc_w69.l0 kq l0 a1 (l0.length : Int) x9_1 x10_1 = some (r1, r2)) ∧ Aside0 (kq ≤ k) ∧ Aside0 (Below w.heap.size w w'))
 case atStart => exact ⟨(0), ((l0.length : Int)), tE, tE, H', ⟨Nat.le_refl _⟩, ⟨by repeat (first | (with_reducible first | exact HB.out | apply below_alloc | apply pw_below_drewN | apply below_drew1) | exact HB.out)⟩⟩
 case round =>
  clear H'
  try clear p2
  obtain ⟨x9_1, x10_1, rfl, rfl, HA, HK1, HB⟩ := hrel
  cases gk with
  | zero => exact absurd HA.out (by simp [slices_BinarySearchFunc_w69.l0])
  | succ k1 =>
   have H := HA.out
   clear HA
   simp only [slices_BinarySearchFunc_w69.l0] at H
   by_cases c4 : x9_1 < x10_1
   ·rw [if_pos c4] at H
    have c4b0 : decide (x9_1 < x10_1) = true := decide_eq_true c4
    clear c4
    obtain ⟨ji5, hji5⟩ : ∃ j_ : Int, (wrap64 ((IntKind.u64.wrap (wrap64 (x9_1 + x10_1))) / 2)) = j_ := ⟨_, rfl⟩
    replace H : (if 0 ≤ (ji5) then (if (ji5) < (l0.length : Int) then ((impl_Entity_place_1.f ((rd_T80 l0 (ji5)).f0) ((rd_T80 l0 (ji5)).f1) ((rd_T80 l0 (ji5)).f2) a1).bind fun t227 => (if t227 < 0 then (slices_BinarySearchFunc_w69.l0 k1 l0 a1 (l0.length : Int) (wrap64 ((ji5) + 1)) x10_1) else (slices_BinarySearchFunc_w69.l0 k1 l0 a1 (l0.length : Int) x9_1 ji5))) else (none)) else (none)) = some (r1, r2) := by first | (rw [hji5] at H; exact H) | (simp only [hji5] at H ⊢; exact H)
    have hji5w : (IntKind.i64.wrap ((IntKind.u64.wrap (wrap64 (x9_1 + x10_1))) / 2)) = ji5 := (i64_w _).trans hji5
    by_cases c6 : 0 ≤ (ji5)
    ·rw [if_pos c6] at H
     have c6b0 : decide (0 ≤ (ji5)) = true := decide_eq_true c6
     clear c6
     by_cases c7 : (ji5) < (l0.length : Int)
     ·rw [if_pos c7] at H
      have c7b0 : decide ((ji5) < (l0.length : Int)) = true := decide_eq_true c7
      clear c7
      replace H := Option.bind_eq_some_iff.mp H
      obtain ⟨t227, A80, H⟩ := H
      replace H : (if t227 < 0 then (slices_BinarySearchFunc_w69.l0 k1 l0 a1 (l0.length : Int) (wrap64 ((ji5) + 1)) x10_1) else (slices_BinarySearchFunc_w69.l0 k1 l0 a1 (l0.length : Int) x9_1 ji5)) = some (r1, r2) := H
      have A8 := Aside0.mk A80
      clear A80
      by_cases c9 : t227 < 0
      ·rw [if_pos c9] at H
       have c9b0 : decide (t227 < 0) = true := decide_eq_true c9
       clear c9
       have H' := Aside0.mk H
       clear H
       have p226 : 0 ≤ ((ji5) : Int) := of_decide_eq_true hE
       have q226 : (ji5) < (l0.length : Int) := of_decide_eq_true hE
       obtain ⟨ad226, e226, hx226_0, hx226_1, hx226_2⟩ := at_T80 HR0.out (ji5) p226 q226
       cases e226
       replace hx226_0 := (HB.out.cell (World.block_lt_of_cell? w _ hx226_0)).trans hx226_0
       replace hx226_1 := (HB.out.cell (World.block_lt_of_cell? w _ hx226_1)).trans hx226_1
       replace hx226_2 := (HB.out.cell (World.block_lt_of_cell? w _ hx226_2)).trans hx226_2
       replace p226 := eq_true p226
       replace q226 := eq_true q226
       go_wp2_with (first | ((with_reducible refine gateD_ rfl ?_); refine goesD_ (some 30) rfl rfl Try.func69 (by kernel_rfl) rfl rfl rfl #[.agg #[.string ((rd_T80 l0 (ji5)).f0), .int .i64 ((rd_T80 l0 (ji5)).f1), .int .i64 ((rd_T80 l0 (ji5)).f2)], .string a1] (by (try simp only [List.map_toArray, List.map_cons, List.map_nil]); first | done | (simp only [hji5]; rfl) | rfl | (simp only [List.length_drop, List.length_take]; rfl)) ?_; (with_reducible refine (impl_Entity_place_1.calls ((rd_T80 l0 (ji5)).f0) ((rd_T80 l0 (ji5)).f1) ((rd_T80 l0 (ji5)).f2) a1 t227 _ A8.out).mono ?_); rintro e w10 ⟨rfl, hb⟩; refine ⟨_, rfl, ?_⟩; replace HB := bH (lU) hb; (try clear hb)))
       go_roundg k1
       case measure => have := HK1.out; omega
       case rel => exact ⟨(wrap64 ((ji5) + 1)), (x10_1), (by first | rfl | (simp; done) | (simp only [← hji5] <;> (first | rfl | simp)) | (simp [*]; done) | exact not_isEmpty _ | exact (not_isEmpty _).symm | exact is_empty _ | exact (is_empty _).symm), tE, H', ⟨by have := HK1.out; omega⟩, ⟨by repeat (first | (with_reducible first | exact HB.out | apply below_alloc | apply pw_below_drewN | apply below_drew1) | exact HB.out)⟩⟩
      ·rw [if_neg c9] at H
       have c9b0 : decide (t227 < 0) = false := decide_eq_false c9
       clear c9
       have H' := Aside0.mk H
       clear H
       have p226 : 0 ≤ ((ji5) : Int) := of_decide_eq_true hE
       have q226 : (ji5) < (l0.length : Int) := of_decide_eq_true hE
       obtain ⟨ad226, e226, hx226_0, hx226_1, hx226_2⟩ := at_T80 HR0.out (ji5) p226 q226
       cases e226
       replace hx226_0 := (HB.out.cell (World.block_lt_of_cell? w _ hx226_0)).trans hx226_0
       replace hx226_1 := (HB.out.cell (World.block_lt_of_cell? w _ hx226_1)).trans hx226_1
       replace hx226_2 := (HB.out.cell (World.block_lt_of_cell? w _ hx226_2)).trans hx226_2
       replace p226 := eq_true p226
       replace q226 := eq_true q226
       go_wp2_with (first | ((with_reducible refine gateD_ rfl ?_); refine goesD_ (some 30) rfl rfl Try.func69 (by kernel_rfl) rfl rfl rfl #[.agg #[.string ((rd_T80 l0 (ji5)).f0), .int .i64 ((rd_T80 l0 (ji5)).f1), .int .i64 ((rd_T80 l0 (ji5)).f2)], .string a1] (by (try simp only [List.map_toArray, List.map_cons, List.map_nil]); first | done | (simp only [hji5]; rfl) | rfl | (simp only [List.length_drop, List.length_take]; rfl)) ?_; (with_reducible refine (impl_Entity_place_1.calls ((rd_T80 l0 (ji5)).f0) ((rd_T80 l0 (ji5)).f1) ((rd_T80 l0 (ji5)).f2) a1 t227 _ A8.out).mono ?_); rintro e w11 ⟨rfl, hb⟩; refine ⟨_, rfl, ?_⟩; replace HB := bH (lU) hb; (try clear hb)))
       go_roundg k1
       case measure => have := HK1.out; omega
       case rel => exact ⟨(x9_1), (ji5), tE, (by first | rfl | (simp; done) | (simp only [← hji5] <;> (first | rfl | simp)) | (simp [*]; done) | exact not_isEmpty _ | exact (not_isEmpty _).symm | exact is_empty _ | exact (is_empty _).symm), H', ⟨by have := HK1.out; omega⟩, ⟨by repeat (first | (with_reducible first | exact HB.out | apply below_alloc | apply pw_below_drewN | apply below_drew1) | exact HB.out)⟩⟩
     ·rw [if_neg c7] at H
      exact absurd H (by simp)
    ·rw [if_neg c6] at H
     exact absurd H (by simp)
   ·rw [if_neg c4] at H
    have c4b0 : decide (x9_1 < x10_1) = false := decide_eq_false c4
    clear c4
    by_cases c12 : x9_1 < (l0.length : Int)
    ·rw [if_pos c12] at H
     have c12b0 : decide (x9_1 < (l0.length : Int)) = true := decide_eq_true c12
     clear c12
     by_cases c13 : 0 ≤ x9_1
     ·rw [if_pos c13] at H
      have c13b0 : decide (0 ≤ x9_1) = true := decide_eq_true c13
      clear c13
      by_cases c14 : x9_1 < (l0.length : Int)
      ·rw [if_pos c14] at H
       have c14b0 : decide (x9_1 < (l0.length : Int)) = true := decide_eq_true c14
       clear c14
       replace H := Option.bind_eq_some_iff.mp H
       obtain ⟨t229, A150, H⟩ := H
       replace H : (some (x9_1, (t229 == 0))) = some (r1, r2) := H
       have A15 := Aside0.mk A150
       clear A150
       simp only [Option.some.injEq, Prod.mk.injEq] at H
       obtain ⟨rfl, rfl⟩ := H
       have p228 : 0 ≤ (x9_1 : Int) := of_decide_eq_true hE
       have q228 : x9_1 < (l0.length : Int) := of_decide_eq_true hE
       obtain ⟨ad228, e228, hx228_0, hx228_1, hx228_2⟩ := at_T80 HR0.out x9_1 p228 q228
       cases e228
       replace hx228_0 := (HB.out.cell (World.block_lt_of_cell? w _ hx228_0)).trans hx228_0
       replace hx228_1 := (HB.out.cell (World.block_lt_of_cell? w _ hx228_1)).trans hx228_1
       replace hx228_2 := (HB.out.cell (World.block_lt_of_cell? w _ hx228_2)).trans hx228_2
       replace p228 := eq_true p228
       replace q228 := eq_true q228
       go_wp2_with (first | (go_at_call 69; (with_reducible refine (impl_Entity_place_1.calls ((rd_T80 l0 x9_1).f0) ((rd_T80 l0 x9_1).f1) ((rd_T80 l0 x9_1).f2) a1 t229 _ A15.out).mono ?_); rintro e w16 ⟨rfl, hb⟩; replace HB := bH (lU) hb; (try clear hb)))
       go_ret2
       exact ⟨eE, lU⟩
      ·rw [if_neg c14] at H
       exact absurd H (by simp)
     ·rw [if_neg c13] at H
      exact absurd H (by simp)
    ·rw [if_neg c12] at H
     have c12b0 : decide (x9_1 < (l0.length : Int)) = false := decide_eq_false c12
     clear c12
     simp only [Option.some.injEq, Prod.mk.injEq] at H
     obtain ⟨rfl, rfl⟩ := H
     go_wp2
     go_ret2
     exact ⟨eE, lU⟩
def impl_Entity_place.f (k : Nat) (a0_0 : Int) (l0_1 : List (S80)) (a1 : ByteArray) : Option (Int × Bool) := (slices_BinarySearchFunc_w69.f k l0_1 a1).bind fun bt231 => (some (bt231.1, bt231.2))
theorem impl_Entity_place.mono : ∀ a0 a1 a2 k, LeO (impl_Entity_place.f k a0 a1 a2) (impl_Entity_place.f (k + 1) a0 a1 a2) := by
 intro a0 a1 a2 k
 unfold impl_Entity_place.f
 repeat' first
   | (with_reducible exact slices_BinarySearchFunc_w69.mono _ _ _)
   | (with_reducible exact LeO.refl _)
   | (with_reducible exact LeO.none _)
   | (with_reducible refine LeO.ite ?_ ?_)
   | (with_reducible refine LeO.bind ?_ (fun _ => ?_))
   | exact slices_BinarySearchFunc_w69.mono _ _ _
   | exact LeO.none _
   | refine LeO.ite ?_ ?_
   | refine LeO.bind ?_ (fun _ => ?_)
set_option maxHeartbeats 8000000 in
set_option maxRecDepth 100000 in
theorem impl_Entity_place.calls (k : Nat) (a0_0 : Int) (A0_1 : Option Addr) (c0_1 : Nat) (l0_1 : List (S80)) (a1 : ByteArray) (r1 : Int) (r2 : Bool) (w : World) (hr0_1 : Kd.C k80 w A0_1 l0_1.length l0_1) (hc0_1 : l0_1.length ≤ c0_1) (h : impl_Entity_place.f k a0_0 l0_1 a1 = some (r1, r2)) :
  Calls Try.prog 59 #[.agg #[.int .i64 a0_0, .slice A0_1 l0_1.length c0_1], .string a1] w fun e w' => e = .returned (.tuple #[.int .i64 r1, .bool r2]) ∧ Below w.heap.size w w' := by
 have hu77 := Try.underlying77
 have HR0_1 := Aside0.mk hr0_1
 have HC0_1 := Aside0.mk hc0_1
 clear hr0_1 hc0_1
 have HB := Aside0.mk (Below.refl w.heap.size w)
 have H : ((slices_BinarySearchFunc_w69.f k l0_1 a1).bind fun bt231 => (some (bt231.1, bt231.2))) = some (r1, r2) := h
 clear h
 replace H := Option.bind_eq_some_iff.mp H
 obtain ⟨⟨t231, t232⟩, A30, H⟩ := H
 replace H : (some (t231, t232)) = some (r1, r2) := H
 have A3 := Aside0.mk A30
 clear A30
 simp only [Option.some.injEq, Prod.mk.injEq] at H
 obtain ⟨rfl, rfl⟩ := H
 go_enter Try.func59, Try.ntmps59
 go_wp2_with (first | ((with_reducible refine gate_dst (N := 2) rfl ?_); refine box_event rfl (N := 2) rfl (cs := #[.int .i64 a0_0, .slice A0_1 l0_1.length c0_1]) (t := 77) sE ?_; intro gb230 hg w4 hbox hb; have BK230 := Aside0.mk hbox; have GW230 := gS w hg (lU); have GE230 := gS w hg (lU); replace HB := bH (lU) hb; clear hb hbox hg; have hcz5_0 := cz BK230 0 (.int .i64 a0_0); have hcz5_1 := cz BK230 1 (.slice A0_1 l0_1.length c0_1); have hfz5_0 := fz BK230 0; have hfz5_1 := fz BK230 1) | ((with_reducible refine gate_callee (f := 68) rfl ?_); refine goesL_ (some 9) rfl rfl Try.func68 (by kernel_rfl) rfl #[.slice A0_1 l0_1.length c0_1, .string a1, .func (.func 69) #[] #[]] rfl aE ?_; (with_reducible refine (slices_BinarySearchFunc_w69.calls k _ _ l0_1 a1  t231 t232 _ ?side1 ?side2 A3.out).mono ?_); (case side1 => exact cU (Kd.C_below HR0_1.out HB.out)); (case side2 => exact HC0_1.out); rintro e w6 ⟨rfl, hb⟩; refine ⟨_, rfl, ?_⟩; replace BK230 := bB (bV BK230) hb; replace HB := bH (lV1 GE230) hb; (try clear hb)))
 go_ret2
 exact ⟨eE, lV1 GE230⟩
end Go.Proofs.Ytcpodjegdpbalaa.PFnExactQueryWorld
namespace Go.Proofs.Ytcpodjegdpbalaa.PFnExactQueryWorld
open Go.RowKit Go.Proofs.YtcpodjegdpbalaaW.PrintWords Go.Proofs.YtcpodjegdpbalaaW.PrintLast Go.Proofs.YtcpodjegdpbalaaW.PrintMore
attribute [local go_sem] max2_int min2_int max_two min_two max_three min_three max_four min_four   -- for this text's walks alone
set_option linter.unusedVariables false
set_option linter.unusedSimpArgs false
mutual
def impl_Query_takes.l0 : Nat → Bool → List ByteArray → Int → Int → List ByteArray → List ByteArray → Int → Int → List (S80) → Option (Bool)
 | 0, _, _, _, _, _, _, _, _, _ => none
 | k + 1, x5, x18, x19, x20, x234000, x234001, x234002, x235000, x235001 => if x20 < x19 then (if 0 ≤ x20 then (if x20 < (x18.length : Int) then ((impl_Entity_place.f k x235000 x235001 (rdOf ByteArray.empty x18 x20)).bind fun bt236 => (if bt236.2 = true then (if x5 = true then (impl_Query_takes.l0 k true x18 x19 (wrap64 (x20 + 1)) x234000 x234001 x234002 x235000 x235001) else (if 0 ≤ bt236.1 then (if bt236.1 < (x235001.length : Int) then (impl_Query_takes.l0 k (decide (((rd_T80 x235001 bt236.1).f2) ≥ x234002)) x18 x19 (wrap64 (x20 + 1)) x234000 x234001 x234002 x235000 x235001) else (none)) else (none))) else (some false))) else (none)) else (none)) else (impl_Query_takes.l1 k x5 x234001 (x234001.length : Int) 0 x235000 x235001)
def impl_Query_takes.l1 : Nat → Bool → List ByteArray → Int → Int → Int → List (S80) → Option (Bool)
 | 0, _, _, _, _, _, _ => none
 | k + 1, x5, x46, x47, x48, x235000, x235001 => if x48 < x47 then (if 0 ≤ x48 then (if x48 < (x46.length : Int) then ((impl_Entity_place.f k x235000 x235001 (rdOf ByteArray.empty x46 x48)).bind fun bt240 => (if bt240.2 = true then (some false) else (impl_Query_takes.l1 k x5 x46 x47 (wrap64 (x48 + 1)) x235000 x235001))) else (none)) else (none)) else (some x5)
end
def impl_Query_takes.f (k : Nat) (l0_0 : List ByteArray) (l0_1 : List ByteArray) (a0_2 : Int) (a1_0 : Int) (l1_1 : List (S80)) : Option (Bool) := impl_Query_takes.l0 k (a0_2 == 0) l0_0 (l0_0.length : Int) 0 l0_0 l0_1 a0_2 a1_0 l1_1
theorem impl_Query_takes.mono_l : ∀ k, (∀ y0 y1 y2 y3 y4 y5 y6 y7 y8, LeO (impl_Query_takes.l0 k y0 y1 y2 y3 y4 y5 y6 y7 y8) (impl_Query_takes.l0 (k + 1) y0 y1 y2 y3 y4 y5 y6 y7 y8)) ∧ (∀ y0 y1 y2 y3 y4 y5, LeO (impl_Query_takes.l1 k y0 y1 y2 y3 y4 y5) (impl_Query_takes.l1 (k + 1) y0 y1 y2 y3 y4 y5))
 | 0 => ⟨fun _ _ _ _ _ _ _ _ _ r h => by simp [impl_Query_takes.l0] at h, fun _ _ _ _ _ _ r h => by simp [impl_Query_takes.l1] at h⟩
 | k + 1 => by
  obtain ⟨ih0, ih1⟩ := impl_Query_takes.mono_l k
  refine ⟨?_, ?_⟩
  ·intro y0 y1 y2 y3 y4 y5 y6 y7 y8
   unfold impl_Query_takes.l0
   repeat' first
   | (with_reducible exact ih0 _ _ _ _ _ _ _ _ _)
   | (with_reducible exact ih1 _ _ _ _ _ _)
   | (with_reducible exact impl_Entity_place.mono _ _ _ _)
   | (with_reducible exact LeO.refl _)
   | (with_reducible exact LeO.none _)
   | (with_reducible refine LeO.ite ?_ ?_)
   | (with_reducible refine LeO.bind ?_ (fun _ => ?_))
   | exact ih0 _ _ _ _ _ _ _ _ _
   | exact ih1 _ _ _ _ _ _
   | exact impl_Entity_place.mono _ _ _ _
   | exact LeO.none _
   | refine LeO.ite ?_ ?_
   | refine LeO.bind ?_ (fun _ => ?_)
  ·intro y0 y1 y2 y3 y4 y5
   unfold impl_Query_takes.l1
   repeat' first
   | (with_reducible exact ih0 _ _ _ _ _ _ _ _ _)
   | (with_reducible exact ih1 _ _ _ _ _ _)
   | (with_reducible exact impl_Entity_place.mono _ _ _ _)
   | (with_reducible exact LeO.refl _)
   | (with_reducible exact LeO.none _)
   | (with_reducible refine LeO.ite ?_ ?_)
   | (with_reducible refine LeO.bind ?_ (fun _ => ?_))
   | exact ih0 _ _ _ _ _ _ _ _ _
   | exact ih1 _ _ _ _ _ _
   | exact impl_Entity_place.mono _ _ _ _
   | exact LeO.none _
   | refine LeO.ite ?_ ?_
   | refine LeO.bind ?_ (fun _ => ?_)
theorem impl_Query_takes.mono : ∀ a0 a1 a2 a3 a4 k, LeO (impl_Query_takes.f k a0 a1 a2 a3 a4) (impl_Query_takes.f (k + 1) a0 a1 a2 a3 a4) := by
 intro a0 a1 a2 a3 a4 k
 obtain ⟨ih0, ih1⟩ := impl_Query_takes.mono_l k
 unfold impl_Query_takes.f
 repeat' first
   | (with_reducible exact ih0 _ _ _ _ _ _ _ _ _)
   | (with_reducible exact ih1 _ _ _ _ _ _)
   | (with_reducible exact impl_Entity_place.mono _ _ _ _)
   | (with_reducible exact LeO.refl _)
   | (with_reducible exact LeO.none _)
   | (with_reducible refine LeO.ite ?_ ?_)
   | (with_reducible refine LeO.bind ?_ (fun _ => ?_))
   | exact ih0 _ _ _ _ _ _ _ _ _
   | exact ih1 _ _ _ _ _ _
   | exact impl_Entity_place.mono _ _ _ _
   | exact LeO.none _
   | refine LeO.ite ?_ ?_
   | refine LeO.bind ?_ (fun _ => ?_)
set_option maxHeartbeats 8000000 in
set_option maxRecDepth 100000 in
theorem impl_Query_takes.calls (k : Nat) (A0_0 : Option Addr) (c0_0 : Nat) (l0_0 : List ByteArray) (A0_1 : Option Addr) (c0_1 : Nat) (l0_1 : List ByteArray) (a0_2 : Int) (a1_0 : Int) (A1_1 : Option Addr) (c1_1 : Nat) (l1_1 : List (S80)) (r : Bool) (w : World) (hr0_0 : Kd.C Kd.string w A0_0 l0_0.length l0_0) (hc0_0 : l0_0.length ≤ c0_0) (hr0_1 : Kd.C Kd.string w A0_1 l0_1.length l0_1) (hc0_1 : l0_1.length ≤ c0_1) (hr1_1 : Kd.C k80 w A1_1 l1_1.length l1_1) (hc1_1 : l1_1.length ≤ c1_1) (h : impl_Query_takes.f k l0_0 l0_1 a0_2 a1_0 l1_1 = some r) :
  Calls Try.prog 48 #[.agg #[.slice A0_0 l0_0.length c0_0, .slice A0_1 l0_1.length c0_1, .int .i64 a0_2], .agg #[.int .i64 a1_0, .slice A1_1 l1_1.length c1_1]] w fun e w' => e = .returned (.bool r) ∧ Below w.heap.size w w' := by
 have hu52 := Try.underlying52
 have hu77 := Try.underlying77
 have HR0_0 := Aside0.mk hr0_0
 have HC0_0 := Aside0.mk hc0_0
 clear hr0_0 hc0_0
 have HR0_1 := Aside0.mk hr0_1
 have HC0_1 := Aside0.mk hc0_1
 clear hr0_1 hc0_1
 have HR1_1 := Aside0.mk hr1_1
 have HC1_1 := Aside0.mk hc1_1
 clear hr1_1 hc1_1
 have HB := Aside0.mk (Below.refl w.heap.size w)
 have H : (impl_Query_takes.l0 k (a0_2 == 0) l0_0 (l0_0.length : Int) 0 l0_0 l0_1 a0_2 a1_0 l1_1) = some r := h
 clear h
 have H' := Aside0.mk H
 clear H
 go_enter Try.func48, Try.ntmps48
 go_wp2_with (first | ((with_reducible refine gate_dst (N := 2) rfl ?_); refine box_event rfl (N := 2) rfl (cs := #[.slice A0_0 l0_0.length c0_0, .slice A0_1 l0_1.length c0_1, .int .i64 a0_2]) (t := 52) sE ?_; intro gb233 hg w3 hbox hb; have BK233 := Aside0.mk hbox; have GW233 := gS w hg (lU); have GE233 := gS w hg (lU); replace HB := bH (lU) hb; clear hb hbox hg) | ((with_reducible refine gate_dst (N := 3) rfl ?_); refine box_event rfl (N := 3) rfl (cs := #[.int .i64 a1_0, .slice A1_1 l1_1.length c1_1]) (t := 77) sE ?_; intro gb234 hg w4 hbox hb; have BK234 := Aside0.mk hbox; have GW234 := gS w hg (lV1 GE233); have GE234 := gS w hg (lV1 GE233); replace HB := bH (lV1 GE233) hb; have NB233_234 := nL hg (bV BK233); have NB234_233 := nG hg (bV BK233); replace BK233 := bB (bV BK233) hb; clear hb hbox hg; have hnb5 := NB233_234.out; have hnc5 := NB234_233.out; have hcz6_0 := cz BK233 0 (.slice A0_0 l0_0.length c0_0); have hcz6_1 := cz BK233 1 (.slice A0_1 l0_1.length c0_1); have hcz6_2 := cz BK233 2 (.int .i64 a0_2); have hfz6_0 := fz BK233 0; have hfz6_1 := fz BK233 1; have hfz6_2 := fz BK233 2))
 repeat (go_quiet (first | ((with_reducible refine gate_dst (N := 2) rfl ?_); refine box_event rfl (N := 2) rfl (cs := #[.slice A0_0 l0_0.length c0_0, .slice A0_1 l0_1.length c0_1, .int .i64 a0_2]) (t := 52) sE ?_; intro gb233 hg w3 hbox hb; have BK233 := Aside0.mk hbox; have GW233 := gS w hg (lU); have GE233 := gS w hg (lU); replace HB := bH (lU) hb; clear hb hbox hg) | ((with_reducible refine gate_dst (N := 3) rfl ?_); refine box_event rfl (N := 3) rfl (cs := #[.int .i64 a1_0, .slice A1_1 l1_1.length c1_1]) (t := 77) sE ?_; intro gb234 hg w4 hbox hb; have BK234 := Aside0.mk hbox; have GW234 := gS w hg (lV1 GE233); have GE234 := gS w hg (lV1 GE233); replace HB := bH (lV1 GE233) hb; have NB233_234 := nL hg (bV BK233); have NB234_233 := nG hg (bV BK233); replace BK233 := bB (bV BK233) hb; clear hb hbox hg; have hnb5 := NB233_234.out; have hnc5 := NB234_233.out; have hcz6_0 := cz BK233 0 (.slice A0_0 l0_0.length c0_0); have hcz6_1 := cz BK233 1 (.slice A0_1 l0_1.length c0_1); have hcz6_2 := cz BK233 2 (.int .i64 a0_2); have hfz6_0 := fz BK233 0; have hfz6_1 := fz BK233 1; have hfz6_2 := fz BK233 2)); try go_wp2_with (first | ((with_reducible refine gate_dst (N := 2) rfl ?_); refine box_event rfl (N := 2) rfl (cs := #[.slice A0_0 l0_0.length c0_0, .slice A0_1 l0_1.length c0_1, .int .i64 a0_2]) (t := 52) sE ?_; intro gb233 hg w3 hbox hb; have BK233 := Aside0.mk hbox; have GW233 := gS w hg (lU); have GE233 := gS w hg (lU); replace HB := bH (lU) hb; clear hb hbox hg) | ((with_reducible refine gate_dst (N := 3) rfl ?_); refine box_event rfl (N := 3) rfl (cs := #[.int .i64 a1_0, .slice A1_1 l1_1.length c1_1]) (t := 77) sE ?_; intro gb234 hg w4 hbox hb; have BK234 := Aside0.mk hbox; have GW234 := gS w hg (lV1 GE233); have GE234 := gS w hg (lV1 GE233); replace HB := bH (lV1 GE233) hb; have NB233_234 := nL hg (bV BK233); have NB234_233 := nG hg (bV BK233); replace BK233 := bB (bV BK233) hb; clear hb hbox hg; have hnb5 := NB233_234.out; have hnc5 := NB234_233.out; have hcz6_0 := cz BK233 0 (.slice A0_0 l0_0.length c0_0); have hcz6_1 := cz BK233 1 (.slice A0_1 l0_1.length c0_1); have hcz6_2 := cz BK233 2 (.int .i64 a0_2); have hfz6_0 := fz BK233 0; have hfz6_1 := fz BK233 1; have hfz6_2 := fz BK233 2)))
 (try simp only [Act.put, List.setIfInBounds_toArray, List.set_cons_zero, List.set_cons_succ])
 go_loopg [5, 20] k (fun kq v5 v20 w' => ∃ (x5_1 : Bool) (x20_1 : Int), v5 = .bool x5_1 ∧ v20 = .int .i64 x20_1 ∧ Aside0 (impl_Query_takes.l0 kq x5_1 l0_0 (l0_0.length : Int) x20_1 l0_0 l0_1 a0_2 a1_0 l1_1 = some r) ∧ Aside0 (kq ≤ k) ∧ Aside0 (w'.heap[gb233]? = some (.cells #[(.slice A0_0 l0_0.length c0_0), (.slice A0_1 l0_1.length c0_1), .int .i64 a0_2] 52 (0, 0))) ∧ Aside0 (w'.heap[gb234]? = some (.cells #[.int .i64 a1_0, (.slice A1_1 l1_1.length c1_1)] 77 (0, 0))) ∧ Aside0 (Below w.heap.size w w'))
 case atStart => exact ⟨((a0_2 == 0)), (0), tE, tE, H', ⟨Nat.le_refl _⟩, ⟨by refine bU ?_; exact BK233.out⟩, ⟨by refine bU ?_; exact BK234.out⟩, ⟨by repeat (first | (with_reducible first | exact HB.out | apply below_alloc | apply pw_below_drewN | apply below_drew1 | refine below_set ?_ GE233.out | refine below_set ?_ GE234.out) | exact HB.out)⟩⟩
 case round =>
  clear H'
  try clear c1
  try clear p2
  try clear c4
  try clear c5
  try clear hcz6_0
  try clear hcz6_1
  try clear hcz6_2
  try clear hfz6_0
  try clear hfz6_1
  try clear hfz6_2
  obtain ⟨x5_1, x20_1, rfl, rfl, HA, HK1, BK233, BK234, HB⟩ := hrel
  cases gk with
  | zero => exact absurd HA.out (by simp [impl_Query_takes.l0])
  | succ k1 =>
   have H := HA.out
   clear HA
   simp only [impl_Query_takes.l0] at H
   by_cases c7 : x20_1 < (l0_0.length : Int)
   ·rw [if_pos c7] at H
    have c7b0 : decide (x20_1 < (l0_0.length : Int)) = true := decide_eq_true c7
    clear c7
    by_cases c8 : 0 ≤ x20_1
    ·rw [if_pos c8] at H
     have c8b0 : decide (0 ≤ x20_1) = true := decide_eq_true c8
     clear c8
     by_cases c9 : x20_1 < (l0_0.length : Int)
     ·rw [if_pos c9] at H
      have c9b0 : decide (x20_1 < (l0_0.length : Int)) = true := decide_eq_true c9
      clear c9
      replace H := Option.bind_eq_some_iff.mp H
      obtain ⟨⟨t236, t237⟩, A100, H⟩ := H
      replace H : (if t237 = true then (if x5_1 = true then (impl_Query_takes.l0 k1 true l0_0 (l0_0.length : Int) (wrap64 (x20_1 + 1)) l0_0 l0_1 a0_2 a1_0 l1_1) else (if 0 ≤ t236 then (if t236 < (l1_1.length : Int) then (impl_Query_takes.l0 k1 (decide (((rd_T80 l1_1 t236).f2) ≥ a0_2)) l0_0 (l0_0.length : Int) (wrap64 (x20_1 + 1)) l0_0 l0_1 a0_2 a1_0 l1_1) else (none)) else (none))) else (some false)) = some r := H
      have A10 := Aside0.mk A100
      clear A100
      by_cases c11 : t237 = true
      ·subst c11
       have H1 : (if x5_1 = true then (impl_Query_takes.l0 k1 true l0_0 (l0_0.length : Int) (wrap64 (x20_1 + 1)) l0_0 l0_1 a0_2 a1_0 l1_1) else (if 0 ≤ t236 then (if t236 < (l1_1.length : Int) then (impl_Query_takes.l0 k1 (decide (((rd_T80 l1_1 t236).f2) ≥ a0_2)) l0_0 (l0_0.length : Int) (wrap64 (x20_1 + 1)) l0_0 l0_1 a0_2 a1_0 l1_1) else (none)) else (none))) = some r := by rw [if_pos rfl] at H; exact H
       clear H
       have H := H1
       clear H1
       by_cases c12 : x5_1 = true
       ·subst c12
        have H1 : (impl_Query_takes.l0 k1 true l0_0 (l0_0.length : Int) (wrap64 (x20_1 + 1)) l0_0 l0_1 a0_2 a1_0 l1_1) = some r := by rw [if_pos rfl] at H; exact H
        clear H
        have H := H1
        clear H1
        have H' := Aside0.mk H
        clear H
        have p235 : 0 ≤ (x20_1 : Int) := of_decide_eq_true hE
        have q235 : x20_1 < (l0_0.length : Int) := of_decide_eq_true hE
        obtain ⟨ad235, e235, hx235_0⟩ := Kd.at_string HR0_0.out x20_1 p235 q235
        cases e235
        replace hx235_0 := (HB.out.cell (World.block_lt_of_cell? w _ hx235_0)).trans hx235_0
        replace p235 := eq_true p235
        replace q235 := eq_true q235
        have hnb13 := NB234_233.out
        have hnc13 := NB233_234.out
        have hcz14_0 := cz BK234 0 (.int .i64 a1_0)
        have hcz14_1 := cz BK234 1 (.slice A1_1 l1_1.length c1_1)
        have hfz14_0 := fz BK234 0
        have hfz14_1 := fz BK234 1
        go_wp2_with (first | (go_at_call 59; (with_reducible refine (impl_Entity_place.calls k1 a1_0 _ _ l1_1 (rdOf ByteArray.empty l0_0 x20_1) t236 true _ ?side1 ?side2 A10.out).mono ?_); (case side1 => exact cU (Kd.C_below HR1_1.out HB.out)); (case side2 => exact HC1_1.out); rintro e w15 ⟨rfl, hb⟩; replace BK233 := bB (bV BK233) hb; replace BK234 := bB (bV BK234) hb; replace HB := bH (lV2 GE233 GE234) hb; (try clear hb)))
        repeat (go_quiet (first | (go_at_call 59; (with_reducible refine (impl_Entity_place.calls k1 a1_0 _ _ l1_1 (rdOf ByteArray.empty l0_0 x20_1) t236 true _ ?side1 ?side2 A10.out).mono ?_); (case side1 => exact cU (Kd.C_below HR1_1.out HB.out)); (case side2 => exact HC1_1.out); rintro e w15 ⟨rfl, hb⟩; replace BK233 := bB (bV BK233) hb; replace BK234 := bB (bV BK234) hb; replace HB := bH (lV2 GE233 GE234) hb; (try clear hb))); try go_wp2_with (first | (go_at_call 59; (with_reducible refine (impl_Entity_place.calls k1 a1_0 _ _ l1_1 (rdOf ByteArray.empty l0_0 x20_1) t236 true _ ?side1 ?side2 A10.out).mono ?_); (case side1 => exact cU (Kd.C_below HR1_1.out HB.out)); (case side2 => exact HC1_1.out); rintro e w15 ⟨rfl, hb⟩; replace BK233 := bB (bV BK233) hb; replace BK234 := bB (bV BK234) hb; replace HB := bH (lV2 GE233 GE234) hb; (try clear hb))))
        go_roundg k1
        case measure => have := HK1.out; omega
        case rel => exact ⟨(true), (wrap64 (x20_1 + 1)), tE, tE, H', ⟨by have := HK1.out; omega⟩, ⟨by refine bU ?_; exact BK233.out⟩, ⟨by refine bU ?_; exact BK234.out⟩, ⟨by repeat (first | (with_reducible first | exact HB.out | apply below_alloc | apply pw_below_drewN | apply below_drew1 | refine below_set ?_ GE233.out | refine below_set ?_ GE234.out) | exact HB.out)⟩⟩
       ·replace c12 := Bool.eq_false_iff.mpr c12
        subst c12
        have H1 : (if 0 ≤ t236 then (if t236 < (l1_1.length : Int) then (impl_Query_takes.l0 k1 (decide (((rd_T80 l1_1 t236).f2) ≥ a0_2)) l0_0 (l0_0.length : Int) (wrap64 (x20_1 + 1)) l0_0 l0_1 a0_2 a1_0 l1_1) else (none)) else (none)) = some r := by rw [if_neg (show ¬ (false = true) by decide)] at H; exact H
        clear H
        have H := H1
        clear H1
        by_cases c16 : 0 ≤ t236
        ·rw [if_pos c16] at H
         have c16b0 : decide (0 ≤ t236) = true := decide_eq_true c16
         clear c16
         by_cases c17 : t236 < (l1_1.length : Int)
         ·rw [if_pos c17] at H
          have c17b0 : decide (t236 < (l1_1.length : Int)) = true := decide_eq_true c17
          clear c17
          have H' := Aside0.mk H
          clear H
          have p235 : 0 ≤ (x20_1 : Int) := of_decide_eq_true hE
          have q235 : x20_1 < (l0_0.length : Int) := of_decide_eq_true hE
          obtain ⟨ad235, e235, hx235_0⟩ := Kd.at_string HR0_0.out x20_1 p235 q235
          cases e235
          replace hx235_0 := (HB.out.cell (World.block_lt_of_cell? w _ hx235_0)).trans hx235_0
          replace p235 := eq_true p235
          replace q235 := eq_true q235
          have hnb18 := NB234_233.out
          have hnc18 := NB233_234.out
          have hcz19_0 := cz BK234 0 (.int .i64 a1_0)
          have hcz19_1 := cz BK234 1 (.slice A1_1 l1_1.length c1_1)
          have hfz19_0 := fz BK234 0
          have hfz19_1 := fz BK234 1
          go_wp2_with (first | (go_at_call 59; (with_reducible refine (impl_Entity_place.calls k1 a1_0 _ _ l1_1 (rdOf ByteArray.empty l0_0 x20_1) t236 true _ ?side1 ?side2 A10.out).mono ?_); (case side1 => exact cU (Kd.C_below HR1_1.out HB.out)); (case side2 => exact HC1_1.out); rintro e w20 ⟨rfl, hb⟩; replace BK233 := bB (bV BK233) hb; replace BK234 := bB (bV BK234) hb; replace HB := bH (lV2 GE233 GE234) hb; (try clear hb); have hcz21_0 := cz BK234 0 (.int .i64 a1_0); have hcz21_1 := cz BK234 1 (.slice A1_1 l1_1.length c1_1); have hfz21_0 := fz BK234 0; have hfz21_1 := fz BK234 1; have p238 : 0 ≤ (t236 : Int) := of_decide_eq_true hE; have q238 : t236 < (l1_1.length : Int) := of_decide_eq_true hE; obtain ⟨ad238, e238, hx238_0, hx238_1, hx238_2⟩ := at_T80 HR1_1.out t236 p238 q238; cases e238; replace hx238_0 := (HB.out.cell (World.block_lt_of_cell? w _ hx238_0)).trans hx238_0; replace hx238_1 := (HB.out.cell (World.block_lt_of_cell? w _ hx238_1)).trans hx238_1; replace hx238_2 := (HB.out.cell (World.block_lt_of_cell? w _ hx238_2)).trans hx238_2; replace p238 := eq_true p238; replace q238 := eq_true q238; have hcz22_0 := cz BK233 0 (.slice (some ad235) l0_0.length c0_0); have hcz22_1 := cz BK233 1 (.slice A0_1 l0_1.length c0_1); have hcz22_2 := cz BK233 2 (.int .i64 a0_2); have hfz22_0 := fz BK233 0; have hfz22_1 := fz BK233 1; have hfz22_2 := fz BK233 2))
          repeat (go_quiet (first | (go_at_call 59; (with_reducible refine (impl_Entity_place.calls k1 a1_0 _ _ l1_1 (rdOf ByteArray.empty l0_0 x20_1) t236 true _ ?side1 ?side2 A10.out).mono ?_); (case side1 => exact cU (Kd.C_below HR1_1.out HB.out)); (case side2 => exact HC1_1.out); rintro e w20 ⟨rfl, hb⟩; replace BK233 := bB (bV BK233) hb; replace BK234 := bB (bV BK234) hb; replace HB := bH (lV2 GE233 GE234) hb; (try clear hb); have hcz21_0 := cz BK234 0 (.int .i64 a1_0); have hcz21_1 := cz BK234 1 (.slice A1_1 l1_1.length c1_1); have hfz21_0 := fz BK234 0; have hfz21_1 := fz BK234 1; have p238 : 0 ≤ (t236 : Int) := of_decide_eq_true hE; have q238 : t236 < (l1_1.length : Int) := of_decide_eq_true hE; obtain ⟨ad238, e238, hx238_0, hx238_1, hx238_2⟩ := at_T80 HR1_1.out t236 p238 q238; cases e238; replace hx238_0 := (HB.out.cell (World.block_lt_of_cell? w _ hx238_0)).trans hx238_0; replace hx238_1 := (HB.out.cell (World.block_lt_of_cell? w _ hx238_1)).trans hx238_1; replace hx238_2 := (HB.out.cell (World.block_lt_of_cell? w _ hx238_2)).trans hx238_2; replace p238 := eq_true p238; replace q238 := eq_true q238; have hcz22_0 := cz BK233 0 (.slice (some ad235) l0_0.length c0_0); have hcz22_1 := cz BK233 1 (.slice A0_1 l0_1.length c0_1); have hcz22_2 := cz BK233 2 (.int .i64 a0_2); have hfz22_0 := fz BK233 0; have hfz22_1 := fz BK233 1; have hfz22_2 := fz BK233 2)); try go_wp2_with (first | (go_at_call 59; (with_reducible refine (impl_Entity_place.calls k1 a1_0 _ _ l1_1 (rdOf ByteArray.empty l0_0 x20_1) t236 true _ ?side1 ?side2 A10.out).mono ?_); (case side1 => exact cU (Kd.C_below HR1_1.out HB.out)); (case side2 => exact HC1_1.out); rintro e w20 ⟨rfl, hb⟩; replace BK233 := bB (bV BK233) hb; replace BK234 := bB (bV BK234) hb; replace HB := bH (lV2 GE233 GE234) hb; (try clear hb); have hcz21_0 := cz BK234 0 (.int .i64 a1_0); have hcz21_1 := cz BK234 1 (.slice A1_1 l1_1.length c1_1); have hfz21_0 := fz BK234 0; have hfz21_1 := fz BK234 1; have p238 : 0 ≤ (t236 : Int) := of_decide_eq_true hE; have q238 : t236 < (l1_1.length : Int) := of_decide_eq_true hE; obtain ⟨ad238, e238, hx238_0, hx238_1, hx238_2⟩ := at_T80 HR1_1.out t236 p238 q238; cases e238; replace hx238_0 := (HB.out.cell (World.block_lt_of_cell? w _ hx238_0)).trans hx238_0; replace hx238_1 := (HB.out.cell (World.block_lt_of_cell? w _ hx238_1)).trans hx238_1; replace hx238_2 := (HB.out.cell (World.block_lt_of_cell? w _ hx238_2)).trans hx238_2; replace p238 := eq_true p238; replace q238 := eq_true q238; have hcz22_0 := cz BK233 0 (.slice (some ad235) l0_0.length c0_0); have hcz22_1 := cz BK233 1 (.slice A0_1 l0_1.length c0_1); have hcz22_2 := cz BK233 2 (.int .i64 a0_2); have hfz22_0 := fz BK233 0; have hfz22_1 := fz BK233 1; have hfz22_2 := fz BK233 2)))
          go_roundg k1
          case measure => have := HK1.out; omega
          case rel => exact ⟨(decide (((rd_T80 l1_1 t236).f2) ≥ a0_2)), (wrap64 (x20_1 + 1)), tE, tE, H', ⟨by have := HK1.out; omega⟩, ⟨by refine bU ?_; exact BK233.out⟩, ⟨by refine bU ?_; exact BK234.out⟩, ⟨by repeat (first | (with_reducible first | exact HB.out | apply below_alloc | apply pw_below_drewN | apply below_drew1 | refine below_set ?_ GE233.out | refine below_set ?_ GE234.out) | exact HB.out)⟩⟩
         ·rw [if_neg c17] at H
          exact absurd H (by simp)
        ·rw [if_neg c16] at H
         exact absurd H (by simp)
      ·replace c11 := Bool.eq_false_iff.mpr c11
       subst c11
       have H1 : (some false) = some r := by rw [if_neg (show ¬ (false = true) by decide)] at H; exact H
       clear H
       have H := H1
       clear H1
       obtain rfl := Option.some.inj H
       have p235 : 0 ≤ (x20_1 : Int) := of_decide_eq_true hE
       have q235 : x20_1 < (l0_0.length : Int) := of_decide_eq_true hE
       obtain ⟨ad235, e235, hx235_0⟩ := Kd.at_string HR0_0.out x20_1 p235 q235
       cases e235
       replace hx235_0 := (HB.out.cell (World.block_lt_of_cell? w _ hx235_0)).trans hx235_0
       replace p235 := eq_true p235
       replace q235 := eq_true q235
       have hnb23 := NB234_233.out
       have hnc23 := NB233_234.out
       have hcz24_0 := cz BK234 0 (.int .i64 a1_0)
       have hcz24_1 := cz BK234 1 (.slice A1_1 l1_1.length c1_1)
       have hfz24_0 := fz BK234 0
       have hfz24_1 := fz BK234 1
       go_wp2_with (first | (go_at_call 59; (with_reducible refine (impl_Entity_place.calls k1 a1_0 _ _ l1_1 (rdOf ByteArray.empty l0_0 x20_1) t236 false _ ?side1 ?side2 A10.out).mono ?_); (case side1 => exact cU (Kd.C_below HR1_1.out HB.out)); (case side2 => exact HC1_1.out); rintro e w25 ⟨rfl, hb⟩; replace BK233 := bB (bV BK233) hb; replace BK234 := bB (bV BK234) hb; replace HB := bH (lV2 GE233 GE234) hb; (try clear hb)))
       repeat (go_quiet (first | (go_at_call 59; (with_reducible refine (impl_Entity_place.calls k1 a1_0 _ _ l1_1 (rdOf ByteArray.empty l0_0 x20_1) t236 false _ ?side1 ?side2 A10.out).mono ?_); (case side1 => exact cU (Kd.C_below HR1_1.out HB.out)); (case side2 => exact HC1_1.out); rintro e w25 ⟨rfl, hb⟩; replace BK233 := bB (bV BK233) hb; replace BK234 := bB (bV BK234) hb; replace HB := bH (lV2 GE233 GE234) hb; (try clear hb))); try go_wp2_with (first | (go_at_call 59; (with_reducible refine (impl_Entity_place.calls k1 a1_0 _ _ l1_1 (rdOf ByteArray.empty l0_0 x20_1) t236 false _ ?side1 ?side2 A10.out).mono ?_); (case side1 => exact cU (Kd.C_below HR1_1.out HB.out)); (case side2 => exact HC1_1.out); rintro e w25 ⟨rfl, hb⟩; replace BK233 := bB (bV BK233) hb; replace BK234 := bB (bV BK234) hb; replace HB := bH (lV2 GE233 GE234) hb; (try clear hb))))
       go_ret
       exact ⟨eE, lV2 GE233 GE234⟩
     ·rw [if_neg c9] at H
      exact absurd H (by simp)
    ·rw [if_neg c8] at H
     exact absurd H (by simp)
   ·rw [if_neg c7] at H
    have c7b0 : decide (x20_1 < (l0_0.length : Int)) = false := decide_eq_false c7
    clear c7
    have H' := Aside0.mk H
    clear H
    have hnb26 := NB233_234.out
    have hnc26 := NB234_233.out
    have hcz27_0 := cz BK233 0 (.slice A0_0 l0_0.length c0_0)
    have hcz27_1 := cz BK233 1 (.slice A0_1 l0_1.length c0_1)
    have hcz27_2 := cz BK233 2 (.int .i64 a0_2)
    have hfz27_0 := fz BK233 0
    have hfz27_1 := fz BK233 1
    have hfz27_2 := fz BK233 2
    go_wp2
    repeat (go_quiet (fail); try go_wp2)
    go_loopg [48] k1 (fun kq v48 w' => ∃ (x48_2 : Int), v48 = .int .i64 x48_2 ∧ Aside0 (impl_Query_takes.l1 kq x5_1 l0_1 (l0_1.length : Int) x48_2 a1_0 l1_1 = some r) ∧ Aside0 (kq ≤ k1) ∧ Aside0 (w'.heap[gb233]? = some (.cells #[(.slice A0_0 l0_0.length c0_0), (.slice A0_1 l0_1.length c0_1), .int .i64 a0_2] 52 (0, 0))) ∧ Aside0 (w'.heap[gb234]? = some (.cells #[.int .i64 a1_0, (.slice A1_1 l1_1.length c1_1)] 77 (0, 0))) ∧ Aside0 (Below w.heap.size w w'))
    case atStart => exact ⟨(0), tE, H', ⟨Nat.le_refl _⟩, ⟨by refine bU ?_; exact BK233.out⟩, ⟨by refine bU ?_; exact BK234.out⟩, ⟨by repeat (first | (with_reducible first | exact HB.out | apply below_alloc | apply pw_below_drewN | apply below_drew1 | refine below_set ?_ GE233.out | refine below_set ?_ GE234.out) | exact HB.out)⟩⟩
    case round =>
     clear H'
     try clear c1
     try clear c2
     try clear p2
     try clear q2
     try clear hx2
     try clear c4
     try clear c5
     try clear p6
     try clear c7
     try clear c7b0
     try clear c8
     try clear c8b0
     try clear c9
     try clear c9b0
     try clear c11
     try clear c12
     try clear c13
     try clear c16
     try clear c16b0
     try clear c17
     try clear c17b0
     try clear c18
     try clear c23
     try clear p23
     try clear q23
     try clear hx23
     try clear c26
     try clear hcz14_0
     try clear hcz14_1
     try clear hcz19_0
     try clear hcz19_1
     try clear hcz21_0
     try clear hcz21_1
     try clear hcz22_0
     try clear hcz22_1
     try clear hcz22_2
     try clear hcz24_0
     try clear hcz24_1
     try clear hcz27_0
     try clear hcz27_1
     try clear hcz27_2
     try clear hcz6_0
     try clear hcz6_1
     try clear hcz6_2
     try clear hfz14_0
     try clear hfz14_1
     try clear hfz19_0
     try clear hfz19_1
     try clear hfz21_0
     try clear hfz21_1
     try clear hfz22_0
     try clear hfz22_1
     try clear hfz22_2
     try clear hfz24_0
     try clear hfz24_1
     try clear hfz27_0
     try clear hfz27_1
     try clear hfz27_2
     try clear hfz6_0
     try clear hfz6_1
     try clear hfz6_2
     try clear hx235_0
     try clear hx238_0
     try clear hx238_1
     try clear hx238_2
     try clear p2
     try clear p235
     try clear p238
     try clear q235
     try clear q238
     obtain ⟨x48_2, rfl, HA, HK2, BK233, BK234, HB⟩ := hrel
     cases gk with
     | zero => exact absurd HA.out (by simp [impl_Query_takes.l1])
     | succ k2 =>
      have H := HA.out
      clear HA
      simp only [impl_Query_takes.l1] at H
      by_cases c28 : x48_2 < (l0_1.length : Int)
      ·rw [if_pos c28] at H
       have c28b0 : decide (x48_2 < (l0_1.length : Int)) = true := decide_eq_true c28
       clear c28
       by_cases c29 : 0 ≤ x48_2
       ·rw [if_pos c29] at H
        have c29b0 : decide (0 ≤ x48_2) = true := decide_eq_true c29
        clear c29
        by_cases c30 : x48_2 < (l0_1.length : Int)
        ·rw [if_pos c30] at H
         have c30b0 : decide (x48_2 < (l0_1.length : Int)) = true := decide_eq_true c30
         clear c30
         replace H := Option.bind_eq_some_iff.mp H
         obtain ⟨⟨t240, t241⟩, A310, H⟩ := H
         replace H : (if t241 = true then (some false) else (impl_Query_takes.l1 k2 x5_1 l0_1 (l0_1.length : Int) (wrap64 (x48_2 + 1)) a1_0 l1_1)) = some r := H
         have A31 := Aside0.mk A310
         clear A310
         by_cases c32 : t241 = true
         ·subst c32
          have H1 : (some false) = some r := by rw [if_pos rfl] at H; exact H
          clear H
          have H := H1
          clear H1
          obtain rfl := Option.some.inj H
          have p239 : 0 ≤ (x48_2 : Int) := of_decide_eq_true hE
          have q239 : x48_2 < (l0_1.length : Int) := of_decide_eq_true hE
          obtain ⟨ad239, e239, hx239_0⟩ := Kd.at_string HR0_1.out x48_2 p239 q239
          cases e239
          replace hx239_0 := (HB.out.cell (World.block_lt_of_cell? w _ hx239_0)).trans hx239_0
          replace p239 := eq_true p239
          replace q239 := eq_true q239
          have hnb33 := NB234_233.out
          have hnc33 := NB233_234.out
          have hcz34_0 := cz BK234 0 (.int .i64 a1_0)
          have hcz34_1 := cz BK234 1 (.slice A1_1 l1_1.length c1_1)
          have hfz34_0 := fz BK234 0
          have hfz34_1 := fz BK234 1
          go_wp2_with (first | (go_at_call 59; (with_reducible refine (impl_Entity_place.calls k2 a1_0 _ _ l1_1 (rdOf ByteArray.empty l0_1 x48_2) t240 true _ ?side1 ?side2 A31.out).mono ?_); (case side1 => exact cU (Kd.C_below HR1_1.out HB.out)); (case side2 => exact HC1_1.out); rintro e w35 ⟨rfl, hb⟩; replace BK233 := bB (bV BK233) hb; replace BK234 := bB (bV BK234) hb; replace HB := bH (lV2 GE233 GE234) hb; (try clear hb)))
          repeat (go_quiet (first | (go_at_call 59; (with_reducible refine (impl_Entity_place.calls k2 a1_0 _ _ l1_1 (rdOf ByteArray.empty l0_1 x48_2) t240 true _ ?side1 ?side2 A31.out).mono ?_); (case side1 => exact cU (Kd.C_below HR1_1.out HB.out)); (case side2 => exact HC1_1.out); rintro e w35 ⟨rfl, hb⟩; replace BK233 := bB (bV BK233) hb; replace BK234 := bB (bV BK234) hb; replace HB := bH (lV2 GE233 GE234) hb; (try clear hb))); try go_wp2_with (first | (go_at_call 59; (with_reducible refine (impl_Entity_place.calls k2 a1_0 _ _ l1_1 (rdOf ByteArray.empty l0_1 x48_2) t240 true _ ?side1 ?side2 A31.out).mono ?_); (case side1 => exact cU (Kd.C_below HR1_1.out HB.out)); (case side2 => exact HC1_1.out); rintro e w35 ⟨rfl, hb⟩; replace BK233 := bB (bV BK233) hb; replace BK234 := bB (bV BK234) hb; replace HB := bH (lV2 GE233 GE234) hb; (try clear hb))))
          go_ret
          exact ⟨eE, lV2 GE233 GE234⟩
         ·replace c32 := Bool.eq_false_iff.mpr c32
          subst c32
          have H1 : (impl_Query_takes.l1 k2 x5_1 l0_1 (l0_1.length : Int) (wrap64 (x48_2 + 1)) a1_0 l1_1) = some r := by rw [if_neg (show ¬ (false = true) by decide)] at H; exact H
          clear H
          have H := H1
          clear H1
          have H' := Aside0.mk H
          clear H
          have p239 : 0 ≤ (x48_2 : Int) := of_decide_eq_true hE
          have q239 : x48_2 < (l0_1.length : Int) := of_decide_eq_true hE
          obtain ⟨ad239, e239, hx239_0⟩ := Kd.at_string HR0_1.out x48_2 p239 q239
          cases e239
          replace hx239_0 := (HB.out.cell (World.block_lt_of_cell? w _ hx239_0)).trans hx239_0
          replace p239 := eq_true p239
          replace q239 := eq_true q239
          have hnb36 := NB234_233.out
          have hnc36 := NB233_234.out
          have hcz37_0 := cz BK234 0 (.int .i64 a1_0)
          have hcz37_1 := cz BK234 1 (.slice A1_1 l1_1.length c1_1)
          have hfz37_0 := fz BK234 0
          have hfz37_1 := fz BK234 1
          go_wp2_with (first | (go_at_call 59; (with_reducible refine (impl_Entity_place.calls k2 a1_0 _ _ l1_1 (rdOf ByteArray.empty l0_1 x48_2) t240 false _ ?side1 ?side2 A31.out).mono ?_); (case side1 => exact cU (Kd.C_below HR1_1.out HB.out)); (case side2 => exact HC1_1.out); rintro e w38 ⟨rfl, hb⟩; replace BK233 := bB (bV BK233) hb; replace BK234 := bB (bV BK234) hb; replace HB := bH (lV2 GE233 GE234) hb; (try clear hb)))
          repeat (go_quiet (first | (go_at_call 59; (with_reducible refine (impl_Entity_place.calls k2 a1_0 _ _ l1_1 (rdOf ByteArray.empty l0_1 x48_2) t240 false _ ?side1 ?side2 A31.out).mono ?_); (case side1 => exact cU (Kd.C_below HR1_1.out HB.out)); (case side2 => exact HC1_1.out); rintro e w38 ⟨rfl, hb⟩; replace BK233 := bB (bV BK233) hb; replace BK234 := bB (bV BK234) hb; replace HB := bH (lV2 GE233 GE234) hb; (try clear hb))); try go_wp2_with (first | (go_at_call 59; (with_reducible refine (impl_Entity_place.calls k2 a1_0 _ _ l1_1 (rdOf ByteArray.empty l0_1 x48_2) t240 false _ ?side1 ?side2 A31.out).mono ?_); (case side1 => exact cU (Kd.C_below HR1_1.out HB.out)); (case side2 => exact HC1_1.out); rintro e w38 ⟨rfl, hb⟩; replace BK233 := bB (bV BK233) hb; replace BK234 := bB (bV BK234) hb; replace HB := bH (lV2 GE233 GE234) hb; (try clear hb))))
          go_roundg k2
          case measure => have := HK1.out; have := HK2.out; omega
          case rel => exact ⟨(wrap64 (x48_2 + 1)), tE, H', ⟨by have := HK1.out; have := HK2.out; omega⟩, ⟨by refine bU ?_; exact BK233.out⟩, ⟨by refine bU ?_; exact BK234.out⟩, ⟨by repeat (first | (with_reducible first | exact HB.out | apply below_alloc | apply pw_below_drewN | apply below_drew1 | refine below_set ?_ GE233.out | refine below_set ?_ GE234.out) | exact HB.out)⟩⟩
        ·rw [if_neg c30] at H
         exact absurd H (by simp)
       ·rw [if_neg c29] at H
        exact absurd H (by simp)
      ·rw [if_neg c28] at H
       have c28b0 : decide (x48_2 < (l0_1.length : Int)) = false := decide_eq_false c28
       clear c28
       obtain rfl := Option.some.inj H
       go_wp2
       repeat (go_quiet (fail); try go_wp2)
       go_ret
       exact ⟨eE, lV2 GE233 GE234⟩
mutual
def impl_QueryWorld.j0 : Nat → Bool → Int → Int → List (S77) → List ByteArray → List ByteArray → Int → Option (List Int × Bool)
 | 0, _, _, _, _, _, _, _ => none
 | k + 1, x16, x243000, x243001, x243002, x244000, x244001, x244002 => if x16 = true then (some (([] : List Int), false)) else (impl_QueryWorld.l0 k (([] : List Int)) x243002 (x243002.length : Int) 0 x244000 x244001 x244002)
def impl_QueryWorld.l0 : Nat → List Int → List (S77) → Int → Int → List ByteArray → List ByteArray → Int → Option (List Int × Bool)
 | 0, _, _, _, _, _, _, _ => none
 | k + 1, x6, x19, x20, x21, x244000, x244001, x244002 => if x21 < x20 then (if 0 ≤ x21 then (if x21 < (x19.length : Int) then ((impl_Query_takes.f k x244000 x244001 x244002 ((rd_T77 x19 x21).f0) ((rd_T77 x19 x21).f1)).bind fun t251 => (if t251 = true then (if x6.length < 17592186044416 then (impl_QueryWorld.l0 k (x6 ++ [(rd_T77 x19 x21).f0]) x19 x20 (wrap64 (x21 + 1)) x244000 x244001 x244002) else (none)) else (impl_QueryWorld.l0 k x6 x19 x20 (wrap64 (x21 + 1)) x244000 x244001 x244002))) else (none)) else (none)) else (some (x6, true))
end
def impl_QueryWorld.f (k : Nat) (a0_0 : Int) (a0_1 : Int) (l0_2 : List (S77)) (l1_0 : List ByteArray) (l1_1 : List ByteArray) (a1_2 : Int) : Option (List Int × Bool) := (impl_GoodWorld.f k a0_0 a0_1 l0_2).bind fun t244 => (if t244 = true then ((impl_isQuery.f k l1_0 l1_1 a1_2).bind fun t245 => (impl_QueryWorld.j0 k (!t245) a0_0 a0_1 l0_2 l1_0 l1_1 a1_2)) else (impl_QueryWorld.j0 k true a0_0 a0_1 l0_2 l1_0 l1_1 a1_2))
theorem impl_QueryWorld.mono_l : ∀ k, (∀ y0 y1 y2 y3 y4 y5 y6, LeO (impl_QueryWorld.j0 k y0 y1 y2 y3 y4 y5 y6) (impl_QueryWorld.j0 (k + 1) y0 y1 y2 y3 y4 y5 y6)) ∧ (∀ y0 y1 y2 y3 y4 y5 y6, LeO (impl_QueryWorld.l0 k y0 y1 y2 y3 y4 y5 y6) (impl_QueryWorld.l0 (k + 1) y0 y1 y2 y3 y4 y5 y6))
 | 0 => ⟨fun _ _ _ _ _ _ _ r h => by simp [impl_QueryWorld.j0] at h, fun _ _ _ _ _ _ _ r h => by simp [impl_QueryWorld.l0] at h⟩
 | k + 1 => by
  obtain ⟨ih0, ih1⟩ := impl_QueryWorld.mono_l k
  refine ⟨?_, ?_⟩
  ·intro y0 y1 y2 y3 y4 y5 y6
   unfold impl_QueryWorld.j0
   repeat' first
   | (with_reducible exact ih0 _ _ _ _ _ _ _)
   | (with_reducible exact ih1 _ _ _ _ _ _ _)
   | (with_reducible exact impl_GoodWorld.mono _ _ _ _)
   | (with_reducible exact impl_Query_takes.mono _ _ _ _ _ _)
   | (with_reducible exact impl_isQuery.mono _ _ _ _)
   | (with_reducible exact LeO.refl _)
   | (with_reducible exact LeO.none _)
   | (with_reducible refine LeO.ite ?_ ?_)
   | (with_reducible refine LeO.bind ?_ (fun _ => ?_))
   | exact ih0 _ _ _ _ _ _ _
   | exact ih1 _ _ _ _ _ _ _
   | exact impl_GoodWorld.mono _ _ _ _
   | exact impl_Query_takes.mono _ _ _ _ _ _
   | exact impl_isQuery.mono _ _ _ _
   | exact LeO.none _
   | refine LeO.ite ?_ ?_
   | refine LeO.bind ?_ (fun _ => ?_)
  ·intro y0 y1 y2 y3 y4 y5 y6
   unfold impl_QueryWorld.l0
   repeat' first
   | (with_reducible exact ih0 _ _ _ _ _ _ _)
   | (with_reducible exact ih1 _ _ _ _ _ _ _)
   | (with_reducible exact impl_GoodWorld.mono _ _ _ _)
   | (with_reducible exact impl_Query_takes.mono _ _ _ _ _ _)
   | (with_reducible exact impl_isQuery.mono _ _ _ _)
   | (with_reducible exact LeO.refl _)
   | (with_reducible exact LeO.none _)
   | (with_reducible refine LeO.ite ?_ ?_)
   | (with_reducible refine LeO.bind ?_ (fun _ => ?_))
   | exact ih0 _ _ _ _ _ _ _
   | exact ih1 _ _ _ _ _ _ _
   | exact impl_GoodWorld.mono _ _ _ _
   | exact impl_Query_takes.mono _ _ _ _ _ _
   | exact impl_isQuery.mono _ _ _ _
   | exact LeO.none _
   | refine LeO.ite ?_ ?_
   | refine LeO.bind ?_ (fun _ => ?_)
theorem impl_QueryWorld.mono : ∀ a0 a1 a2 a3 a4 a5 k, LeO (impl_QueryWorld.f k a0 a1 a2 a3 a4 a5) (impl_QueryWorld.f (k + 1) a0 a1 a2 a3 a4 a5) := by
 intro a0 a1 a2 a3 a4 a5 k
 obtain ⟨ih0, ih1⟩ := impl_QueryWorld.mono_l k
 unfold impl_QueryWorld.f
 repeat' first
   | (with_reducible exact ih0 _ _ _ _ _ _ _)
   | (with_reducible exact ih1 _ _ _ _ _ _ _)
   | (with_reducible exact impl_GoodWorld.mono _ _ _ _)
   | (with_reducible exact impl_Query_takes.mono _ _ _ _ _ _)
   | (with_reducible exact impl_isQuery.mono _ _ _ _)
   | (with_reducible exact LeO.refl _)
   | (with_reducible exact LeO.none _)
   | (with_reducible refine LeO.ite ?_ ?_)
   | (with_reducible refine LeO.bind ?_ (fun _ => ?_))
   | exact ih0 _ _ _ _ _ _ _
   | exact ih1 _ _ _ _ _ _ _
   | exact impl_GoodWorld.mono _ _ _ _
   | exact impl_Query_takes.mono _ _ _ _ _ _
   | exact impl_isQuery.mono _ _ _ _
   | exact LeO.none _
   | refine LeO.ite ?_ ?_
   | refine LeO.bind ?_ (fun _ => ?_)
set_option maxHeartbeats 8000000 in
set_option maxRecDepth 100000 in
theorem impl_QueryWorld.calls (k : Nat) (a0_0 : Int) (a0_1 : Int) (A0_2 : Option Addr) (c0_2 : Nat) (l0_2 : List (S77)) (A1_0 : Option Addr) (c1_0 : Nat) (l1_0 : List ByteArray) (A1_1 : Option Addr) (c1_1 : Nat) (l1_1 : List ByteArray) (a1_2 : Int) (r1 : List Int) (r2 : Bool) (w : World) (hr0_2 : Kd.C k77 w A0_2 l0_2.length l0_2) (hc0_2 : l0_2.length ≤ c0_2) (hr1_0 : Kd.C Kd.string w A1_0 l1_0.length l1_0) (hc1_0 : l1_0.length ≤ c1_0) (hr1_1 : Kd.C Kd.string w A1_1 l1_1.length l1_1) (hc1_1 : l1_1.length ≤ c1_1) (h : impl_QueryWorld.f k a0_0 a0_1 l0_2 l1_0 l1_1 a1_2 = some (r1, r2)) :
  Calls Try.prog 24 #[.agg #[.int .i64 a0_0, .int .i64 a0_1, .slice A0_2 l0_2.length c0_2], .agg #[.slice A1_0 l1_0.length c1_0, .slice A1_1 l1_1.length c1_1, .int .i64 a1_2]] w fun e w' => ∃ v0_ : Value, e = .returned (.tuple #[v0_, .bool r2]) ∧ Kd.R (Kd.int .i64) 3 w' w.heap.size (fun _ => True) v0_ r1 ∧ Below w.heap.size w w' := by
 have hu50 := Try.underlying50
 have hu52 := Try.underlying52
 have hu77 := Try.underlying77
 have HR0_2 := Aside0.mk hr0_2
 have HC0_2 := Aside0.mk hc0_2
 clear hr0_2 hc0_2
 have HR1_0 := Aside0.mk hr1_0
 have HC1_0 := Aside0.mk hc1_0
 clear hr1_0 hc1_0
 have HR1_1 := Aside0.mk hr1_1
 have HC1_1 := Aside0.mk hc1_1
 clear hr1_1 hc1_1
 have HB := Aside0.mk (Below.refl w.heap.size w)
 have H : ((impl_GoodWorld.f k a0_0 a0_1 l0_2).bind fun t244 => (if t244 = true then ((impl_isQuery.f k l1_0 l1_1 a1_2).bind fun t245 => (impl_QueryWorld.j0 k (!t245) a0_0 a0_1 l0_2 l1_0 l1_1 a1_2)) else (impl_QueryWorld.j0 k true a0_0 a0_1 l0_2 l1_0 l1_1 a1_2))) = some (r1, r2) := h
 clear h
 have HC3 := Aside0.mk H
 clear H
 go_enter Try.func24, Try.ntmps24
 go_upto_region 1 with (first | ((with_reducible refine gate_dst (N := 2) rfl ?_); refine box_event rfl (N := 2) rfl (cs := #[.int .i64 a0_0, .int .i64 a0_1, .slice A0_2 l0_2.length c0_2]) (t := 50) sE ?_; intro gb242 hg w4 hbox hb; have BK242 := Aside0.mk hbox; have GW242 := gS w hg (lU); have GE242 := gS w hg (lU); replace HB := bH (lU) hb; clear hb hbox hg) | ((with_reducible refine gate_dst (N := 3) rfl ?_); refine box_event rfl (N := 3) rfl (cs := #[.slice A1_0 l1_0.length c1_0, .slice A1_1 l1_1.length c1_1, .int .i64 a1_2]) (t := 52) sE ?_; intro gb243 hg w5 hbox hb; have BK243 := Aside0.mk hbox; have GW243 := gS w hg (lV1 GE242); have GE243 := gS w hg (lV1 GE242); replace HB := bH (lV1 GE242) hb; have NB242_243 := nL hg (bV BK242); have NB243_242 := nG hg (bV BK242); replace BK242 := bB (bV BK242) hb; clear hb hbox hg))
 (try simp only [Act.put, List.setIfInBounds_toArray, List.set_cons_zero, List.set_cons_succ])
 go_cut [16] (fun v16 wc => ∃ (kq : Nat) (x16_2 : Bool), v16 = .bool x16_2 ∧ Aside0 (impl_QueryWorld.j0 kq x16_2 a0_0 a0_1 l0_2 l1_0 l1_1 a1_2 = some (r1, r2)) ∧ Aside0 (kq ≤ k) ∧ Aside0 (wc.heap[gb242]? = some (.cells #[.int .i64 a0_0, .int .i64 a0_1, (.slice A0_2 l0_2.length c0_2)] 50 (0, 0))) ∧ Aside0 (wc.heap[gb243]? = some (.cells #[(.slice A1_0 l1_0.length c1_0), (.slice A1_1 l1_1.length c1_1), .int .i64 a1_2] 52 (0, 0))) ∧ Aside0 (Below w.heap.size w wc))
 case first =>
  have H := HC3.out
  clear HC3
  replace H := Option.bind_eq_some_iff.mp H
  obtain ⟨t244, A60, H⟩ := H
  replace H : (if t244 = true then ((impl_isQuery.f k l1_0 l1_1 a1_2).bind fun t245 => (impl_QueryWorld.j0 k (!t245) a0_0 a0_1 l0_2 l1_0 l1_1 a1_2)) else (impl_QueryWorld.j0 k true a0_0 a0_1 l0_2 l1_0 l1_1 a1_2)) = some (r1, r2) := H
  have A6 := Aside0.mk A60
  clear A60
  by_cases c7 : t244 = true
  ·subst c7
   have H1 : ((impl_isQuery.f k l1_0 l1_1 a1_2).bind fun t245 => (impl_QueryWorld.j0 k (!t245) a0_0 a0_1 l0_2 l1_0 l1_1 a1_2)) = some (r1, r2) := by rw [if_pos rfl] at H; exact H
   clear H
   have H := H1
   clear H1
   replace H := Option.bind_eq_some_iff.mp H
   obtain ⟨t245, A80, H⟩ := H
   replace H : (impl_QueryWorld.j0 k (!t245) a0_0 a0_1 l0_2 l1_0 l1_1 a1_2) = some (r1, r2) := H
   have A8 := Aside0.mk A80
   clear A80
   have H' := Aside0.mk H
   clear H
   have hnb9 := NB242_243.out
   have hnc9 := NB243_242.out
   have hcz10_0 := cz BK242 0 (.int .i64 a0_0)
   have hcz10_1 := cz BK242 1 (.int .i64 a0_1)
   have hcz10_2 := cz BK242 2 (.slice A0_2 l0_2.length c0_2)
   have hfz10_0 := fz BK242 0
   have hfz10_1 := fz BK242 1
   have hfz10_2 := fz BK242 2
   go_wp2_with (first | ((with_reducible refine gate_callee (f := 46) rfl ?_); refine goesL_ (some 10) rfl rfl Try.func46 (by kernel_rfl) rfl #[.agg #[.int .i64 a0_0, .int .i64 a0_1, .slice A0_2 l0_2.length c0_2]] rfl aE ?_; (with_reducible refine (impl_GoodWorld.calls k a0_0 a0_1 _ _ l0_2 true _ ?side1 ?side2 A6.out).mono ?_); (case side1 => exact cU (Kd.C_below HR0_2.out HB.out)); (case side2 => exact HC0_2.out); rintro e w11 ⟨rfl, hb⟩; refine ⟨_, rfl, ?_⟩; replace BK242 := bB (bV BK242) hb; replace BK243 := bB (bV BK243) hb; replace HB := bH (lV2 GE242 GE243) hb; (try clear hb); have hcz12_0 := cz BK243 0 (.slice A1_0 l1_0.length c1_0); have hcz12_1 := cz BK243 1 (.slice A1_1 l1_1.length c1_1); have hcz12_2 := cz BK243 2 (.int .i64 a1_2); have hfz12_0 := fz BK243 0; have hfz12_1 := fz BK243 1; have hfz12_2 := fz BK243 2) | (go_at_call 47; (with_reducible refine (impl_isQuery.calls k _ _ l1_0 _ _ l1_1 a1_2 t245 _ ?side1 ?side2 ?side3 ?side4 A8.out).mono ?_); (case side1 => exact cU (Kd.C_below HR1_0.out HB.out)); (case side2 => exact HC1_0.out); (case side3 => exact cU (Kd.C_below HR1_1.out HB.out)); (case side4 => exact HC1_1.out); rintro e w13 ⟨rfl, hb⟩; replace BK242 := bB (bV BK242) hb; replace BK243 := bB (bV BK243) hb; replace HB := bH (lV2 GE242 GE243) hb; (try clear hb)))
   go_meet
   case rel => exact ⟨_, (!t245), tE, H', ⟨by first | omega | exact Nat.le_refl _⟩, ⟨by refine bU ?_; exact BK242.out⟩, ⟨by refine bU ?_; exact BK243.out⟩, ⟨by repeat (first | (with_reducible first | exact HB.out | apply below_alloc | apply pw_below_drewN | apply below_drew1 | refine below_set ?_ GE242.out | refine below_set ?_ GE243.out) | exact HB.out)⟩⟩
  ·replace c7 := Bool.eq_false_iff.mpr c7
   subst c7
   have H1 : (impl_QueryWorld.j0 k true a0_0 a0_1 l0_2 l1_0 l1_1 a1_2) = some (r1, r2) := by rw [if_neg (show ¬ (false = true) by decide)] at H; exact H
   clear H
   have H := H1
   clear H1
   have H' := Aside0.mk H
   clear H
   have hnb14 := NB242_243.out
   have hnc14 := NB243_242.out
   have hcz15_0 := cz BK242 0 (.int .i64 a0_0)
   have hcz15_1 := cz BK242 1 (.int .i64 a0_1)
   have hcz15_2 := cz BK242 2 (.slice A0_2 l0_2.length c0_2)
   have hfz15_0 := fz BK242 0
   have hfz15_1 := fz BK242 1
   have hfz15_2 := fz BK242 2
   go_wp2_with (first | ((with_reducible refine gate_callee (f := 46) rfl ?_); refine goesL_ (some 10) rfl rfl Try.func46 (by kernel_rfl) rfl #[.agg #[.int .i64 a0_0, .int .i64 a0_1, .slice A0_2 l0_2.length c0_2]] rfl aE ?_; (with_reducible refine (impl_GoodWorld.calls k a0_0 a0_1 _ _ l0_2 false _ ?side1 ?side2 A6.out).mono ?_); (case side1 => exact cU (Kd.C_below HR0_2.out HB.out)); (case side2 => exact HC0_2.out); rintro e w16 ⟨rfl, hb⟩; refine ⟨_, rfl, ?_⟩; replace BK242 := bB (bV BK242) hb; replace BK243 := bB (bV BK243) hb; replace HB := bH (lV2 GE242 GE243) hb; (try clear hb)))
   go_meet
   case rel => exact ⟨_, (true), tE, H', ⟨by first | omega | exact Nat.le_refl _⟩, ⟨by refine bU ?_; exact BK242.out⟩, ⟨by refine bU ?_; exact BK243.out⟩, ⟨by repeat (first | (with_reducible first | exact HB.out | apply below_alloc | apply pw_below_drewN | apply below_drew1 | refine below_set ?_ GE242.out | refine below_set ?_ GE243.out) | exact HB.out)⟩⟩
 case rest =>
  clear HC3
  try clear c1
  try clear c2
  try clear p2
  try clear c4
  try clear c7
  try clear c9
  try clear c14
  try clear hcz10_0
  try clear hcz10_1
  try clear hcz10_2
  try clear hcz12_0
  try clear hcz12_1
  try clear hcz12_2
  try clear hcz15_0
  try clear hcz15_1
  try clear hcz15_2
  try clear hfz10_0
  try clear hfz10_1
  try clear hfz10_2
  try clear hfz12_0
  try clear hfz12_1
  try clear hfz12_2
  try clear hfz15_0
  try clear hfz15_1
  try clear hfz15_2
  obtain ⟨kq, x16_2, rfl, HA, HJ2, BK242, BK243, HB⟩ := hcut
  cases kq with
  | zero => exact absurd HA.out (by simp [impl_QueryWorld.j0])
  | succ kj2 =>
   have H := HA.out
   clear HA
   simp only [impl_QueryWorld.j0] at H
   by_cases c17 : x16_2 = true
   ·subst c17
    have H1 : (some (([] : List Int), false)) = some (r1, r2) := by rw [if_pos rfl] at H; exact H
    clear H
    have H := H1
    clear H1
    simp only [Option.some.injEq, Prod.mk.injEq] at H
    obtain ⟨rfl, rfl⟩ := H
    go_wp2
    go_ret2
    exact ⟨_, eE, by first | exact Kd.R_nil _ _ _ _ _ | exact Kd.N_nil _ _ _ _ _ | exact Kd.V_nil _ _ _ _ _ | exact Kd.Q_nil _ _ _ _ _ | exact Kd.S_nil _ _ _ _ _, lV2 GE242 GE243⟩
   ·replace c17 := Bool.eq_false_iff.mpr c17
    subst c17
    have H1 : (impl_QueryWorld.l0 kj2 (([] : List Int)) l0_2 (l0_2.length : Int) 0 l1_0 l1_1 a1_2) = some (r1, r2) := by rw [if_neg (show ¬ (false = true) by decide)] at H; exact H
    clear H
    have H := H1
    clear H1
    obtain ⟨y246, hy246⟩ : ∃ y_ : List Int, y_ = (([] : List Int)) := ⟨_, rfl⟩
    replace H : (impl_QueryWorld.l0 kj2 y246 l0_2 (l0_2.length : Int) 0 l1_0 l1_1 a1_2) = some (r1, r2) := by first | (rw [hy246]; with_reducible exact H) | (have H2_ := (Option.bind_some _ _).symm.trans H; rw [hy246]; with_reducible exact H2_) | (have H2_ := (Option.bind_some _ _).symm.trans H; with_reducible exact H2_) | with_reducible exact H | (rw [hy246]; exact H) | exact H
    have Ny246 := Aside0.mk hy246
    clear hy246
    have H' := Aside0.mk H
    clear H
    go_wp2_with (first | ((with_reducible refine gate_dst (N := 17) rfl ?_); refine Kd.R_lit (Kd.int .i64) _ 3 ?hg (N := 17) ?hd (xs := ([] : List Int)) (inner := []) (ok := fun _ => True) (okp := fun _ => True) ?hr ?hp (fun _ hk => hk) trivial (Below.refl _ _) (Nat.le_refl _) (by simp) ?_; (case hd => rfl); (case hg => rfl); (case hr => exact sE); (case hp => exact (Reps.none _ _)); intro v247 w18 ho19 hb hg_ hnew_; clear hg_ hnew_; (first | rw [← Ny246.out] at ho19 | (simp only [Int.reduceToNat] at ho19; rw [← Ny246.out] at ho19)); have HO248 := Aside0.mk (Kd.R_lower ho19 (below_size (lV2 GE242 GE243))); replace BK242 := bB (bV BK242) hb; replace BK243 := bB (bV BK243) hb; replace HB := bH (lV2 GE242 GE243) hb; clear hb ho19; have hnb20 := NB242_243.out; have hnc20 := NB243_242.out; have hcz21_0 := cz BK242 0 (.int .i64 a0_0); have hcz21_1 := cz BK242 1 (.int .i64 a0_1); have hcz21_2 := cz BK242 2 (.slice A0_2 l0_2.length c0_2); have hfz21_0 := fz BK242 0; have hfz21_1 := fz BK242 1; have hfz21_2 := fz BK242 2))
    (try simp only [Act.put, List.setIfInBounds_toArray, List.set_cons_zero, List.set_cons_succ])
    go_loopg [6, 21] kj2 (fun kq v6 v21 w' => ∃ (x6_2 : List Int) (x21_2 : Int), v21 = .int .i64 x21_2 ∧ Aside0 (impl_QueryWorld.l0 kq x6_2 l0_2 (l0_2.length : Int) x21_2 l1_0 l1_1 a1_2 = some (r1, r2)) ∧ Aside0 (kq ≤ kj2) ∧ Aside0 (Kd.R (Kd.int .i64) 3 w' w.heap.size (fun _ => True) v6 x6_2) ∧ Aside0 (w'.heap[gb242]? = some (.cells #[.int .i64 a0_0, .int .i64 a0_1, (.slice A0_2 l0_2.length c0_2)] 50 (0, 0))) ∧ Aside0 (w'.heap[gb243]? = some (.cells #[(.slice A1_0 l1_0.length c1_0), (.slice A1_1 l1_1.length c1_1), .int .i64 a1_2] 52 (0, 0))) ∧ Aside0 (Below w.heap.size w w'))
    case atStart => exact ⟨(y246), (0), tE, H', ⟨Nat.le_refl _⟩, ⟨by (with_reducible repeat (first | apply Kd.R_alloc | apply Kd.R_drewN | apply Kd.R_drew)); exact HO248.out⟩, ⟨by refine bU ?_; exact BK242.out⟩, ⟨by refine bU ?_; exact BK243.out⟩, ⟨by repeat (first | (with_reducible first | exact HB.out | apply below_alloc | apply pw_below_drewN | apply below_drew1 | refine below_set ?_ GE242.out | refine below_set ?_ GE243.out) | exact HB.out)⟩⟩
    case round =>
     clear H'
     try clear c1
     try clear c2
     try clear p2
     try clear c4
     try clear c7
     try clear c9
     try clear c14
     try clear c17
     try clear c20
     try clear hcz10_0
     try clear hcz10_1
     try clear hcz10_2
     try clear hcz12_0
     try clear hcz12_1
     try clear hcz12_2
     try clear hcz15_0
     try clear hcz15_1
     try clear hcz15_2
     try clear hcz21_0
     try clear hcz21_1
     try clear hcz21_2
     try clear hfz10_0
     try clear hfz10_1
     try clear hfz10_2
     try clear hfz12_0
     try clear hfz12_1
     try clear hfz12_2
     try clear hfz15_0
     try clear hfz15_1
     try clear hfz15_2
     try clear hfz21_0
     try clear hfz21_1
     try clear hfz21_2
     try clear p2
     obtain ⟨x6_2, x21_2, rfl, HA, HK2, HO_6, BK242, BK243, HB⟩ := hrel
     cases gk with
     | zero => exact absurd HA.out (by simp [impl_QueryWorld.l0])
     | succ k2 =>
      have H := HA.out
      clear HA
      simp only [impl_QueryWorld.l0] at H
      by_cases c22 : x21_2 < (l0_2.length : Int)
      ·rw [if_pos c22] at H
       have c22b0 : decide (x21_2 < (l0_2.length : Int)) = true := decide_eq_true c22
       clear c22
       by_cases c23 : 0 ≤ x21_2
       ·rw [if_pos c23] at H
        have c23b0 : decide (0 ≤ x21_2) = true := decide_eq_true c23
        clear c23
        by_cases c24 : x21_2 < (l0_2.length : Int)
        ·rw [if_pos c24] at H
         have c24b0 : decide (x21_2 < (l0_2.length : Int)) = true := decide_eq_true c24
         clear c24
         replace H := Option.bind_eq_some_iff.mp H
         obtain ⟨t251, A250, H⟩ := H
         replace H : (if t251 = true then (if x6_2.length < 17592186044416 then (impl_QueryWorld.l0 k2 (x6_2 ++ [(rd_T77 l0_2 x21_2).f0]) l0_2 (l0_2.length : Int) (wrap64 (x21_2 + 1)) l1_0 l1_1 a1_2) else (none)) else (impl_QueryWorld.l0 k2 x6_2 l0_2 (l0_2.length : Int) (wrap64 (x21_2 + 1)) l1_0 l1_1 a1_2)) = some (r1, r2) := H
         have A25 := Aside0.mk A250
         clear A250
         by_cases c26 : t251 = true
         ·subst c26
          have H1 : (if x6_2.length < 17592186044416 then (impl_QueryWorld.l0 k2 (x6_2 ++ [(rd_T77 l0_2 x21_2).f0]) l0_2 (l0_2.length : Int) (wrap64 (x21_2 + 1)) l1_0 l1_1 a1_2) else (none)) = some (r1, r2) := by rw [if_pos rfl] at H; exact H
          clear H
          have H := H1
          clear H1
          by_cases c27 : x6_2.length < 17592186044416
          ·rw [if_pos c27] at H
           have LMc27 := Aside0.mk c27
           clear c27
           obtain ⟨y252, hy252⟩ : ∃ y_ : List Int, y_ = (x6_2 ++ [(rd_T77 l0_2 x21_2).f0]) := ⟨_, rfl⟩
           replace H : (impl_QueryWorld.l0 k2 y252 l0_2 (l0_2.length : Int) (wrap64 (x21_2 + 1)) l1_0 l1_1 a1_2) = some (r1, r2) := by first | (rw [hy252]; with_reducible exact H) | (have H2_ := (Option.bind_some _ _).symm.trans H; rw [hy252]; with_reducible exact H2_) | (have H2_ := (Option.bind_some _ _).symm.trans H; with_reducible exact H2_) | with_reducible exact H | (rw [hy252]; exact H) | exact H
           have Ny252 := Aside0.mk hy252
           clear hy252
           have H' := Aside0.mk H
           clear H
           have p249 : 0 ≤ (x21_2 : Int) := of_decide_eq_true hE
           have q249 : x21_2 < (l0_2.length : Int) := of_decide_eq_true hE
           obtain ⟨ad249, A249_1, c249_1, e249, hx249_0, hx249_1, hl249_1, hi249_1⟩ := at_T77 HR0_2.out x21_2 p249 q249
           cases e249
           replace hx249_0 := (HB.out.cell (World.block_lt_of_cell? w _ hx249_0)).trans hx249_0
           replace hx249_1 := (HB.out.cell (World.block_lt_of_cell? w _ hx249_1)).trans hx249_1
           have HR249_1 := Aside0.mk hi249_1
           have HC249_1 := Aside0.mk hl249_1
           clear hi249_1 hl249_1
           replace p249 := eq_true p249
           replace q249 := eq_true q249
           go_wp2_with (first | ((with_reducible refine gate_dst (N := 8) rfl ?_); refine box_event rfl (N := 8) rfl (cs := #[.int .i64 0, .slice none 0 0]) (t := 77) sE ?_; intro gb250 hg w28 hbox hb; replace HO_6 := Aside0.mk (Kd.R_below (rU HO_6.out) hb); have BK250 := Aside0.mk hbox; have GW250 := gS w hg (lV2 GE242 GE243); have GE250 := gS w hg (lV2 GE242 GE243); replace HB := bH (lV2 GE242 GE243) hb; have NB242_250 := nL hg (bV BK242); have NB250_242 := nG hg (bV BK242); replace BK242 := bB (bV BK242) hb; have NB243_250 := nL hg (bV BK243); have NB250_243 := nG hg (bV BK243); replace BK243 := bB (bV BK243) hb; clear hb hbox hg; have hnb29 := NB250_242.out; have hnc29 := NB242_250.out; have hnb30 := NB250_243.out; have hnc30 := NB243_250.out; have hcz31_0 := cz BK250 0 (.int .i64 0); have hcz31_1 := cz BK250 1 (.slice none 0 0); have hfz31_0 := fz BK250 0; have hfz31_1 := fz BK250 1) | ((with_reducible refine gate_store (t := 77) (p := 8) rfl ?_); refine store_event (t := 77) (p := 8) (v := ?vo_w32) (w1 := ((w28.setCell ⟨gb250, 0, none⟩ (.int .i64 ((rd_T77 l0_2 x21_2).f0))).setCell ⟨gb250, 1, none⟩ (.slice A249_1 ((rd_T77 l0_2 x21_2).f1).length c249_1))) ?hg ?ho ?hn ?hr ?_; (case ho => rfl); (case hg => rfl); (case hn => rfl); (case hr => first | (go_simp; done) | (go_simp; rfl) | (have hq0_ := (blk_cell BK250.out 0).trans (show _ = some _ from rfl); have hf0_ := blk_frozen BK250.out 0; have hq1_ := (blk_cell BK250.out 1).trans (show _ = some _ from rfl); have hf1_ := blk_frozen BK250.out 1; first | (go_simp; done) | (go_simp; rfl))); intro w32 hw; replace HO_6 : Aside0 (Kd.R (Kd.int .i64) 3 w32 w.heap.size (fun _ => True) u6 x6_2) := ⟨(by rw [hw]; exact (by (with_reducible repeat (first | apply Kd.R_alloc | apply Kd.R_drewN | apply Kd.R_drew)); exact Kd.R_mono (Kd.R_far (p := ⟨gb250, 1, none⟩) (Kd.R_far (p := ⟨gb250, 0, none⟩) (Kd.R_types HO_6.out BK250.out (by decide)) (fun _ hk => hk.2) (.int .i64 ((rd_T77 l0_2 x21_2).f0))) (fun _ hk => hk.2) (.slice A249_1 ((rd_T77 l0_2 x21_2).f1).length c249_1)) (fun _ hk => trivial)))⟩; replace BK242 : Aside0 (w32.heap[gb242]? = some (.cells #[.int .i64 a0_0, .int .i64 a0_1, .slice (some ad249) l0_2.length c0_2] 50 (0, 0))) := ⟨(by rw [hw]; exact (bG NB242_250 BK242))⟩; replace BK243 : Aside0 (w32.heap[gb243]? = some (.cells #[.slice A1_0 l1_0.length c1_0, .slice A1_1 l1_1.length c1_1, .int .i64 a1_2] 52 (0, 0))) := ⟨(by rw [hw]; exact (bG NB243_250 BK243))⟩; replace BK250 : Aside0 (w32.heap[gb250]? = some (.cells #[.int .i64 ((rd_T77 l0_2 x21_2).f0), .slice A249_1 ((rd_T77 l0_2 x21_2).f1).length c249_1] 77 (0, 0))) := ⟨(by rw [hw]; exact (by refine bU ?_; refine blk_put (cs := #[.int .i64 ((rd_T77 l0_2 x21_2).f0), .slice none 0 0]) ?_ 1 _ rfl; refine bU ?_; refine blk_put (cs := #[.int .i64 0, .slice none 0 0]) ?_ 0 _ rfl; refine bU ?_; exact BK250.out))⟩; replace HB : Aside0 (Below w.heap.size w w32) := ⟨(by rw [hw]; exact (lV3 GE242 GE243 GE250))⟩; clear hw; have hnb33 := NB243_242.out; have hnc33 := NB242_243.out; have hcz34_0 := cz BK243 0 (.slice A1_0 l1_0.length c1_0); have hcz34_1 := cz BK243 1 (.slice A1_1 l1_1.length c1_1); have hcz34_2 := cz BK243 2 (.int .i64 a1_2); have hfz34_0 := fz BK243 0; have hfz34_1 := fz BK243 1; have hfz34_2 := fz BK243 2; have hcz35_0 := cz BK250 0 (.int .i64 ((rd_T77 l0_2 x21_2).f0)); have hcz35_1 := cz BK250 1 (.slice A249_1 ((rd_T77 l0_2 x21_2).f1).length c249_1); have hfz35_0 := fz BK250 0; have hfz35_1 := fz BK250 1) | ((with_reducible refine gate_callee (f := 48) rfl ?_); refine goesL_ (some 27) rfl rfl Try.func48 (by kernel_rfl) rfl #[.agg #[.slice A1_0 l1_0.length c1_0, .slice A1_1 l1_1.length c1_1, .int .i64 a1_2], .agg #[.int .i64 ((rd_T77 l0_2 x21_2).f0), .slice A249_1 ((rd_T77 l0_2 x21_2).f1).length c249_1]] rfl aE ?_; (with_reducible refine (impl_Query_takes.calls k2 _ _ l1_0 _ _ l1_1 a1_2 ((rd_T77 l0_2 x21_2).f0) _ _ ((rd_T77 l0_2 x21_2).f1) true _ ?side1 ?side2 ?side3 ?side4 ?side5 ?side6 A25.out).mono ?_); (case side1 => exact cU (Kd.C_below HR1_0.out HB.out)); (case side2 => exact HC1_0.out); (case side3 => exact cU (Kd.C_below HR1_1.out HB.out)); (case side4 => exact HC1_1.out); (case side5 => exact cU (Kd.C_below HR249_1.out HB.out)); (case side6 => exact HC249_1.out); rintro e w36 ⟨rfl, hb⟩; refine ⟨_, rfl, ?_⟩; replace HO_6 := Aside0.mk (Kd.R_below (rU HO_6.out) hb); replace BK242 := bB (bV BK242) hb; replace BK243 := bB (bV BK243) hb; replace BK250 := bB (bV BK250) hb; replace HB := bH (lV3 GE242 GE243 GE250) hb; (try clear hb); have hcz37_0 := cz BK250 0 (.int .i64 ((rd_T77 l0_2 x21_2).f0)); have hcz37_1 := cz BK250 1 (.slice A249_1 ((rd_T77 l0_2 x21_2).f1).length c249_1); have hfz37_0 := fz BK250 0; have hfz37_1 := fz BK250 1) | ((with_reducible refine gate_builtin (b := .append) (xs := #[.tmp 28, .tmp 31]) rfl ?_); at_builtin; refine Kd.R_append (Kd.int .i64) (w0 := w) w.heap.size rfl (.tmp 28) (.tmp 31) 45 3 (.int .i64 0) 8 rfl Try.underlying45 info3 rfl (by decide) (by omega) u6 x6_2 ((rd_T77 l0_2 x21_2).f0) [.int .i64 ((rd_T77 l0_2 x21_2).f0)] (fun _ => True) (fun _ => False) rfl rfl ?aP (fun _ hk => hk.elim) ?aF ?aO ?aB ?aS ?aL ?_; (case aP => exact rfl); (case aB => exact (lV3 GE242 GE243 GE250)); (case aF => exact (fun _ _ => trivial)); (case aO => exact (rU HO_6.out)); (case aS => exact (below_size (lV3 GE242 GE243 GE250))); (case aL => have := LMc27.out; omega); intro v253 w38 ho hb hg hat; rw [← Ny252.out] at ho; replace BK242 := Aside0.mk (blk_grown (g := gb242) (o := .cells #[.int .i64 a0_0, .int .i64 a0_1, .slice (some ad249) l0_2.length c0_2] 50 (0, 0)) (bV BK242) hg (Kd.R_ne HO_6.out BK242.out (by decide))); replace BK243 := Aside0.mk (blk_grown (g := gb243) (o := .cells #[.slice A1_0 l1_0.length c1_0, .slice A1_1 l1_1.length c1_1, .int .i64 a1_2] 52 (0, 0)) (bV BK243) hg (Kd.R_ne HO_6.out BK243.out (by decide))); replace BK250 := Aside0.mk (blk_grown (g := gb250) (o := .cells #[.int .i64 ((rd_T77 l0_2 x21_2).f0), .slice A249_1 ((rd_T77 l0_2 x21_2).f1).length c249_1] 77 (0, 0)) (bV BK250) hg (Kd.R_ne HO_6.out BK250.out (by decide))); replace HB := Aside0.mk hb; have HO254 := Aside0.mk ho; clear HO_6; clear ho hb hg hat))
           go_roundg k2
           case measure => have := HJ2.out; have := HK2.out; omega
           case rel => exact ⟨(y252), (wrap64 (x21_2 + 1)), tE, H', ⟨by have := HJ2.out; have := HK2.out; omega⟩, ⟨by (with_reducible repeat (first | apply Kd.R_alloc | apply Kd.R_drewN | apply Kd.R_drew)); exact HO254.out⟩, ⟨by refine bU ?_; exact BK242.out⟩, ⟨by refine bU ?_; exact BK243.out⟩, ⟨by repeat (first | (with_reducible first | exact HB.out | apply below_alloc | apply pw_below_drewN | apply below_drew1 | refine below_set ?_ GE242.out | refine below_set ?_ GE243.out | refine below_set ?_ GE250.out) | exact HB.out)⟩⟩
          ·rw [if_neg c27] at H
           exact absurd H (by simp)
         ·replace c26 := Bool.eq_false_iff.mpr c26
          subst c26
          have H1 : (impl_QueryWorld.l0 k2 x6_2 l0_2 (l0_2.length : Int) (wrap64 (x21_2 + 1)) l1_0 l1_1 a1_2) = some (r1, r2) := by rw [if_neg (show ¬ (false = true) by decide)] at H; exact H
          clear H
          have H := H1
          clear H1
          have H' := Aside0.mk H
          clear H
          have p249 : 0 ≤ (x21_2 : Int) := of_decide_eq_true hE
          have q249 : x21_2 < (l0_2.length : Int) := of_decide_eq_true hE
          obtain ⟨ad249, A249_1, c249_1, e249, hx249_0, hx249_1, hl249_1, hi249_1⟩ := at_T77 HR0_2.out x21_2 p249 q249
          cases e249
          replace hx249_0 := (HB.out.cell (World.block_lt_of_cell? w _ hx249_0)).trans hx249_0
          replace hx249_1 := (HB.out.cell (World.block_lt_of_cell? w _ hx249_1)).trans hx249_1
          have HR249_1 := Aside0.mk hi249_1
          have HC249_1 := Aside0.mk hl249_1
          clear hi249_1 hl249_1
          replace p249 := eq_true p249
          replace q249 := eq_true q249
          go_wp2_with (first | ((with_reducible refine gate_dst (N := 8) rfl ?_); refine box_event rfl (N := 8) rfl (cs := #[.int .i64 0, .slice none 0 0]) (t := 77) sE ?_; intro gb250 hg w39 hbox hb; replace HO_6 := Aside0.mk (Kd.R_below (rU HO_6.out) hb); have BK250 := Aside0.mk hbox; have GW250 := gS w hg (lV2 GE242 GE243); have GE250 := gS w hg (lV2 GE242 GE243); replace HB := bH (lV2 GE242 GE243) hb; have NB242_250 := nL hg (bV BK242); have NB250_242 := nG hg (bV BK242); replace BK242 := bB (bV BK242) hb; have NB243_250 := nL hg (bV BK243); have NB250_243 := nG hg (bV BK243); replace BK243 := bB (bV BK243) hb; clear hb hbox hg; have hnb40 := NB250_242.out; have hnc40 := NB242_250.out; have hnb41 := NB250_243.out; have hnc41 := NB243_250.out; have hcz42_0 := cz BK250 0 (.int .i64 0); have hcz42_1 := cz BK250 1 (.slice none 0 0); have hfz42_0 := fz BK250 0; have hfz42_1 := fz BK250 1) | ((with_reducible refine gate_store (t := 77) (p := 8) rfl ?_); refine store_event (t := 77) (p := 8) (v := ?vo_w43) (w1 := ((w39.setCell ⟨gb250, 0, none⟩ (.int .i64 ((rd_T77 l0_2 x21_2).f0))).setCell ⟨gb250, 1, none⟩ (.slice A249_1 ((rd_T77 l0_2 x21_2).f1).length c249_1))) ?hg ?ho ?hn ?hr ?_; (case ho => rfl); (case hg => rfl); (case hn => rfl); (case hr => first | (go_simp; done) | (go_simp; rfl) | (have hq0_ := (blk_cell BK250.out 0).trans (show _ = some _ from rfl); have hf0_ := blk_frozen BK250.out 0; have hq1_ := (blk_cell BK250.out 1).trans (show _ = some _ from rfl); have hf1_ := blk_frozen BK250.out 1; first | (go_simp; done) | (go_simp; rfl))); intro w43 hw; replace HO_6 : Aside0 (Kd.R (Kd.int .i64) 3 w43 w.heap.size (fun _ => True) u6 x6_2) := ⟨(by rw [hw]; exact (by (with_reducible repeat (first | apply Kd.R_alloc | apply Kd.R_drewN | apply Kd.R_drew)); exact Kd.R_mono (Kd.R_far (p := ⟨gb250, 1, none⟩) (Kd.R_far (p := ⟨gb250, 0, none⟩) (Kd.R_types HO_6.out BK250.out (by decide)) (fun _ hk => hk.2) (.int .i64 ((rd_T77 l0_2 x21_2).f0))) (fun _ hk => hk.2) (.slice A249_1 ((rd_T77 l0_2 x21_2).f1).length c249_1)) (fun _ hk => trivial)))⟩; replace BK242 : Aside0 (w43.heap[gb242]? = some (.cells #[.int .i64 a0_0, .int .i64 a0_1, .slice (some ad249) l0_2.length c0_2] 50 (0, 0))) := ⟨(by rw [hw]; exact (bG NB242_250 BK242))⟩; replace BK243 : Aside0 (w43.heap[gb243]? = some (.cells #[.slice A1_0 l1_0.length c1_0, .slice A1_1 l1_1.length c1_1, .int .i64 a1_2] 52 (0, 0))) := ⟨(by rw [hw]; exact (bG NB243_250 BK243))⟩; replace BK250 : Aside0 (w43.heap[gb250]? = some (.cells #[.int .i64 ((rd_T77 l0_2 x21_2).f0), .slice A249_1 ((rd_T77 l0_2 x21_2).f1).length c249_1] 77 (0, 0))) := ⟨(by rw [hw]; exact (by refine bU ?_; refine blk_put (cs := #[.int .i64 ((rd_T77 l0_2 x21_2).f0), .slice none 0 0]) ?_ 1 _ rfl; refine bU ?_; refine blk_put (cs := #[.int .i64 0, .slice none 0 0]) ?_ 0 _ rfl; refine bU ?_; exact BK250.out))⟩; replace HB : Aside0 (Below w.heap.size w w43) := ⟨(by rw [hw]; exact (lV3 GE242 GE243 GE250))⟩; clear hw; have hnb44 := NB243_242.out; have hnc44 := NB242_243.out; have hcz45_0 := cz BK243 0 (.slice A1_0 l1_0.length c1_0); have hcz45_1 := cz BK243 1 (.slice A1_1 l1_1.length c1_1); have hcz45_2 := cz BK243 2 (.int .i64 a1_2); have hfz45_0 := fz BK243 0; have hfz45_1 := fz BK243 1; have hfz45_2 := fz BK243 2; have hcz46_0 := cz BK250 0 (.int .i64 ((rd_T77 l0_2 x21_2).f0)); have hcz46_1 := cz BK250 1 (.slice A249_1 ((rd_T77 l0_2 x21_2).f1).length c249_1); have hfz46_0 := fz BK250 0; have hfz46_1 := fz BK250 1) | ((with_reducible refine gate_callee (f := 48) rfl ?_); refine goesL_ (some 27) rfl rfl Try.func48 (by kernel_rfl) rfl #[.agg #[.slice A1_0 l1_0.length c1_0, .slice A1_1 l1_1.length c1_1, .int .i64 a1_2], .agg #[.int .i64 ((rd_T77 l0_2 x21_2).f0), .slice A249_1 ((rd_T77 l0_2 x21_2).f1).length c249_1]] rfl aE ?_; (with_reducible refine (impl_Query_takes.calls k2 _ _ l1_0 _ _ l1_1 a1_2 ((rd_T77 l0_2 x21_2).f0) _ _ ((rd_T77 l0_2 x21_2).f1) false _ ?side1 ?side2 ?side3 ?side4 ?side5 ?side6 A25.out).mono ?_); (case side1 => exact cU (Kd.C_below HR1_0.out HB.out)); (case side2 => exact HC1_0.out); (case side3 => exact cU (Kd.C_below HR1_1.out HB.out)); (case side4 => exact HC1_1.out); (case side5 => exact cU (Kd.C_below HR249_1.out HB.out)); (case side6 => exact HC249_1.out); rintro e w47 ⟨rfl, hb⟩; refine ⟨_, rfl, ?_⟩; replace HO_6 := Aside0.mk (Kd.R_below (rU HO_6.out) hb); replace BK242 := bB (bV BK242) hb; replace BK243 := bB (bV BK243) hb; replace BK250 := bB (bV BK250) hb; replace HB := bH (lV3 GE242 GE243 GE250) hb; (try clear hb)))
          go_roundg k2
          case measure => have := HJ2.out; have := HK2.out; omega
          case rel => exact ⟨(x6_2), (wrap64 (x21_2 + 1)), tE, H', ⟨by have := HJ2.out; have := HK2.out; omega⟩, ⟨by (with_reducible repeat (first | apply Kd.R_alloc | apply Kd.R_drewN | apply Kd.R_drew)); exact HO_6.out⟩, ⟨by refine bU ?_; exact BK242.out⟩, ⟨by refine bU ?_; exact BK243.out⟩, ⟨by repeat (first | (with_reducible first | exact HB.out | apply below_alloc | apply pw_below_drewN | apply below_drew1 | refine below_set ?_ GE242.out | refine below_set ?_ GE243.out | refine below_set ?_ GE250.out) | exact HB.out)⟩⟩
        ·rw [if_neg c24] at H
         exact absurd H (by simp)
       ·rw [if_neg c23] at H
        exact absurd H (by simp)
      ·rw [if_neg c22] at H
       have c22b0 : decide (x21_2 < (l0_2.length : Int)) = false := decide_eq_false c22
       clear c22
       simp only [Option.some.injEq, Prod.mk.injEq] at H
       obtain ⟨rfl, rfl⟩ := H
       go_wp2
       go_ret2
       exact ⟨_, eE, by (with_reducible repeat (first | apply Kd.R_alloc | apply Kd.R_drewN | apply Kd.R_drew)); exact HO_6.out, lV2 GE242 GE243⟩
def laws_eqIntS.l0 : Nat → List Int → List Int → Int → Option (Bool)
 | 0, _, _, _ => none
 | k + 1, x0, x1, x5 => if x5 < (x0.length : Int) then (if 0 ≤ x5 then (if x5 < (x1.length : Int) then (if (rd x0 x5) = (rd x1 x5) then (laws_eqIntS.l0 k x0 x1 (wrap64 (x5 + 1))) else (some false)) else (none)) else (none)) else (some true)
def laws_eqIntS.f (k : Nat) (l0 : List Int) (l1 : List Int) : Option (Bool) := if (l0.length : Int) = (l1.length : Int) then (laws_eqIntS.l0 k l0 l1 0) else (some false)
theorem laws_eqIntS.mono_l : ∀ k, (∀ y0 y1 y2, LeO (laws_eqIntS.l0 k y0 y1 y2) (laws_eqIntS.l0 (k + 1) y0 y1 y2))
 | 0 => fun _ _ _ r h => by simp [laws_eqIntS.l0] at h
 | k + 1 => by
  have ih0 := laws_eqIntS.mono_l k
  ·intro y0 y1 y2
   unfold laws_eqIntS.l0
   repeat' first
   | (with_reducible exact ih0 _ _ _)
   | (with_reducible exact LeO.refl _)
   | (with_reducible exact LeO.none _)
   | (with_reducible refine LeO.ite ?_ ?_)
   | (with_reducible refine LeO.bind ?_ (fun _ => ?_))
   | exact ih0 _ _ _
   | exact LeO.none _
   | refine LeO.ite ?_ ?_
   | refine LeO.bind ?_ (fun _ => ?_)
theorem laws_eqIntS.mono : ∀ a0 a1 k, LeO (laws_eqIntS.f k a0 a1) (laws_eqIntS.f (k + 1) a0 a1) := by
 intro a0 a1 k
 have ih0 := laws_eqIntS.mono_l k
 unfold laws_eqIntS.f
 repeat' first
   | (with_reducible exact ih0 _ _ _)
   | (with_reducible exact LeO.refl _)
   | (with_reducible exact LeO.none _)
   | (with_reducible refine LeO.ite ?_ ?_)
   | (with_reducible refine LeO.bind ?_ (fun _ => ?_))
   | exact ih0 _ _ _
   | exact LeO.none _
   | refine LeO.ite ?_ ?_
   | refine LeO.bind ?_ (fun _ => ?_)
set_option maxHeartbeats 8000000 in
set_option maxRecDepth 100000 in
theorem laws_eqIntS.calls (k : Nat) (A0 : Option Addr) (c0 : Nat) (l0 : List Int) (A1 : Option Addr) (c1 : Nat) (l1 : List Int) (r : Bool) (w : World) (hr0 : Kd.C (Kd.int .i64) w A0 l0.length l0) (hc0 : l0.length ≤ c0) (hr1 : Kd.C (Kd.int .i64) w A1 l1.length l1) (hc1 : l1.length ≤ c1) (h : laws_eqIntS.f k l0 l1 = some r) :
  Calls Try.prog 25 #[.slice A0 l0.length c0, .slice A1 l1.length c1] w fun e w' => e = .returned (.bool r) ∧ Drawn0 w w' := by
 have HR0 := Aside0.mk hr0
 have HC0 := Aside0.mk hc0
 clear hr0 hc0
 have HR1 := Aside0.mk hr1
 have HC1 := Aside0.mk hc1
 clear hr1 hc1
 have H : (if (l0.length : Int) = (l1.length : Int) then (laws_eqIntS.l0 k l0 l1 0) else (some false)) = some r := h
 clear h
 by_cases c3 : (l0.length : Int) = (l1.length : Int)
 ·rw [if_pos c3] at H
  have c3b0 : ((l0.length : Int) == (l1.length : Int)) = true := beq_iff_eq.mpr c3
  have c3b1 : ((l0.length : Int) != (l1.length : Int)) = false := bne_eq_false_iff_eq.mpr c3
  have c3b2 : (l0.length == l1.length) = true := by first | simpa using c3 | (simp at c3 ⊢; omega)
  clear c3
  have H' := Aside0.mk H
  clear H
  go_enter Try.func25, Try.ntmps25
  go_wp2
  repeat (go_quiet (fail); try go_wp2)
  go_loopg [5] k (fun kq v5 w' => ∃ (x5_1 : Int), v5 = .int .i64 x5_1 ∧ Aside0 (laws_eqIntS.l0 kq l0 l1 x5_1 = some r) ∧ Aside0 (kq ≤ k) ∧ Drawn0 w w')
  case atStart => exact ⟨(0), tE, H', ⟨Nat.le_refl _⟩, by repeat (first | exact Drawn0.refl _ | apply Drawn0.step)⟩
  case round =>
   clear H'
   try clear c1
   try clear c2
   try clear p2
   try clear c3
   try clear c3b0
   try clear c3b1
   try clear c3b2
   obtain ⟨x5_1, rfl, HA, HK1, ⟨m1, rfl⟩⟩ := hrel
   cases gk with
   | zero => exact absurd HA.out (by simp [laws_eqIntS.l0])
   | succ k1 =>
    have H := HA.out
    clear HA
    simp only [laws_eqIntS.l0] at H
    by_cases c4 : x5_1 < (l0.length : Int)
    ·rw [if_pos c4] at H
     have c4b0 : decide (x5_1 < (l0.length : Int)) = true := decide_eq_true c4
     clear c4
     by_cases c5 : 0 ≤ x5_1
     ·rw [if_pos c5] at H
      have c5b0 : decide (0 ≤ x5_1) = true := decide_eq_true c5
      clear c5
      by_cases c6 : x5_1 < (l1.length : Int)
      ·rw [if_pos c6] at H
       have c6b0 : decide (x5_1 < (l1.length : Int)) = true := decide_eq_true c6
       clear c6
       by_cases c7 : (rd l0 x5_1) = (rd l1 x5_1)
       ·rw [if_pos c7] at H
        have c7b0 : ((rd l0 x5_1) == (rd l1 x5_1)) = true := beq_iff_eq.mpr c7
        have c7b1 : ((rd l0 x5_1) != (rd l1 x5_1)) = false := bne_eq_false_iff_eq.mpr c7
        clear c7
        have H' := Aside0.mk H
        clear H
        have p255 : 0 ≤ (x5_1 : Int) := of_decide_eq_true hE
        have q255 : x5_1 < (l0.length : Int) := of_decide_eq_true hE
        obtain ⟨ad255, e255, hx255_0⟩ := Kd.at_int HR0.out x5_1 p255 q255
        cases e255
        replace p255 := eq_true p255
        replace q255 := eq_true q255
        have p256 : 0 ≤ (x5_1 : Int) := of_decide_eq_true hE
        have q256 : x5_1 < (l1.length : Int) := of_decide_eq_true hE
        obtain ⟨ad256, e256, hx256_0⟩ := Kd.at_int HR1.out x5_1 p256 q256
        cases e256
        replace p256 := eq_true p256
        replace q256 := eq_true q256
        go_wp2
        repeat (go_quiet (fail); try go_wp2)
        go_roundg k1
        case measure => have := HK1.out; omega
        case rel => exact ⟨(wrap64 (x5_1 + 1)), tE, H', ⟨by have := HK1.out; omega⟩, by repeat (first | exact Drawn0.refl _ | apply Drawn0.step)⟩
       ·rw [if_neg c7] at H
        have c7b0 : ((rd l0 x5_1) == (rd l1 x5_1)) = false := beq_eq_false_iff_ne.mpr c7
        have c7b1 : ((rd l0 x5_1) != (rd l1 x5_1)) = true := bne_iff_ne.mpr c7
        obtain rfl := Option.some.inj H
        have p255 : 0 ≤ (x5_1 : Int) := of_decide_eq_true hE
        have q255 : x5_1 < (l0.length : Int) := of_decide_eq_true hE
        obtain ⟨ad255, e255, hx255_0⟩ := Kd.at_int HR0.out x5_1 p255 q255
        cases e255
        replace p255 := eq_true p255
        replace q255 := eq_true q255
        have p256 : 0 ≤ (x5_1 : Int) := of_decide_eq_true hE
        have q256 : x5_1 < (l1.length : Int) := of_decide_eq_true hE
        obtain ⟨ad256, e256, hx256_0⟩ := Kd.at_int HR1.out x5_1 p256 q256
        cases e256
        replace p256 := eq_true p256
        replace q256 := eq_true q256
        go_wp2
        repeat (go_quiet (fail); try go_wp2)
        go_ret
        exact ⟨by first | rfl | (simp; done) | (simp [*]; done) | exact not_isEmpty _ | exact (not_isEmpty _).symm | exact is_empty _ | exact (is_empty _).symm, by repeat (first | exact Drawn0.refl _ | apply Drawn0.step)⟩
      ·rw [if_neg c6] at H
       exact absurd H (by simp)
     ·rw [if_neg c5] at H
      exact absurd H (by simp)
    ·rw [if_neg c4] at H
     have c4b0 : decide (x5_1 < (l0.length : Int)) = false := decide_eq_false c4
     clear c4
     obtain rfl := Option.some.inj H
     go_wp2
     repeat (go_quiet (fail); try go_wp2)
     go_ret
     exact ⟨by first | rfl | (simp; done) | (simp [*]; done) | exact not_isEmpty _ | exact (not_isEmpty _).symm | exact is_empty _ | exact (is_empty _).symm, by repeat (first | exact Drawn0.refl _ | apply Drawn0.step)⟩
 ·rw [if_neg c3] at H
  have c3b0 : ((l0.length : Int) == (l1.length : Int)) = false := beq_eq_false_iff_ne.mpr c3
  have c3b1 : ((l0.length : Int) != (l1.length : Int)) = true := bne_iff_ne.mpr c3
  have c3b2 : (l0.length == l1.length) = false := by first | simpa using c3 | (simp at c3 ⊢; omega)
  obtain rfl := Option.some.inj H
  go_enter Try.func25, Try.ntmps25
  go_wp2
  repeat (go_quiet (fail); try go_wp2)
  go_ret
  exact ⟨by first | rfl | (simp; done) | (simp [*]; done) | exact not_isEmpty _ | exact (not_isEmpty _).symm | exact is_empty _ | exact (is_empty _).symm, by repeat (first | exact Drawn0.refl _ | apply Drawn0.step)⟩
end Go.Proofs.Ytcpodjegdpbalaa.PFnExactQueryWorld
