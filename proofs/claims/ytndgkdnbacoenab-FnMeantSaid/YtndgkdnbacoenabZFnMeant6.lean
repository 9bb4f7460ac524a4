/- Texts of a row. -/
import Derived.Test.YtndgkdnbacoenabZFnMeant3
import Derived.Test.YtndgkdnbacoenabZFnMeant4
import Derived.Test.YtndgkdnbacoenabZFnMeant5
import Derived.Test.YtndgkdnbacoenabZFnMeant0
import Derived.SizedLaws
import Derived.ChangeArms
import Derived.OpenShut
import Derived.WideShapes
import Derived.WalkKit
import Derived.KernelRfl
import Derived.Laws.BitsLemmas
namespace Go.Proofs.Ytndgkdnbacoenab.PFnMeant
open Go.RowKit Go.Proofs.YtndgkdnbacoenabW.PrintWords Go.Proofs.YtndgkdnbacoenabW.PrintLast Go.Proofs.YtndgkdnbacoenabW.PrintMore
attribute [local go_sem] max2_int min2_int max_two min_two max_three min_three max_four min_four
set_option linter.unusedVariables false
set_option linter.unusedSimpArgs false
def spec_l17Events.l0 : Nat → List (S47) → List (S47) → Int → Int → Option (Bool)
 | 0, _, _, _, _ => none
 | k + 1, x0, x8, x9, x10 => if x10 < x9 then (if 0 ≤ x10 then (if x10 < (x8.length : Int) then ((spec_l1In.f ((rd_T47 x8 x10).f0) 0 100000).bind fun t358 => (if t358 = true then ((spec_l1In.f ((rd_T47 x8 x10).f1) 0 99).bind fun t359 => (if t359 = true then (if x10 > 0 then (if 0 ≤ (wrap64 (x10 - 1)) then (if (wrap64 (x10 - 1)) < (x0.length : Int) then (if ((rd_T47 x0 (wrap64 (x10 - 1))).f0) > ((rd_T47 x8 x10).f0) then (some false) else (spec_l17Events.l0 k x0 x8 x9 (wrap64 (x10 + 1)))) else (none)) else (none)) else (spec_l17Events.l0 k x0 x8 x9 (wrap64 (x10 + 1)))) else (some false))) else (some false))) else (none)) else (none)) else (some true)
def spec_l17Events.f (k : Nat) (l0 : List (S47)) : Option (Bool) := if (l0.length : Int) > 200 then (some false) else (spec_l17Events.l0 k l0 l0 (l0.length : Int) 0)
theorem spec_l17Events.mono_l : ∀ k, (∀ y0 y1 y2 y3, LeO (spec_l17Events.l0 k y0 y1 y2 y3) (spec_l17Events.l0 (k + 1) y0 y1 y2 y3))
 | 0 => fun _ _ _ _ r h => by simp [spec_l17Events.l0] at h
 | k + 1 => by
  have ih0 := spec_l17Events.mono_l k
  ·intro y0 y1 y2 y3
   unfold spec_l17Events.l0
   repeat' first
   | (with_reducible exact ih0 _ _ _ _)
   | (with_reducible first | exact LeO.refl _ | exact LeO.none _ | refine LeO.ite ?_ ?_ | refine LeO.bind ?_ (fun _ => ?_))
   | exact ih0 _ _ _ _ | exact LeO.none _ | refine LeO.ite ?_ ?_ | refine LeO.bind ?_ (fun _ => ?_)
theorem spec_l17Events.mono : ∀ a0 k, LeO (spec_l17Events.f k a0) (spec_l17Events.f (k + 1) a0) := by
 intro a0 k
 have ih0 := spec_l17Events.mono_l k
 unfold spec_l17Events.f
 repeat' first
   | (with_reducible exact ih0 _ _ _ _)
   | (with_reducible first | exact LeO.refl _ | exact LeO.none _ | refine LeO.ite ?_ ?_ | refine LeO.bind ?_ (fun _ => ?_))
   | exact ih0 _ _ _ _ | exact LeO.none _ | refine LeO.ite ?_ ?_ | refine LeO.bind ?_ (fun _ => ?_)
set_option maxHeartbeats 8000000 in
set_option maxRecDepth 100000 in
theorem spec_l17Events.calls (k : Nat) (A0 : Option Addr) (c0 : Nat) (l0 : List (S47)) (r : Bool) (w : World) (hr0 : Kd.C k47 w A0 l0.length l0) (hc0 : l0.length ≤ c0) (h : spec_l17Events.f k l0 = some r) :
  Calls Try.prog 13 #[.slice A0 l0.length c0] w fun e w' => e = .returned (.bool r) ∧ Below w.heap.size w w' := by
 have hu47 := Try.underlying47
 have HR0 := Aside0.mk hr0
 have HC0 := Aside0.mk hc0
 clear hr0 hc0
 have HB := Aside0.mk (Below.refl w.heap.size w)
 have H : (if (l0.length : Int) > 200 then (some false) else (spec_l17Events.l0 k l0 l0 (l0.length : Int) 0)) = some r := h
 clear h
 by_cases c2 : (l0.length : Int) > 200
 ·rw [if_pos c2] at H
  have c2b0 : decide (200 < (l0.length : Int)) = true := decide_eq_true c2
  have c2b1 : decide (200 < l0.length) = true := decide_eq_true (by omega)
  clear c2
  obtain rfl := Option.some.inj H
  go_enter Try.func13, Try.ntmps13
  go_wp2
  repeat (go_quiet (fail); try go_wp2)
  go_ret
  exact ⟨eE, lU⟩
 ·rw [if_neg c2] at H
  have c2b0 : decide (200 < (l0.length : Int)) = false := decide_eq_false c2
  have c2b1 : decide (200 < l0.length) = false := decide_eq_false (by omega)
  clear c2
  have H' := Aside0.mk H
  clear H
  go_enter Try.func13, Try.ntmps13
  go_wp2
  repeat (go_quiet (fail); try go_wp2)
  go_loopg [10] k (fun kq v10 w' => ∃ (x10_1 : Int), v10 = .int .i64 x10_1 ∧ Aside0 (spec_l17Events.l0 kq l0 l0 (l0.length : Int) x10_1 = some r) ∧ Aside0 (kq ≤ k) ∧ Aside0 (Below w.heap.size w w'))
  case atStart => exact ⟨(0), tE, H', ⟨Nat.le_refl _⟩, ⟨by repeat (first | (with_reducible first | exact HB.out | apply below_alloc | apply pw_below_drewN | apply below_drew1) | exact HB.out)⟩⟩
  case round =>
   clear H'
   try clear c1
   try clear c2
   try clear c2b0
   try clear c2b1
   try clear p2
   obtain ⟨x10_1, rfl, HA, HK1, HB⟩ := hrel
   cases gk with
   | zero => exact absurd HA.out (by simp [spec_l17Events.l0])
   | succ k1 =>
    have H := HA.out
    clear HA
    simp only [spec_l17Events.l0] at H
    by_cases c3 : x10_1 < (l0.length : Int)
    ·rw [if_pos c3] at H
     have c3b0 : decide (x10_1 < (l0.length : Int)) = true := decide_eq_true c3
     clear c3
     by_cases c4 : 0 ≤ x10_1
     ·rw [if_pos c4] at H
      have c4b0 : decide (0 ≤ x10_1) = true := decide_eq_true c4
      clear c4
      by_cases c5 : x10_1 < (l0.length : Int)
      ·rw [if_pos c5] at H
       have c5b0 : decide (x10_1 < (l0.length : Int)) = true := decide_eq_true c5
       clear c5
       replace H := Option.bind_eq_some_iff.mp H
       obtain ⟨t358, A60, H⟩ := H
       replace H : (if t358 = true then ((spec_l1In.f ((rd_T47 l0 x10_1).f1) 0 99).bind fun t359 => (if t359 = true then (if x10_1 > 0 then (if 0 ≤ (wrap64 (x10_1 - 1)) then (if (wrap64 (x10_1 - 1)) < (l0.length : Int) then (if ((rd_T47 l0 (wrap64 (x10_1 - 1))).f0) > ((rd_T47 l0 x10_1).f0) then (some false) else (spec_l17Events.l0 k1 l0 l0 (l0.length : Int) (wrap64 (x10_1 + 1)))) else (none)) else (none)) else (spec_l17Events.l0 k1 l0 l0 (l0.length : Int) (wrap64 (x10_1 + 1)))) else (some false))) else (some false)) = some r := H
       have A6 := Aside0.mk A60
       clear A60
       by_cases c7 : t358 = true
       ·subst c7
        have H1 : ((spec_l1In.f ((rd_T47 l0 x10_1).f1) 0 99).bind fun t359 => (if t359 = true then (if x10_1 > 0 then (if 0 ≤ (wrap64 (x10_1 - 1)) then (if (wrap64 (x10_1 - 1)) < (l0.length : Int) then (if ((rd_T47 l0 (wrap64 (x10_1 - 1))).f0) > ((rd_T47 l0 x10_1).f0) then (some false) else (spec_l17Events.l0 k1 l0 l0 (l0.length : Int) (wrap64 (x10_1 + 1)))) else (none)) else (none)) else (spec_l17Events.l0 k1 l0 l0 (l0.length : Int) (wrap64 (x10_1 + 1)))) else (some false))) = some r := by rw [if_pos rfl] at H; exact H
        clear H
        have H := H1
        clear H1
        replace H := Option.bind_eq_some_iff.mp H
        obtain ⟨t359, A80, H⟩ := H
        replace H : (if t359 = true then (if x10_1 > 0 then (if 0 ≤ (wrap64 (x10_1 - 1)) then (if (wrap64 (x10_1 - 1)) < (l0.length : Int) then (if ((rd_T47 l0 (wrap64 (x10_1 - 1))).f0) > ((rd_T47 l0 x10_1).f0) then (some false) else (spec_l17Events.l0 k1 l0 l0 (l0.length : Int) (wrap64 (x10_1 + 1)))) else (none)) else (none)) else (spec_l17Events.l0 k1 l0 l0 (l0.length : Int) (wrap64 (x10_1 + 1)))) else (some false)) = some r := H
        have A8 := Aside0.mk A80
        clear A80
        by_cases c9 : t359 = true
        ·subst c9
         have H1 : (if x10_1 > 0 then (if 0 ≤ (wrap64 (x10_1 - 1)) then (if (wrap64 (x10_1 - 1)) < (l0.length : Int) then (if ((rd_T47 l0 (wrap64 (x10_1 - 1))).f0) > ((rd_T47 l0 x10_1).f0) then (some false) else (spec_l17Events.l0 k1 l0 l0 (l0.length : Int) (wrap64 (x10_1 + 1)))) else (none)) else (none)) else (spec_l17Events.l0 k1 l0 l0 (l0.length : Int) (wrap64 (x10_1 + 1)))) = some r := by rw [if_pos rfl] at H; exact H
         clear H
         have H := H1
         clear H1
         by_cases c10 : x10_1 > 0
         ·rw [if_pos c10] at H
          have c10b0 : decide (0 < x10_1) = true := decide_eq_true c10
          clear c10
          obtain ⟨ji11, hji11⟩ : ∃ j_ : Int, (wrap64 (x10_1 - 1)) = j_ := ⟨_, rfl⟩
          replace H : (if 0 ≤ (ji11) then (if (ji11) < (l0.length : Int) then (if ((rd_T47 l0 (ji11)).f0) > ((rd_T47 l0 x10_1).f0) then (some false) else (spec_l17Events.l0 k1 l0 l0 (l0.length : Int) (wrap64 (x10_1 + 1)))) else (none)) else (none)) = some r := by first | (rw [hji11] at H; exact H) | (simp only [hji11] at H ⊢; exact H)
          (try rw [hji11] at A6)
          (try rw [hji11] at A8)
          have hji11w : (IntKind.i64.wrap (x10_1 - 1)) = ji11 := (i64_w _).trans hji11
          by_cases c12 : 0 ≤ (ji11)
          ·rw [if_pos c12] at H
           have c12b0 : decide (0 ≤ (ji11)) = true := decide_eq_true c12
           clear c12
           by_cases c13 : (ji11) < (l0.length : Int)
           ·rw [if_pos c13] at H
            have c13b0 : decide ((ji11) < (l0.length : Int)) = true := decide_eq_true c13
            clear c13
            by_cases c14 : ((rd_T47 l0 (ji11)).f0) > ((rd_T47 l0 x10_1).f0)
            ·rw [if_pos c14] at H
             have c14b0 : decide (((rd_T47 l0 x10_1).f0) < ((rd_T47 l0 (ji11)).f0)) = true := decide_eq_true c14
             clear c14
             obtain rfl := Option.some.inj H
             have p356 : 0 ≤ (x10_1 : Int) := of_decide_eq_true hE
             have q356 : x10_1 < (l0.length : Int) := of_decide_eq_true hE
             obtain ⟨ad356, e356, hx356_0, hx356_1, hx356_2⟩ := at_T47 HR0.out x10_1 p356 q356
             cases e356
             replace hx356_0 := (HB.out.cell (World.block_lt_of_cell? w _ hx356_0)).trans hx356_0
             replace hx356_1 := (HB.out.cell (World.block_lt_of_cell? w _ hx356_1)).trans hx356_1
             replace hx356_2 := (HB.out.cell (World.block_lt_of_cell? w _ hx356_2)).trans hx356_2
             replace p356 := eq_true p356
             replace q356 := eq_true q356
             go_wp2_with (first | ((with_reducible refine gate_dst (N := 4) rfl ?_); refine box_event rfl (N := 4) rfl (cs := #[.int .i64 0, .int .i64 0, .bool false]) (t := 47) sE ?_; intro gb357 hg w15 hbox hb; have BK357 := Aside0.mk hbox; have GW357 := gS w hg (lU); have GE357 := gS w hg (lU); replace HB := bH (lU) hb; clear hb hbox hg; have hcz16_0 := cz BK357 0 (.int .i64 0); have hcz16_1 := cz BK357 1 (.int .i64 0); have hcz16_2 := cz BK357 2 (.bool false); have hfz16_0 := fz BK357 0; have hfz16_1 := fz BK357 1; have hfz16_2 := fz BK357 2) | ((with_reducible refine gate_store (t := 47) (p := 4) rfl ?_); (try (rw [drewN_self w15]; generalize hq_ : World.drewN w15 _ = w15; replace BK357 := Aside0.mk (blk_at hq_ BK357.out); replace HB := Aside0.mk (below_at hq_ HB.out); clear hq_)); refine store_event (t := 47) (p := 4) (v := ?vo_w17) (w1 := (((w15.setCell ⟨gb357, 0, none⟩ (.int .i64 ((rd_T47 l0 x10_1).f0))).setCell ⟨gb357, 1, none⟩ (.int .i64 ((rd_T47 l0 x10_1).f1))).setCell ⟨gb357, 2, none⟩ (.bool ((rd_T47 l0 x10_1).f2)))) ?hg ?ho ?hn ?hr ?_; (case ho => rfl); (case hg => rfl); (case hn => rfl); (case hr => first | (go_simp; done) | (go_simp; rfl) | (have hq0_ := (blk_cell BK357.out 0).trans (show _ = some _ from rfl); have hf0_ := blk_frozen BK357.out 0; have hq1_ := (blk_cell BK357.out 1).trans (show _ = some _ from rfl); have hf1_ := blk_frozen BK357.out 1; have hq2_ := (blk_cell BK357.out 2).trans (show _ = some _ from rfl); have hf2_ := blk_frozen BK357.out 2; first | (go_simp; done) | (go_simp; rfl))); intro w17 hw; replace BK357 : Aside0 (w17.heap[gb357]? = some (.cells #[.int .i64 ((rd_T47 l0 x10_1).f0), .int .i64 ((rd_T47 l0 x10_1).f1), .bool ((rd_T47 l0 x10_1).f2)] 47 (0, 0))) := ⟨(by rw [hw]; exact (by refine bU ?_; refine blk_put (cs := #[.int .i64 ((rd_T47 l0 x10_1).f0), .int .i64 ((rd_T47 l0 x10_1).f1), .bool false]) ?_ 2 _ rfl; refine bU ?_; refine blk_put (cs := #[.int .i64 ((rd_T47 l0 x10_1).f0), .int .i64 0, .bool false]) ?_ 1 _ rfl; refine bU ?_; refine blk_put (cs := #[.int .i64 0, .int .i64 0, .bool false]) ?_ 0 _ rfl; refine bU ?_; exact BK357.out))⟩; replace HB : Aside0 (Below w.heap.size w w17) := ⟨(by rw [hw]; exact (lV1 GE357))⟩; clear hw; have hcz18_0 := cz BK357 0 (.int .i64 ((rd_T47 l0 x10_1).f0)); have hcz18_1 := cz BK357 1 (.int .i64 ((rd_T47 l0 x10_1).f1)); have hcz18_2 := cz BK357 2 (.bool ((rd_T47 l0 x10_1).f2)); have hfz18_0 := fz BK357 0; have hfz18_1 := fz BK357 1; have hfz18_2 := fz BK357 2) | (go_at_call 37; (with_reducible refine (spec_l1In.calls ((rd_T47 l0 x10_1).f0) 0 100000 true _ A6.out).mono ?_); rintro e w' ⟨rfl, ⟨nd, rfl⟩⟩; (try first | exact ⟨rfl, _, World.drewN_drewN _ _ _⟩ | exact ⟨rfl, _, Eq.trans (World.drewN_drewN _ _ _) (congrArg (World.drewN _) (Nat.add_assoc _ _ _))⟩)) | (go_at_call 37; (with_reducible refine (spec_l1In.calls ((rd_T47 l0 x10_1).f1) 0 99 true _ A8.out).mono ?_); rintro e w' ⟨rfl, ⟨nd, rfl⟩⟩; (try first | exact ⟨rfl, _, World.drewN_drewN _ _ _⟩ | exact ⟨rfl, _, Eq.trans (World.drewN_drewN _ _ _) (congrArg (World.drewN _) (Nat.add_assoc _ _ _))⟩); have p360 : 0 ≤ ((ji11) : Int) := of_decide_eq_true hE; have q360 : (ji11) < (l0.length : Int) := of_decide_eq_true hE; obtain ⟨ad360, e360, hx360_0, hx360_1, hx360_2⟩ := at_T47 HR0.out (ji11) p360 q360; obtain rfl : ad356 = ad360 := (by injection e360); replace hx360_0 := (HB.out.cell (World.block_lt_of_cell? w _ hx360_0)).trans hx360_0; replace hx360_1 := (HB.out.cell (World.block_lt_of_cell? w _ hx360_1)).trans hx360_1; replace hx360_2 := (HB.out.cell (World.block_lt_of_cell? w _ hx360_2)).trans hx360_2; replace p360 := eq_true p360; replace q360 := eq_true q360))
             repeat (go_quiet (first | ((with_reducible refine gate_dst (N := 4) rfl ?_); refine box_event rfl (N := 4) rfl (cs := #[.int .i64 0, .int .i64 0, .bool false]) (t := 47) sE ?_; intro gb357 hg w15 hbox hb; have BK357 := Aside0.mk hbox; have GW357 := gS w hg (lU); have GE357 := gS w hg (lU); replace HB := bH (lU) hb; clear hb hbox hg; have hcz16_0 := cz BK357 0 (.int .i64 0); have hcz16_1 := cz BK357 1 (.int .i64 0); have hcz16_2 := cz BK357 2 (.bool false); have hfz16_0 := fz BK357 0; have hfz16_1 := fz BK357 1; have hfz16_2 := fz BK357 2) | ((with_reducible refine gate_store (t := 47) (p := 4) rfl ?_); (try (rw [drewN_self w15]; generalize hq_ : World.drewN w15 _ = w15; replace BK357 := Aside0.mk (blk_at hq_ BK357.out); replace HB := Aside0.mk (below_at hq_ HB.out); clear hq_)); refine store_event (t := 47) (p := 4) (v := ?vo_w17) (w1 := (((w15.setCell ⟨gb357, 0, none⟩ (.int .i64 ((rd_T47 l0 x10_1).f0))).setCell ⟨gb357, 1, none⟩ (.int .i64 ((rd_T47 l0 x10_1).f1))).setCell ⟨gb357, 2, none⟩ (.bool ((rd_T47 l0 x10_1).f2)))) ?hg ?ho ?hn ?hr ?_; (case ho => rfl); (case hg => rfl); (case hn => rfl); (case hr => first | (go_simp; done) | (go_simp; rfl) | (have hq0_ := (blk_cell BK357.out 0).trans (show _ = some _ from rfl); have hf0_ := blk_frozen BK357.out 0; have hq1_ := (blk_cell BK357.out 1).trans (show _ = some _ from rfl); have hf1_ := blk_frozen BK357.out 1; have hq2_ := (blk_cell BK357.out 2).trans (show _ = some _ from rfl); have hf2_ := blk_frozen BK357.out 2; first | (go_simp; done) | (go_simp; rfl))); intro w17 hw; replace BK357 : Aside0 (w17.heap[gb357]? = some (.cells #[.int .i64 ((rd_T47 l0 x10_1).f0), .int .i64 ((rd_T47 l0 x10_1).f1), .bool ((rd_T47 l0 x10_1).f2)] 47 (0, 0))) := ⟨(by rw [hw]; exact (by refine bU ?_; refine blk_put (cs := #[.int .i64 ((rd_T47 l0 x10_1).f0), .int .i64 ((rd_T47 l0 x10_1).f1), .bool false]) ?_ 2 _ rfl; refine bU ?_; refine blk_put (cs := #[.int .i64 ((rd_T47 l0 x10_1).f0), .int .i64 0, .bool false]) ?_ 1 _ rfl; refine bU ?_; refine blk_put (cs := #[.int .i64 0, .int .i64 0, .bool false]) ?_ 0 _ rfl; refine bU ?_; exact BK357.out))⟩; replace HB : Aside0 (Below w.heap.size w w17) := ⟨(by rw [hw]; exact (lV1 GE357))⟩; clear hw; have hcz18_0 := cz BK357 0 (.int .i64 ((rd_T47 l0 x10_1).f0)); have hcz18_1 := cz BK357 1 (.int .i64 ((rd_T47 l0 x10_1).f1)); have hcz18_2 := cz BK357 2 (.bool ((rd_T47 l0 x10_1).f2)); have hfz18_0 := fz BK357 0; have hfz18_1 := fz BK357 1; have hfz18_2 := fz BK357 2) | (go_at_call 37; (with_reducible refine (spec_l1In.calls ((rd_T47 l0 x10_1).f0) 0 100000 true _ A6.out).mono ?_); rintro e w' ⟨rfl, ⟨nd, rfl⟩⟩; (try first | exact ⟨rfl, _, World.drewN_drewN _ _ _⟩ | exact ⟨rfl, _, Eq.trans (World.drewN_drewN _ _ _) (congrArg (World.drewN _) (Nat.add_assoc _ _ _))⟩)) | (go_at_call 37; (with_reducible refine (spec_l1In.calls ((rd_T47 l0 x10_1).f1) 0 99 true _ A8.out).mono ?_); rintro e w' ⟨rfl, ⟨nd, rfl⟩⟩; (try first | exact ⟨rfl, _, World.drewN_drewN _ _ _⟩ | exact ⟨rfl, _, Eq.trans (World.drewN_drewN _ _ _) (congrArg (World.drewN _) (Nat.add_assoc _ _ _))⟩); have p360 : 0 ≤ ((ji11) : Int) := of_decide_eq_true hE; have q360 : (ji11) < (l0.length : Int) := of_decide_eq_true hE; obtain ⟨ad360, e360, hx360_0, hx360_1, hx360_2⟩ := at_T47 HR0.out (ji11) p360 q360; obtain rfl : ad356 = ad360 := (by injection e360); replace hx360_0 := (HB.out.cell (World.block_lt_of_cell? w _ hx360_0)).trans hx360_0; replace hx360_1 := (HB.out.cell (World.block_lt_of_cell? w _ hx360_1)).trans hx360_1; replace hx360_2 := (HB.out.cell (World.block_lt_of_cell? w _ hx360_2)).trans hx360_2; replace p360 := eq_true p360; replace q360 := eq_true q360)); try go_wp2_with (first | ((with_reducible refine gate_dst (N := 4) rfl ?_); refine box_event rfl (N := 4) rfl (cs := #[.int .i64 0, .int .i64 0, .bool false]) (t := 47) sE ?_; intro gb357 hg w15 hbox hb; have BK357 := Aside0.mk hbox; have GW357 := gS w hg (lU); have GE357 := gS w hg (lU); replace HB := bH (lU) hb; clear hb hbox hg; have hcz16_0 := cz BK357 0 (.int .i64 0); have hcz16_1 := cz BK357 1 (.int .i64 0); have hcz16_2 := cz BK357 2 (.bool false); have hfz16_0 := fz BK357 0; have hfz16_1 := fz BK357 1; have hfz16_2 := fz BK357 2) | ((with_reducible refine gate_store (t := 47) (p := 4) rfl ?_); (try (rw [drewN_self w15]; generalize hq_ : World.drewN w15 _ = w15; replace BK357 := Aside0.mk (blk_at hq_ BK357.out); replace HB := Aside0.mk (below_at hq_ HB.out); clear hq_)); refine store_event (t := 47) (p := 4) (v := ?vo_w17) (w1 := (((w15.setCell ⟨gb357, 0, none⟩ (.int .i64 ((rd_T47 l0 x10_1).f0))).setCell ⟨gb357, 1, none⟩ (.int .i64 ((rd_T47 l0 x10_1).f1))).setCell ⟨gb357, 2, none⟩ (.bool ((rd_T47 l0 x10_1).f2)))) ?hg ?ho ?hn ?hr ?_; (case ho => rfl); (case hg => rfl); (case hn => rfl); (case hr => first | (go_simp; done) | (go_simp; rfl) | (have hq0_ := (blk_cell BK357.out 0).trans (show _ = some _ from rfl); have hf0_ := blk_frozen BK357.out 0; have hq1_ := (blk_cell BK357.out 1).trans (show _ = some _ from rfl); have hf1_ := blk_frozen BK357.out 1; have hq2_ := (blk_cell BK357.out 2).trans (show _ = some _ from rfl); have hf2_ := blk_frozen BK357.out 2; first | (go_simp; done) | (go_simp; rfl))); intro w17 hw; replace BK357 : Aside0 (w17.heap[gb357]? = some (.cells #[.int .i64 ((rd_T47 l0 x10_1).f0), .int .i64 ((rd_T47 l0 x10_1).f1), .bool ((rd_T47 l0 x10_1).f2)] 47 (0, 0))) := ⟨(by rw [hw]; exact (by refine bU ?_; refine blk_put (cs := #[.int .i64 ((rd_T47 l0 x10_1).f0), .int .i64 ((rd_T47 l0 x10_1).f1), .bool false]) ?_ 2 _ rfl; refine bU ?_; refine blk_put (cs := #[.int .i64 ((rd_T47 l0 x10_1).f0), .int .i64 0, .bool false]) ?_ 1 _ rfl; refine bU ?_; refine blk_put (cs := #[.int .i64 0, .int .i64 0, .bool false]) ?_ 0 _ rfl; refine bU ?_; exact BK357.out))⟩; replace HB : Aside0 (Below w.heap.size w w17) := ⟨(by rw [hw]; exact (lV1 GE357))⟩; clear hw; have hcz18_0 := cz BK357 0 (.int .i64 ((rd_T47 l0 x10_1).f0)); have hcz18_1 := cz BK357 1 (.int .i64 ((rd_T47 l0 x10_1).f1)); have hcz18_2 := cz BK357 2 (.bool ((rd_T47 l0 x10_1).f2)); have hfz18_0 := fz BK357 0; have hfz18_1 := fz BK357 1; have hfz18_2 := fz BK357 2) | (go_at_call 37; (with_reducible refine (spec_l1In.calls ((rd_T47 l0 x10_1).f0) 0 100000 true _ A6.out).mono ?_); rintro e w' ⟨rfl, ⟨nd, rfl⟩⟩; (try first | exact ⟨rfl, _, World.drewN_drewN _ _ _⟩ | exact ⟨rfl, _, Eq.trans (World.drewN_drewN _ _ _) (congrArg (World.drewN _) (Nat.add_assoc _ _ _))⟩)) | (go_at_call 37; (with_reducible refine (spec_l1In.calls ((rd_T47 l0 x10_1).f1) 0 99 true _ A8.out).mono ?_); rintro e w' ⟨rfl, ⟨nd, rfl⟩⟩; (try first | exact ⟨rfl, _, World.drewN_drewN _ _ _⟩ | exact ⟨rfl, _, Eq.trans (World.drewN_drewN _ _ _) (congrArg (World.drewN _) (Nat.add_assoc _ _ _))⟩); have p360 : 0 ≤ ((ji11) : Int) := of_decide_eq_true hE; have q360 : (ji11) < (l0.length : Int) := of_decide_eq_true hE; obtain ⟨ad360, e360, hx360_0, hx360_1, hx360_2⟩ := at_T47 HR0.out (ji11) p360 q360; obtain rfl : ad356 = ad360 := (by injection e360); replace hx360_0 := (HB.out.cell (World.block_lt_of_cell? w _ hx360_0)).trans hx360_0; replace hx360_1 := (HB.out.cell (World.block_lt_of_cell? w _ hx360_1)).trans hx360_1; replace hx360_2 := (HB.out.cell (World.block_lt_of_cell? w _ hx360_2)).trans hx360_2; replace p360 := eq_true p360; replace q360 := eq_true q360)))
             go_ret
             exact ⟨by first | rfl | (simp [errW_none, errW_some] <;> rfl) | (simp only [← hji11]; first | rfl | (simp [errW_none, errW_some] <;> rfl)) | (simp [*, errW_none, errW_some] <;> rfl), lV1 GE357⟩
            ·rw [if_neg c14] at H
             have c14b0 : decide (((rd_T47 l0 x10_1).f0) < ((rd_T47 l0 (ji11)).f0)) = false := decide_eq_false c14
             clear c14
             have H' := Aside0.mk H
             clear H
             have p356 : 0 ≤ (x10_1 : Int) := of_decide_eq_true hE
             have q356 : x10_1 < (l0.length : Int) := of_decide_eq_true hE
             obtain ⟨ad356, e356, hx356_0, hx356_1, hx356_2⟩ := at_T47 HR0.out x10_1 p356 q356
             cases e356
             replace hx356_0 := (HB.out.cell (World.block_lt_of_cell? w _ hx356_0)).trans hx356_0
             replace hx356_1 := (HB.out.cell (World.block_lt_of_cell? w _ hx356_1)).trans hx356_1
             replace hx356_2 := (HB.out.cell (World.block_lt_of_cell? w _ hx356_2)).trans hx356_2
             replace p356 := eq_true p356
             replace q356 := eq_true q356
             go_wp2_with (first | ((with_reducible refine gate_dst (N := 4) rfl ?_); refine box_event rfl (N := 4) rfl (cs := #[.int .i64 0, .int .i64 0, .bool false]) (t := 47) sE ?_; intro gb357 hg w19 hbox hb; have BK357 := Aside0.mk hbox; have GW357 := gS w hg (lU); have GE357 := gS w hg (lU); replace HB := bH (lU) hb; clear hb hbox hg; have hcz20_0 := cz BK357 0 (.int .i64 0); have hcz20_1 := cz BK357 1 (.int .i64 0); have hcz20_2 := cz BK357 2 (.bool false); have hfz20_0 := fz BK357 0; have hfz20_1 := fz BK357 1; have hfz20_2 := fz BK357 2) | ((with_reducible refine gate_store (t := 47) (p := 4) rfl ?_); (try (rw [drewN_self w19]; generalize hq_ : World.drewN w19 _ = w19; replace BK357 := Aside0.mk (blk_at hq_ BK357.out); replace HB := Aside0.mk (below_at hq_ HB.out); clear hq_)); refine store_event (t := 47) (p := 4) (v := ?vo_w21) (w1 := (((w19.setCell ⟨gb357, 0, none⟩ (.int .i64 ((rd_T47 l0 x10_1).f0))).setCell ⟨gb357, 1, none⟩ (.int .i64 ((rd_T47 l0 x10_1).f1))).setCell ⟨gb357, 2, none⟩ (.bool ((rd_T47 l0 x10_1).f2)))) ?hg ?ho ?hn ?hr ?_; (case ho => rfl); (case hg => rfl); (case hn => rfl); (case hr => first | (go_simp; done) | (go_simp; rfl) | (have hq0_ := (blk_cell BK357.out 0).trans (show _ = some _ from rfl); have hf0_ := blk_frozen BK357.out 0; have hq1_ := (blk_cell BK357.out 1).trans (show _ = some _ from rfl); have hf1_ := blk_frozen BK357.out 1; have hq2_ := (blk_cell BK357.out 2).trans (show _ = some _ from rfl); have hf2_ := blk_frozen BK357.out 2; first | (go_simp; done) | (go_simp; rfl))); intro w21 hw; replace BK357 : Aside0 (w21.heap[gb357]? = some (.cells #[.int .i64 ((rd_T47 l0 x10_1).f0), .int .i64 ((rd_T47 l0 x10_1).f1), .bool ((rd_T47 l0 x10_1).f2)] 47 (0, 0))) := ⟨(by rw [hw]; exact (by refine bU ?_; refine blk_put (cs := #[.int .i64 ((rd_T47 l0 x10_1).f0), .int .i64 ((rd_T47 l0 x10_1).f1), .bool false]) ?_ 2 _ rfl; refine bU ?_; refine blk_put (cs := #[.int .i64 ((rd_T47 l0 x10_1).f0), .int .i64 0, .bool false]) ?_ 1 _ rfl; refine bU ?_; refine blk_put (cs := #[.int .i64 0, .int .i64 0, .bool false]) ?_ 0 _ rfl; refine bU ?_; exact BK357.out))⟩; replace HB : Aside0 (Below w.heap.size w w21) := ⟨(by rw [hw]; exact (lV1 GE357))⟩; clear hw; have hcz22_0 := cz BK357 0 (.int .i64 ((rd_T47 l0 x10_1).f0)); have hcz22_1 := cz BK357 1 (.int .i64 ((rd_T47 l0 x10_1).f1)); have hcz22_2 := cz BK357 2 (.bool ((rd_T47 l0 x10_1).f2)); have hfz22_0 := fz BK357 0; have hfz22_1 := fz BK357 1; have hfz22_2 := fz BK357 2) | (go_at_call 37; (with_reducible refine (spec_l1In.calls ((rd_T47 l0 x10_1).f0) 0 100000 true _ A6.out).mono ?_); rintro e w' ⟨rfl, ⟨nd, rfl⟩⟩; (try first | exact ⟨rfl, _, World.drewN_drewN _ _ _⟩ | exact ⟨rfl, _, Eq.trans (World.drewN_drewN _ _ _) (congrArg (World.drewN _) (Nat.add_assoc _ _ _))⟩)) | (go_at_call 37; (with_reducible refine (spec_l1In.calls ((rd_T47 l0 x10_1).f1) 0 99 true _ A8.out).mono ?_); rintro e w' ⟨rfl, ⟨nd, rfl⟩⟩; (try first | exact ⟨rfl, _, World.drewN_drewN _ _ _⟩ | exact ⟨rfl, _, Eq.trans (World.drewN_drewN _ _ _) (congrArg (World.drewN _) (Nat.add_assoc _ _ _))⟩); have p360 : 0 ≤ ((ji11) : Int) := of_decide_eq_true hE; have q360 : (ji11) < (l0.length : Int) := of_decide_eq_true hE; obtain ⟨ad360, e360, hx360_0, hx360_1, hx360_2⟩ := at_T47 HR0.out (ji11) p360 q360; obtain rfl : ad356 = ad360 := (by injection e360); replace hx360_0 := (HB.out.cell (World.block_lt_of_cell? w _ hx360_0)).trans hx360_0; replace hx360_1 := (HB.out.cell (World.block_lt_of_cell? w _ hx360_1)).trans hx360_1; replace hx360_2 := (HB.out.cell (World.block_lt_of_cell? w _ hx360_2)).trans hx360_2; replace p360 := eq_true p360; replace q360 := eq_true q360))
             repeat (go_quiet (first | ((with_reducible refine gate_dst (N := 4) rfl ?_); refine box_event rfl (N := 4) rfl (cs := #[.int .i64 0, .int .i64 0, .bool false]) (t := 47) sE ?_; intro gb357 hg w19 hbox hb; have BK357 := Aside0.mk hbox; have GW357 := gS w hg (lU); have GE357 := gS w hg (lU); replace HB := bH (lU) hb; clear hb hbox hg; have hcz20_0 := cz BK357 0 (.int .i64 0); have hcz20_1 := cz BK357 1 (.int .i64 0); have hcz20_2 := cz BK357 2 (.bool false); have hfz20_0 := fz BK357 0; have hfz20_1 := fz BK357 1; have hfz20_2 := fz BK357 2) | ((with_reducible refine gate_store (t := 47) (p := 4) rfl ?_); (try (rw [drewN_self w19]; generalize hq_ : World.drewN w19 _ = w19; replace BK357 := Aside0.mk (blk_at hq_ BK357.out); replace HB := Aside0.mk (below_at hq_ HB.out); clear hq_)); refine store_event (t := 47) (p := 4) (v := ?vo_w21) (w1 := (((w19.setCell ⟨gb357, 0, none⟩ (.int .i64 ((rd_T47 l0 x10_1).f0))).setCell ⟨gb357, 1, none⟩ (.int .i64 ((rd_T47 l0 x10_1).f1))).setCell ⟨gb357, 2, none⟩ (.bool ((rd_T47 l0 x10_1).f2)))) ?hg ?ho ?hn ?hr ?_; (case ho => rfl); (case hg => rfl); (case hn => rfl); (case hr => first | (go_simp; done) | (go_simp; rfl) | (have hq0_ := (blk_cell BK357.out 0).trans (show _ = some _ from rfl); have hf0_ := blk_frozen BK357.out 0; have hq1_ := (blk_cell BK357.out 1).trans (show _ = some _ from rfl); have hf1_ := blk_frozen BK357.out 1; have hq2_ := (blk_cell BK357.out 2).trans (show _ = some _ from rfl); have hf2_ := blk_frozen BK357.out 2; first | (go_simp; done) | (go_simp; rfl))); intro w21 hw; replace BK357 : Aside0 (w21.heap[gb357]? = some (.cells #[.int .i64 ((rd_T47 l0 x10_1).f0), .int .i64 ((rd_T47 l0 x10_1).f1), .bool ((rd_T47 l0 x10_1).f2)] 47 (0, 0))) := ⟨(by rw [hw]; exact (by refine bU ?_; refine blk_put (cs := #[.int .i64 ((rd_T47 l0 x10_1).f0), .int .i64 ((rd_T47 l0 x10_1).f1), .bool false]) ?_ 2 _ rfl; refine bU ?_; refine blk_put (cs := #[.int .i64 ((rd_T47 l0 x10_1).f0), .int .i64 0, .bool false]) ?_ 1 _ rfl; refine bU ?_; refine blk_put (cs := #[.int .i64 0, .int .i64 0, .bool false]) ?_ 0 _ rfl; refine bU ?_; exact BK357.out))⟩; replace HB : Aside0 (Below w.heap.size w w21) := ⟨(by rw [hw]; exact (lV1 GE357))⟩; clear hw; have hcz22_0 := cz BK357 0 (.int .i64 ((rd_T47 l0 x10_1).f0)); have hcz22_1 := cz BK357 1 (.int .i64 ((rd_T47 l0 x10_1).f1)); have hcz22_2 := cz BK357 2 (.bool ((rd_T47 l0 x10_1).f2)); have hfz22_0 := fz BK357 0; have hfz22_1 := fz BK357 1; have hfz22_2 := fz BK357 2) | (go_at_call 37; (with_reducible refine (spec_l1In.calls ((rd_T47 l0 x10_1).f0) 0 100000 true _ A6.out).mono ?_); rintro e w' ⟨rfl, ⟨nd, rfl⟩⟩; (try first | exact ⟨rfl, _, World.drewN_drewN _ _ _⟩ | exact ⟨rfl, _, Eq.trans (World.drewN_drewN _ _ _) (congrArg (World.drewN _) (Nat.add_assoc _ _ _))⟩)) | (go_at_call 37; (with_reducible refine (spec_l1In.calls ((rd_T47 l0 x10_1).f1) 0 99 true _ A8.out).mono ?_); rintro e w' ⟨rfl, ⟨nd, rfl⟩⟩; (try first | exact ⟨rfl, _, World.drewN_drewN _ _ _⟩ | exact ⟨rfl, _, Eq.trans (World.drewN_drewN _ _ _) (congrArg (World.drewN _) (Nat.add_assoc _ _ _))⟩); have p360 : 0 ≤ ((ji11) : Int) := of_decide_eq_true hE; have q360 : (ji11) < (l0.length : Int) := of_decide_eq_true hE; obtain ⟨ad360, e360, hx360_0, hx360_1, hx360_2⟩ := at_T47 HR0.out (ji11) p360 q360; obtain rfl : ad356 = ad360 := (by injection e360); replace hx360_0 := (HB.out.cell (World.block_lt_of_cell? w _ hx360_0)).trans hx360_0; replace hx360_1 := (HB.out.cell (World.block_lt_of_cell? w _ hx360_1)).trans hx360_1; replace hx360_2 := (HB.out.cell (World.block_lt_of_cell? w _ hx360_2)).trans hx360_2; replace p360 := eq_true p360; replace q360 := eq_true q360)); try go_wp2_with (first | ((with_reducible refine gate_dst (N := 4) rfl ?_); refine box_event rfl (N := 4) rfl (cs := #[.int .i64 0, .int .i64 0, .bool false]) (t := 47) sE ?_; intro gb357 hg w19 hbox hb; have BK357 := Aside0.mk hbox; have GW357 := gS w hg (lU); have GE357 := gS w hg (lU); replace HB := bH (lU) hb; clear hb hbox hg; have hcz20_0 := cz BK357 0 (.int .i64 0); have hcz20_1 := cz BK357 1 (.int .i64 0); have hcz20_2 := cz BK357 2 (.bool false); have hfz20_0 := fz BK357 0; have hfz20_1 := fz BK357 1; have hfz20_2 := fz BK357 2) | ((with_reducible refine gate_store (t := 47) (p := 4) rfl ?_); (try (rw [drewN_self w19]; generalize hq_ : World.drewN w19 _ = w19; replace BK357 := Aside0.mk (blk_at hq_ BK357.out); replace HB := Aside0.mk (below_at hq_ HB.out); clear hq_)); refine store_event (t := 47) (p := 4) (v := ?vo_w21) (w1 := (((w19.setCell ⟨gb357, 0, none⟩ (.int .i64 ((rd_T47 l0 x10_1).f0))).setCell ⟨gb357, 1, none⟩ (.int .i64 ((rd_T47 l0 x10_1).f1))).setCell ⟨gb357, 2, none⟩ (.bool ((rd_T47 l0 x10_1).f2)))) ?hg ?ho ?hn ?hr ?_; (case ho => rfl); (case hg => rfl); (case hn => rfl); (case hr => first | (go_simp; done) | (go_simp; rfl) | (have hq0_ := (blk_cell BK357.out 0).trans (show _ = some _ from rfl); have hf0_ := blk_frozen BK357.out 0; have hq1_ := (blk_cell BK357.out 1).trans (show _ = some _ from rfl); have hf1_ := blk_frozen BK357.out 1; have hq2_ := (blk_cell BK357.out 2).trans (show _ = some _ from rfl); have hf2_ := blk_frozen BK357.out 2; first | (go_simp; done) | (go_simp; rfl))); intro w21 hw; replace BK357 : Aside0 (w21.heap[gb357]? = some (.cells #[.int .i64 ((rd_T47 l0 x10_1).f0), .int .i64 ((rd_T47 l0 x10_1).f1), .bool ((rd_T47 l0 x10_1).f2)] 47 (0, 0))) := ⟨(by rw [hw]; exact (by refine bU ?_; refine blk_put (cs := #[.int .i64 ((rd_T47 l0 x10_1).f0), .int .i64 ((rd_T47 l0 x10_1).f1), .bool false]) ?_ 2 _ rfl; refine bU ?_; refine blk_put (cs := #[.int .i64 ((rd_T47 l0 x10_1).f0), .int .i64 0, .bool false]) ?_ 1 _ rfl; refine bU ?_; refine blk_put (cs := #[.int .i64 0, .int .i64 0, .bool false]) ?_ 0 _ rfl; refine bU ?_; exact BK357.out))⟩; replace HB : Aside0 (Below w.heap.size w w21) := ⟨(by rw [hw]; exact (lV1 GE357))⟩; clear hw; have hcz22_0 := cz BK357 0 (.int .i64 ((rd_T47 l0 x10_1).f0)); have hcz22_1 := cz BK357 1 (.int .i64 ((rd_T47 l0 x10_1).f1)); have hcz22_2 := cz BK357 2 (.bool ((rd_T47 l0 x10_1).f2)); have hfz22_0 := fz BK357 0; have hfz22_1 := fz BK357 1; have hfz22_2 := fz BK357 2) | (go_at_call 37; (with_reducible refine (spec_l1In.calls ((rd_T47 l0 x10_1).f0) 0 100000 true _ A6.out).mono ?_); rintro e w' ⟨rfl, ⟨nd, rfl⟩⟩; (try first | exact ⟨rfl, _, World.drewN_drewN _ _ _⟩ | exact ⟨rfl, _, Eq.trans (World.drewN_drewN _ _ _) (congrArg (World.drewN _) (Nat.add_assoc _ _ _))⟩)) | (go_at_call 37; (with_reducible refine (spec_l1In.calls ((rd_T47 l0 x10_1).f1) 0 99 true _ A8.out).mono ?_); rintro e w' ⟨rfl, ⟨nd, rfl⟩⟩; (try first | exact ⟨rfl, _, World.drewN_drewN _ _ _⟩ | exact ⟨rfl, _, Eq.trans (World.drewN_drewN _ _ _) (congrArg (World.drewN _) (Nat.add_assoc _ _ _))⟩); have p360 : 0 ≤ ((ji11) : Int) := of_decide_eq_true hE; have q360 : (ji11) < (l0.length : Int) := of_decide_eq_true hE; obtain ⟨ad360, e360, hx360_0, hx360_1, hx360_2⟩ := at_T47 HR0.out (ji11) p360 q360; obtain rfl : ad356 = ad360 := (by injection e360); replace hx360_0 := (HB.out.cell (World.block_lt_of_cell? w _ hx360_0)).trans hx360_0; replace hx360_1 := (HB.out.cell (World.block_lt_of_cell? w _ hx360_1)).trans hx360_1; replace hx360_2 := (HB.out.cell (World.block_lt_of_cell? w _ hx360_2)).trans hx360_2; replace p360 := eq_true p360; replace q360 := eq_true q360)))
             go_roundg k1
             case measure => have := HK1.out; omega
             case rel => exact ⟨(wrap64 (x10_1 + 1)), tE, H', ⟨by have := HK1.out; omega⟩, ⟨by repeat (first | (with_reducible first | exact HB.out | apply below_alloc | apply pw_below_drewN | apply below_drew1 | refine below_set ?_ GE357.out) | exact HB.out)⟩⟩
           ·rw [if_neg c13] at H
            exact absurd H (by simp)
          ·rw [if_neg c12] at H
           exact absurd H (by simp)
         ·rw [if_neg c10] at H
          have c10b0 : decide (0 < x10_1) = false := decide_eq_false c10
          clear c10
          have H' := Aside0.mk H
          clear H
          have p356 : 0 ≤ (x10_1 : Int) := of_decide_eq_true hE
          have q356 : x10_1 < (l0.length : Int) := of_decide_eq_true hE
          obtain ⟨ad356, e356, hx356_0, hx356_1, hx356_2⟩ := at_T47 HR0.out x10_1 p356 q356
          cases e356
          replace hx356_0 := (HB.out.cell (World.block_lt_of_cell? w _ hx356_0)).trans hx356_0
          replace hx356_1 := (HB.out.cell (World.block_lt_of_cell? w _ hx356_1)).trans hx356_1
          replace hx356_2 := (HB.out.cell (World.block_lt_of_cell? w _ hx356_2)).trans hx356_2
          replace p356 := eq_true p356
          replace q356 := eq_true q356
          go_wp2_with (first | ((with_reducible refine gate_dst (N := 4) rfl ?_); refine box_event rfl (N := 4) rfl (cs := #[.int .i64 0, .int .i64 0, .bool false]) (t := 47) sE ?_; intro gb357 hg w23 hbox hb; have BK357 := Aside0.mk hbox; have GW357 := gS w hg (lU); have GE357 := gS w hg (lU); replace HB := bH (lU) hb; clear hb hbox hg; have hcz24_0 := cz BK357 0 (.int .i64 0); have hcz24_1 := cz BK357 1 (.int .i64 0); have hcz24_2 := cz BK357 2 (.bool false); have hfz24_0 := fz BK357 0; have hfz24_1 := fz BK357 1; have hfz24_2 := fz BK357 2) | ((with_reducible refine gate_store (t := 47) (p := 4) rfl ?_); (try (rw [drewN_self w23]; generalize hq_ : World.drewN w23 _ = w23; replace BK357 := Aside0.mk (blk_at hq_ BK357.out); replace HB := Aside0.mk (below_at hq_ HB.out); clear hq_)); refine store_event (t := 47) (p := 4) (v := ?vo_w25) (w1 := (((w23.setCell ⟨gb357, 0, none⟩ (.int .i64 ((rd_T47 l0 x10_1).f0))).setCell ⟨gb357, 1, none⟩ (.int .i64 ((rd_T47 l0 x10_1).f1))).setCell ⟨gb357, 2, none⟩ (.bool ((rd_T47 l0 x10_1).f2)))) ?hg ?ho ?hn ?hr ?_; (case ho => rfl); (case hg => rfl); (case hn => rfl); (case hr => first | (go_simp; done) | (go_simp; rfl) | (have hq0_ := (blk_cell BK357.out 0).trans (show _ = some _ from rfl); have hf0_ := blk_frozen BK357.out 0; have hq1_ := (blk_cell BK357.out 1).trans (show _ = some _ from rfl); have hf1_ := blk_frozen BK357.out 1; have hq2_ := (blk_cell BK357.out 2).trans (show _ = some _ from rfl); have hf2_ := blk_frozen BK357.out 2; first | (go_simp; done) | (go_simp; rfl))); intro w25 hw; replace BK357 : Aside0 (w25.heap[gb357]? = some (.cells #[.int .i64 ((rd_T47 l0 x10_1).f0), .int .i64 ((rd_T47 l0 x10_1).f1), .bool ((rd_T47 l0 x10_1).f2)] 47 (0, 0))) := ⟨(by rw [hw]; exact (by refine bU ?_; refine blk_put (cs := #[.int .i64 ((rd_T47 l0 x10_1).f0), .int .i64 ((rd_T47 l0 x10_1).f1), .bool false]) ?_ 2 _ rfl; refine bU ?_; refine blk_put (cs := #[.int .i64 ((rd_T47 l0 x10_1).f0), .int .i64 0, .bool false]) ?_ 1 _ rfl; refine bU ?_; refine blk_put (cs := #[.int .i64 0, .int .i64 0, .bool false]) ?_ 0 _ rfl; refine bU ?_; exact BK357.out))⟩; replace HB : Aside0 (Below w.heap.size w w25) := ⟨(by rw [hw]; exact (lV1 GE357))⟩; clear hw; have hcz26_0 := cz BK357 0 (.int .i64 ((rd_T47 l0 x10_1).f0)); have hcz26_1 := cz BK357 1 (.int .i64 ((rd_T47 l0 x10_1).f1)); have hcz26_2 := cz BK357 2 (.bool ((rd_T47 l0 x10_1).f2)); have hfz26_0 := fz BK357 0; have hfz26_1 := fz BK357 1; have hfz26_2 := fz BK357 2) | (go_at_call 37; (with_reducible refine (spec_l1In.calls ((rd_T47 l0 x10_1).f0) 0 100000 true _ A6.out).mono ?_); rintro e w' ⟨rfl, ⟨nd, rfl⟩⟩; (try first | exact ⟨rfl, _, World.drewN_drewN _ _ _⟩ | exact ⟨rfl, _, Eq.trans (World.drewN_drewN _ _ _) (congrArg (World.drewN _) (Nat.add_assoc _ _ _))⟩)) | (go_at_call 37; (with_reducible refine (spec_l1In.calls ((rd_T47 l0 x10_1).f1) 0 99 true _ A8.out).mono ?_); rintro e w' ⟨rfl, ⟨nd, rfl⟩⟩; (try first | exact ⟨rfl, _, World.drewN_drewN _ _ _⟩ | exact ⟨rfl, _, Eq.trans (World.drewN_drewN _ _ _) (congrArg (World.drewN _) (Nat.add_assoc _ _ _))⟩)))
          repeat (go_quiet (first | ((with_reducible refine gate_dst (N := 4) rfl ?_); refine box_event rfl (N := 4) rfl (cs := #[.int .i64 0, .int .i64 0, .bool false]) (t := 47) sE ?_; intro gb357 hg w23 hbox hb; have BK357 := Aside0.mk hbox; have GW357 := gS w hg (lU); have GE357 := gS w hg (lU); replace HB := bH (lU) hb; clear hb hbox hg; have hcz24_0 := cz BK357 0 (.int .i64 0); have hcz24_1 := cz BK357 1 (.int .i64 0); have hcz24_2 := cz BK357 2 (.bool false); have hfz24_0 := fz BK357 0; have hfz24_1 := fz BK357 1; have hfz24_2 := fz BK357 2) | ((with_reducible refine gate_store (t := 47) (p := 4) rfl ?_); (try (rw [drewN_self w23]; generalize hq_ : World.drewN w23 _ = w23; replace BK357 := Aside0.mk (blk_at hq_ BK357.out); replace HB := Aside0.mk (below_at hq_ HB.out); clear hq_)); refine store_event (t := 47) (p := 4) (v := ?vo_w25) (w1 := (((w23.setCell ⟨gb357, 0, none⟩ (.int .i64 ((rd_T47 l0 x10_1).f0))).setCell ⟨gb357, 1, none⟩ (.int .i64 ((rd_T47 l0 x10_1).f1))).setCell ⟨gb357, 2, none⟩ (.bool ((rd_T47 l0 x10_1).f2)))) ?hg ?ho ?hn ?hr ?_; (case ho => rfl); (case hg => rfl); (case hn => rfl); (case hr => first | (go_simp; done) | (go_simp; rfl) | (have hq0_ := (blk_cell BK357.out 0).trans (show _ = some _ from rfl); have hf0_ := blk_frozen BK357.out 0; have hq1_ := (blk_cell BK357.out 1).trans (show _ = some _ from rfl); have hf1_ := blk_frozen BK357.out 1; have hq2_ := (blk_cell BK357.out 2).trans (show _ = some _ from rfl); have hf2_ := blk_frozen BK357.out 2; first | (go_simp; done) | (go_simp; rfl))); intro w25 hw; replace BK357 : Aside0 (w25.heap[gb357]? = some (.cells #[.int .i64 ((rd_T47 l0 x10_1).f0), .int .i64 ((rd_T47 l0 x10_1).f1), .bool ((rd_T47 l0 x10_1).f2)] 47 (0, 0))) := ⟨(by rw [hw]; exact (by refine bU ?_; refine blk_put (cs := #[.int .i64 ((rd_T47 l0 x10_1).f0), .int .i64 ((rd_T47 l0 x10_1).f1), .bool false]) ?_ 2 _ rfl; refine bU ?_; refine blk_put (cs := #[.int .i64 ((rd_T47 l0 x10_1).f0), .int .i64 0, .bool false]) ?_ 1 _ rfl; refine bU ?_; refine blk_put (cs := #[.int .i64 0, .int .i64 0, .bool false]) ?_ 0 _ rfl; refine bU ?_; exact BK357.out))⟩; replace HB : Aside0 (Below w.heap.size w w25) := ⟨(by rw [hw]; exact (lV1 GE357))⟩; clear hw; have hcz26_0 := cz BK357 0 (.int .i64 ((rd_T47 l0 x10_1).f0)); have hcz26_1 := cz BK357 1 (.int .i64 ((rd_T47 l0 x10_1).f1)); have hcz26_2 := cz BK357 2 (.bool ((rd_T47 l0 x10_1).f2)); have hfz26_0 := fz BK357 0; have hfz26_1 := fz BK357 1; have hfz26_2 := fz BK357 2) | (go_at_call 37; (with_reducible refine (spec_l1In.calls ((rd_T47 l0 x10_1).f0) 0 100000 true _ A6.out).mono ?_); rintro e w' ⟨rfl, ⟨nd, rfl⟩⟩; (try first | exact ⟨rfl, _, World.drewN_drewN _ _ _⟩ | exact ⟨rfl, _, Eq.trans (World.drewN_drewN _ _ _) (congrArg (World.drewN _) (Nat.add_assoc _ _ _))⟩)) | (go_at_call 37; (with_reducible refine (spec_l1In.calls ((rd_T47 l0 x10_1).f1) 0 99 true _ A8.out).mono ?_); rintro e w' ⟨rfl, ⟨nd, rfl⟩⟩; (try first | exact ⟨rfl, _, World.drewN_drewN _ _ _⟩ | exact ⟨rfl, _, Eq.trans (World.drewN_drewN _ _ _) (congrArg (World.drewN _) (Nat.add_assoc _ _ _))⟩))); try go_wp2_with (first | ((with_reducible refine gate_dst (N := 4) rfl ?_); refine box_event rfl (N := 4) rfl (cs := #[.int .i64 0, .int .i64 0, .bool false]) (t := 47) sE ?_; intro gb357 hg w23 hbox hb; have BK357 := Aside0.mk hbox; have GW357 := gS w hg (lU); have GE357 := gS w hg (lU); replace HB := bH (lU) hb; clear hb hbox hg; have hcz24_0 := cz BK357 0 (.int .i64 0); have hcz24_1 := cz BK357 1 (.int .i64 0); have hcz24_2 := cz BK357 2 (.bool false); have hfz24_0 := fz BK357 0; have hfz24_1 := fz BK357 1; have hfz24_2 := fz BK357 2) | ((with_reducible refine gate_store (t := 47) (p := 4) rfl ?_); (try (rw [drewN_self w23]; generalize hq_ : World.drewN w23 _ = w23; replace BK357 := Aside0.mk (blk_at hq_ BK357.out); replace HB := Aside0.mk (below_at hq_ HB.out); clear hq_)); refine store_event (t := 47) (p := 4) (v := ?vo_w25) (w1 := (((w23.setCell ⟨gb357, 0, none⟩ (.int .i64 ((rd_T47 l0 x10_1).f0))).setCell ⟨gb357, 1, none⟩ (.int .i64 ((rd_T47 l0 x10_1).f1))).setCell ⟨gb357, 2, none⟩ (.bool ((rd_T47 l0 x10_1).f2)))) ?hg ?ho ?hn ?hr ?_; (case ho => rfl); (case hg => rfl); (case hn => rfl); (case hr => first | (go_simp; done) | (go_simp; rfl) | (have hq0_ := (blk_cell BK357.out 0).trans (show _ = some _ from rfl); have hf0_ := blk_frozen BK357.out 0; have hq1_ := (blk_cell BK357.out 1).trans (show _ = some _ from rfl); have hf1_ := blk_frozen BK357.out 1; have hq2_ := (blk_cell BK357.out 2).trans (show _ = some _ from rfl); have hf2_ := blk_frozen BK357.out 2; first | (go_simp; done) | (go_simp; rfl))); intro w25 hw; replace BK357 : Aside0 (w25.heap[gb357]? = some (.cells #[.int .i64 ((rd_T47 l0 x10_1).f0), .int .i64 ((rd_T47 l0 x10_1).f1), .bool ((rd_T47 l0 x10_1).f2)] 47 (0, 0))) := ⟨(by rw [hw]; exact (by refine bU ?_; refine blk_put (cs := #[.int .i64 ((rd_T47 l0 x10_1).f0), .int .i64 ((rd_T47 l0 x10_1).f1), .bool false]) ?_ 2 _ rfl; refine bU ?_; refine blk_put (cs := #[.int .i64 ((rd_T47 l0 x10_1).f0), .int .i64 0, .bool false]) ?_ 1 _ rfl; refine bU ?_; refine blk_put (cs := #[.int .i64 0, .int .i64 0, .bool false]) ?_ 0 _ rfl; refine bU ?_; exact BK357.out))⟩; replace HB : Aside0 (Below w.heap.size w w25) := ⟨(by rw [hw]; exact (lV1 GE357))⟩; clear hw; have hcz26_0 := cz BK357 0 (.int .i64 ((rd_T47 l0 x10_1).f0)); have hcz26_1 := cz BK357 1 (.int .i64 ((rd_T47 l0 x10_1).f1)); have hcz26_2 := cz BK357 2 (.bool ((rd_T47 l0 x10_1).f2)); have hfz26_0 := fz BK357 0; have hfz26_1 := fz BK357 1; have hfz26_2 := fz BK357 2) | (go_at_call 37; (with_reducible refine (spec_l1In.calls ((rd_T47 l0 x10_1).f0) 0 100000 true _ A6.out).mono ?_); rintro e w' ⟨rfl, ⟨nd, rfl⟩⟩; (try first | exact ⟨rfl, _, World.drewN_drewN _ _ _⟩ | exact ⟨rfl, _, Eq.trans (World.drewN_drewN _ _ _) (congrArg (World.drewN _) (Nat.add_assoc _ _ _))⟩)) | (go_at_call 37; (with_reducible refine (spec_l1In.calls ((rd_T47 l0 x10_1).f1) 0 99 true _ A8.out).mono ?_); rintro e w' ⟨rfl, ⟨nd, rfl⟩⟩; (try first | exact ⟨rfl, _, World.drewN_drewN _ _ _⟩ | exact ⟨rfl, _, Eq.trans (World.drewN_drewN _ _ _) (congrArg (World.drewN _) (Nat.add_assoc _ _ _))⟩))))
          go_roundg k1
          case measure => have := HK1.out; omega
          case rel => exact ⟨(wrap64 (x10_1 + 1)), tE, H', ⟨by have := HK1.out; omega⟩, ⟨by repeat (first | (with_reducible first | exact HB.out | apply below_alloc | apply pw_below_drewN | apply below_drew1 | refine below_set ?_ GE357.out) | exact HB.out)⟩⟩
        ·replace c9 := Bool.eq_false_iff.mpr c9
         subst c9
         have H1 : (some false) = some r := by rw [if_neg (show ¬ (false = true) by decide)] at H; exact H
         clear H
         have H := H1
         clear H1
         obtain rfl := Option.some.inj H
         have p356 : 0 ≤ (x10_1 : Int) := of_decide_eq_true hE
         have q356 : x10_1 < (l0.length : Int) := of_decide_eq_true hE
         obtain ⟨ad356, e356, hx356_0, hx356_1, hx356_2⟩ := at_T47 HR0.out x10_1 p356 q356
         cases e356
         replace hx356_0 := (HB.out.cell (World.block_lt_of_cell? w _ hx356_0)).trans hx356_0
         replace hx356_1 := (HB.out.cell (World.block_lt_of_cell? w _ hx356_1)).trans hx356_1
         replace hx356_2 := (HB.out.cell (World.block_lt_of_cell? w _ hx356_2)).trans hx356_2
         replace p356 := eq_true p356
         replace q356 := eq_true q356
         go_wp2_with (first | ((with_reducible refine gate_dst (N := 4) rfl ?_); refine box_event rfl (N := 4) rfl (cs := #[.int .i64 0, .int .i64 0, .bool false]) (t := 47) sE ?_; intro gb357 hg w27 hbox hb; have BK357 := Aside0.mk hbox; have GW357 := gS w hg (lU); have GE357 := gS w hg (lU); replace HB := bH (lU) hb; clear hb hbox hg; have hcz28_0 := cz BK357 0 (.int .i64 0); have hcz28_1 := cz BK357 1 (.int .i64 0); have hcz28_2 := cz BK357 2 (.bool false); have hfz28_0 := fz BK357 0; have hfz28_1 := fz BK357 1; have hfz28_2 := fz BK357 2) | ((with_reducible refine gate_store (t := 47) (p := 4) rfl ?_); (try (rw [drewN_self w27]; generalize hq_ : World.drewN w27 _ = w27; replace BK357 := Aside0.mk (blk_at hq_ BK357.out); replace HB := Aside0.mk (below_at hq_ HB.out); clear hq_)); refine store_event (t := 47) (p := 4) (v := ?vo_w29) (w1 := (((w27.setCell ⟨gb357, 0, none⟩ (.int .i64 ((rd_T47 l0 x10_1).f0))).setCell ⟨gb357, 1, none⟩ (.int .i64 ((rd_T47 l0 x10_1).f1))).setCell ⟨gb357, 2, none⟩ (.bool ((rd_T47 l0 x10_1).f2)))) ?hg ?ho ?hn ?hr ?_; (case ho => rfl); (case hg => rfl); (case hn => rfl); (case hr => first | (go_simp; done) | (go_simp; rfl) | (have hq0_ := (blk_cell BK357.out 0).trans (show _ = some _ from rfl); have hf0_ := blk_frozen BK357.out 0; have hq1_ := (blk_cell BK357.out 1).trans (show _ = some _ from rfl); have hf1_ := blk_frozen BK357.out 1; have hq2_ := (blk_cell BK357.out 2).trans (show _ = some _ from rfl); have hf2_ := blk_frozen BK357.out 2; first | (go_simp; done) | (go_simp; rfl))); intro w29 hw; replace BK357 : Aside0 (w29.heap[gb357]? = some (.cells #[.int .i64 ((rd_T47 l0 x10_1).f0), .int .i64 ((rd_T47 l0 x10_1).f1), .bool ((rd_T47 l0 x10_1).f2)] 47 (0, 0))) := ⟨(by rw [hw]; exact (by refine bU ?_; refine blk_put (cs := #[.int .i64 ((rd_T47 l0 x10_1).f0), .int .i64 ((rd_T47 l0 x10_1).f1), .bool false]) ?_ 2 _ rfl; refine bU ?_; refine blk_put (cs := #[.int .i64 ((rd_T47 l0 x10_1).f0), .int .i64 0, .bool false]) ?_ 1 _ rfl; refine bU ?_; refine blk_put (cs := #[.int .i64 0, .int .i64 0, .bool false]) ?_ 0 _ rfl; refine bU ?_; exact BK357.out))⟩; replace HB : Aside0 (Below w.heap.size w w29) := ⟨(by rw [hw]; exact (lV1 GE357))⟩; clear hw; have hcz30_0 := cz BK357 0 (.int .i64 ((rd_T47 l0 x10_1).f0)); have hcz30_1 := cz BK357 1 (.int .i64 ((rd_T47 l0 x10_1).f1)); have hcz30_2 := cz BK357 2 (.bool ((rd_T47 l0 x10_1).f2)); have hfz30_0 := fz BK357 0; have hfz30_1 := fz BK357 1; have hfz30_2 := fz BK357 2) | (go_at_call 37; (with_reducible refine (spec_l1In.calls ((rd_T47 l0 x10_1).f0) 0 100000 true _ A6.out).mono ?_); rintro e w' ⟨rfl, ⟨nd, rfl⟩⟩; (try first | exact ⟨rfl, _, World.drewN_drewN _ _ _⟩ | exact ⟨rfl, _, Eq.trans (World.drewN_drewN _ _ _) (congrArg (World.drewN _) (Nat.add_assoc _ _ _))⟩)) | (go_at_call 37; (with_reducible refine (spec_l1In.calls ((rd_T47 l0 x10_1).f1) 0 99 false _ A8.out).mono ?_); rintro e w' ⟨rfl, ⟨nd, rfl⟩⟩; (try first | exact ⟨rfl, _, World.drewN_drewN _ _ _⟩ | exact ⟨rfl, _, Eq.trans (World.drewN_drewN _ _ _) (congrArg (World.drewN _) (Nat.add_assoc _ _ _))⟩)))
         repeat (go_quiet (first | ((with_reducible refine gate_dst (N := 4) rfl ?_); refine box_event rfl (N := 4) rfl (cs := #[.int .i64 0, .int .i64 0, .bool false]) (t := 47) sE ?_; intro gb357 hg w27 hbox hb; have BK357 := Aside0.mk hbox; have GW357 := gS w hg (lU); have GE357 := gS w hg (lU); replace HB := bH (lU) hb; clear hb hbox hg; have hcz28_0 := cz BK357 0 (.int .i64 0); have hcz28_1 := cz BK357 1 (.int .i64 0); have hcz28_2 := cz BK357 2 (.bool false); have hfz28_0 := fz BK357 0; have hfz28_1 := fz BK357 1; have hfz28_2 := fz BK357 2) | ((with_reducible refine gate_store (t := 47) (p := 4) rfl ?_); (try (rw [drewN_self w27]; generalize hq_ : World.drewN w27 _ = w27; replace BK357 := Aside0.mk (blk_at hq_ BK357.out); replace HB := Aside0.mk (below_at hq_ HB.out); clear hq_)); refine store_event (t := 47) (p := 4) (v := ?vo_w29) (w1 := (((w27.setCell ⟨gb357, 0, none⟩ (.int .i64 ((rd_T47 l0 x10_1).f0))).setCell ⟨gb357, 1, none⟩ (.int .i64 ((rd_T47 l0 x10_1).f1))).setCell ⟨gb357, 2, none⟩ (.bool ((rd_T47 l0 x10_1).f2)))) ?hg ?ho ?hn ?hr ?_; (case ho => rfl); (case hg => rfl); (case hn => rfl); (case hr => first | (go_simp; done) | (go_simp; rfl) | (have hq0_ := (blk_cell BK357.out 0).trans (show _ = some _ from rfl); have hf0_ := blk_frozen BK357.out 0; have hq1_ := (blk_cell BK357.out 1).trans (show _ = some _ from rfl); have hf1_ := blk_frozen BK357.out 1; have hq2_ := (blk_cell BK357.out 2).trans (show _ = some _ from rfl); have hf2_ := blk_frozen BK357.out 2; first | (go_simp; done) | (go_simp; rfl))); intro w29 hw; replace BK357 : Aside0 (w29.heap[gb357]? = some (.cells #[.int .i64 ((rd_T47 l0 x10_1).f0), .int .i64 ((rd_T47 l0 x10_1).f1), .bool ((rd_T47 l0 x10_1).f2)] 47 (0, 0))) := ⟨(by rw [hw]; exact (by refine bU ?_; refine blk_put (cs := #[.int .i64 ((rd_T47 l0 x10_1).f0), .int .i64 ((rd_T47 l0 x10_1).f1), .bool false]) ?_ 2 _ rfl; refine bU ?_; refine blk_put (cs := #[.int .i64 ((rd_T47 l0 x10_1).f0), .int .i64 0, .bool false]) ?_ 1 _ rfl; refine bU ?_; refine blk_put (cs := #[.int .i64 0, .int .i64 0, .bool false]) ?_ 0 _ rfl; refine bU ?_; exact BK357.out))⟩; replace HB : Aside0 (Below w.heap.size w w29) := ⟨(by rw [hw]; exact (lV1 GE357))⟩; clear hw; have hcz30_0 := cz BK357 0 (.int .i64 ((rd_T47 l0 x10_1).f0)); have hcz30_1 := cz BK357 1 (.int .i64 ((rd_T47 l0 x10_1).f1)); have hcz30_2 := cz BK357 2 (.bool ((rd_T47 l0 x10_1).f2)); have hfz30_0 := fz BK357 0; have hfz30_1 := fz BK357 1; have hfz30_2 := fz BK357 2) | (go_at_call 37; (with_reducible refine (spec_l1In.calls ((rd_T47 l0 x10_1).f0) 0 100000 true _ A6.out).mono ?_); rintro e w' ⟨rfl, ⟨nd, rfl⟩⟩; (try first | exact ⟨rfl, _, World.drewN_drewN _ _ _⟩ | exact ⟨rfl, _, Eq.trans (World.drewN_drewN _ _ _) (congrArg (World.drewN _) (Nat.add_assoc _ _ _))⟩)) | (go_at_call 37; (with_reducible refine (spec_l1In.calls ((rd_T47 l0 x10_1).f1) 0 99 false _ A8.out).mono ?_); rintro e w' ⟨rfl, ⟨nd, rfl⟩⟩; (try first | exact ⟨rfl, _, World.drewN_drewN _ _ _⟩ | exact ⟨rfl, _, Eq.trans (World.drewN_drewN _ _ _) (congrArg (World.drewN _) (Nat.add_assoc _ _ _))⟩))); try go_wp2_with (first | ((with_reducible refine gate_dst (N := 4) rfl ?_); refine box_event rfl (N := 4) rfl (cs := #[.int .i64 0, .int .i64 0, .bool false]) (t := 47) sE ?_; intro gb357 hg w27 hbox hb; have BK357 := Aside0.mk hbox; have GW357 := gS w hg (lU); have GE357 := gS w hg (lU); replace HB := bH (lU) hb; clear hb hbox hg; have hcz28_0 := cz BK357 0 (.int .i64 0); have hcz28_1 := cz BK357 1 (.int .i64 0); have hcz28_2 := cz BK357 2 (.bool false); have hfz28_0 := fz BK357 0; have hfz28_1 := fz BK357 1; have hfz28_2 := fz BK357 2) | ((with_reducible refine gate_store (t := 47) (p := 4) rfl ?_); (try (rw [drewN_self w27]; generalize hq_ : World.drewN w27 _ = w27; replace BK357 := Aside0.mk (blk_at hq_ BK357.out); replace HB := Aside0.mk (below_at hq_ HB.out); clear hq_)); refine store_event (t := 47) (p := 4) (v := ?vo_w29) (w1 := (((w27.setCell ⟨gb357, 0, none⟩ (.int .i64 ((rd_T47 l0 x10_1).f0))).setCell ⟨gb357, 1, none⟩ (.int .i64 ((rd_T47 l0 x10_1).f1))).setCell ⟨gb357, 2, none⟩ (.bool ((rd_T47 l0 x10_1).f2)))) ?hg ?ho ?hn ?hr ?_; (case ho => rfl); (case hg => rfl); (case hn => rfl); (case hr => first | (go_simp; done) | (go_simp; rfl) | (have hq0_ := (blk_cell BK357.out 0).trans (show _ = some _ from rfl); have hf0_ := blk_frozen BK357.out 0; have hq1_ := (blk_cell BK357.out 1).trans (show _ = some _ from rfl); have hf1_ := blk_frozen BK357.out 1; have hq2_ := (blk_cell BK357.out 2).trans (show _ = some _ from rfl); have hf2_ := blk_frozen BK357.out 2; first | (go_simp; done) | (go_simp; rfl))); intro w29 hw; replace BK357 : Aside0 (w29.heap[gb357]? = some (.cells #[.int .i64 ((rd_T47 l0 x10_1).f0), .int .i64 ((rd_T47 l0 x10_1).f1), .bool ((rd_T47 l0 x10_1).f2)] 47 (0, 0))) := ⟨(by rw [hw]; exact (by refine bU ?_; refine blk_put (cs := #[.int .i64 ((rd_T47 l0 x10_1).f0), .int .i64 ((rd_T47 l0 x10_1).f1), .bool false]) ?_ 2 _ rfl; refine bU ?_; refine blk_put (cs := #[.int .i64 ((rd_T47 l0 x10_1).f0), .int .i64 0, .bool false]) ?_ 1 _ rfl; refine bU ?_; refine blk_put (cs := #[.int .i64 0, .int .i64 0, .bool false]) ?_ 0 _ rfl; refine bU ?_; exact BK357.out))⟩; replace HB : Aside0 (Below w.heap.size w w29) := ⟨(by rw [hw]; exact (lV1 GE357))⟩; clear hw; have hcz30_0 := cz BK357 0 (.int .i64 ((rd_T47 l0 x10_1).f0)); have hcz30_1 := cz BK357 1 (.int .i64 ((rd_T47 l0 x10_1).f1)); have hcz30_2 := cz BK357 2 (.bool ((rd_T47 l0 x10_1).f2)); have hfz30_0 := fz BK357 0; have hfz30_1 := fz BK357 1; have hfz30_2 := fz BK357 2) | (go_at_call 37; (with_reducible refine (spec_l1In.calls ((rd_T47 l0 x10_1).f0) 0 100000 true _ A6.out).mono ?_); rintro e w' ⟨rfl, ⟨nd, rfl⟩⟩; (try first | exact ⟨rfl, _, World.drewN_drewN _ _ _⟩ | exact ⟨rfl, _, Eq.trans (World.drewN_drewN _ _ _) (congrArg (World.drewN _) (Nat.add_assoc _ _ _))⟩)) | (go_at_call 37; (with_reducible refine (spec_l1In.calls ((rd_T47 l0 x10_1).f1) 0 99 false _ A8.out).mono ?_); rintro e w' ⟨rfl, ⟨nd, rfl⟩⟩; (try first | exact ⟨rfl, _, World.drewN_drewN _ _ _⟩ | exact ⟨rfl, _, Eq.trans (World.drewN_drewN _ _ _) (congrArg (World.drewN _) (Nat.add_assoc _ _ _))⟩))))
         go_ret
         exact ⟨eE, lV1 GE357⟩
       ·replace c7 := Bool.eq_false_iff.mpr c7
        subst c7
        have H1 : (some false) = some r := by rw [if_neg (show ¬ (false = true) by decide)] at H; exact H
        clear H
        have H := H1
        clear H1
        obtain rfl := Option.some.inj H
        have p356 : 0 ≤ (x10_1 : Int) := of_decide_eq_true hE
        have q356 : x10_1 < (l0.length : Int) := of_decide_eq_true hE
        obtain ⟨ad356, e356, hx356_0, hx356_1, hx356_2⟩ := at_T47 HR0.out x10_1 p356 q356
        cases e356
        replace hx356_0 := (HB.out.cell (World.block_lt_of_cell? w _ hx356_0)).trans hx356_0
        replace hx356_1 := (HB.out.cell (World.block_lt_of_cell? w _ hx356_1)).trans hx356_1
        replace hx356_2 := (HB.out.cell (World.block_lt_of_cell? w _ hx356_2)).trans hx356_2
        replace p356 := eq_true p356
        replace q356 := eq_true q356
        go_wp2_with (first | ((with_reducible refine gate_dst (N := 4) rfl ?_); refine box_event rfl (N := 4) rfl (cs := #[.int .i64 0, .int .i64 0, .bool false]) (t := 47) sE ?_; intro gb357 hg w31 hbox hb; have BK357 := Aside0.mk hbox; have GW357 := gS w hg (lU); have GE357 := gS w hg (lU); replace HB := bH (lU) hb; clear hb hbox hg; have hcz32_0 := cz BK357 0 (.int .i64 0); have hcz32_1 := cz BK357 1 (.int .i64 0); have hcz32_2 := cz BK357 2 (.bool false); have hfz32_0 := fz BK357 0; have hfz32_1 := fz BK357 1; have hfz32_2 := fz BK357 2) | ((with_reducible refine gate_store (t := 47) (p := 4) rfl ?_); (try (rw [drewN_self w31]; generalize hq_ : World.drewN w31 _ = w31; replace BK357 := Aside0.mk (blk_at hq_ BK357.out); replace HB := Aside0.mk (below_at hq_ HB.out); clear hq_)); refine store_event (t := 47) (p := 4) (v := ?vo_w33) (w1 := (((w31.setCell ⟨gb357, 0, none⟩ (.int .i64 ((rd_T47 l0 x10_1).f0))).setCell ⟨gb357, 1, none⟩ (.int .i64 ((rd_T47 l0 x10_1).f1))).setCell ⟨gb357, 2, none⟩ (.bool ((rd_T47 l0 x10_1).f2)))) ?hg ?ho ?hn ?hr ?_; (case ho => rfl); (case hg => rfl); (case hn => rfl); (case hr => first | (go_simp; done) | (go_simp; rfl) | (have hq0_ := (blk_cell BK357.out 0).trans (show _ = some _ from rfl); have hf0_ := blk_frozen BK357.out 0; have hq1_ := (blk_cell BK357.out 1).trans (show _ = some _ from rfl); have hf1_ := blk_frozen BK357.out 1; have hq2_ := (blk_cell BK357.out 2).trans (show _ = some _ from rfl); have hf2_ := blk_frozen BK357.out 2; first | (go_simp; done) | (go_simp; rfl))); intro w33 hw; replace BK357 : Aside0 (w33.heap[gb357]? = some (.cells #[.int .i64 ((rd_T47 l0 x10_1).f0), .int .i64 ((rd_T47 l0 x10_1).f1), .bool ((rd_T47 l0 x10_1).f2)] 47 (0, 0))) := ⟨(by rw [hw]; exact (by refine bU ?_; refine blk_put (cs := #[.int .i64 ((rd_T47 l0 x10_1).f0), .int .i64 ((rd_T47 l0 x10_1).f1), .bool false]) ?_ 2 _ rfl; refine bU ?_; refine blk_put (cs := #[.int .i64 ((rd_T47 l0 x10_1).f0), .int .i64 0, .bool false]) ?_ 1 _ rfl; refine bU ?_; refine blk_put (cs := #[.int .i64 0, .int .i64 0, .bool false]) ?_ 0 _ rfl; refine bU ?_; exact BK357.out))⟩; replace HB : Aside0 (Below w.heap.size w w33) := ⟨(by rw [hw]; exact (lV1 GE357))⟩; clear hw; have hcz34_0 := cz BK357 0 (.int .i64 ((rd_T47 l0 x10_1).f0)); have hcz34_1 := cz BK357 1 (.int .i64 ((rd_T47 l0 x10_1).f1)); have hcz34_2 := cz BK357 2 (.bool ((rd_T47 l0 x10_1).f2)); have hfz34_0 := fz BK357 0; have hfz34_1 := fz BK357 1; have hfz34_2 := fz BK357 2) | (go_at_call 37; (with_reducible refine (spec_l1In.calls ((rd_T47 l0 x10_1).f0) 0 100000 false _ A6.out).mono ?_); rintro e w' ⟨rfl, ⟨nd, rfl⟩⟩; (try first | exact ⟨rfl, _, World.drewN_drewN _ _ _⟩ | exact ⟨rfl, _, Eq.trans (World.drewN_drewN _ _ _) (congrArg (World.drewN _) (Nat.add_assoc _ _ _))⟩)))
        repeat (go_quiet (first | ((with_reducible refine gate_dst (N := 4) rfl ?_); refine box_event rfl (N := 4) rfl (cs := #[.int .i64 0, .int .i64 0, .bool false]) (t := 47) sE ?_; intro gb357 hg w31 hbox hb; have BK357 := Aside0.mk hbox; have GW357 := gS w hg (lU); have GE357 := gS w hg (lU); replace HB := bH (lU) hb; clear hb hbox hg; have hcz32_0 := cz BK357 0 (.int .i64 0); have hcz32_1 := cz BK357 1 (.int .i64 0); have hcz32_2 := cz BK357 2 (.bool false); have hfz32_0 := fz BK357 0; have hfz32_1 := fz BK357 1; have hfz32_2 := fz BK357 2) | ((with_reducible refine gate_store (t := 47) (p := 4) rfl ?_); (try (rw [drewN_self w31]; generalize hq_ : World.drewN w31 _ = w31; replace BK357 := Aside0.mk (blk_at hq_ BK357.out); replace HB := Aside0.mk (below_at hq_ HB.out); clear hq_)); refine store_event (t := 47) (p := 4) (v := ?vo_w33) (w1 := (((w31.setCell ⟨gb357, 0, none⟩ (.int .i64 ((rd_T47 l0 x10_1).f0))).setCell ⟨gb357, 1, none⟩ (.int .i64 ((rd_T47 l0 x10_1).f1))).setCell ⟨gb357, 2, none⟩ (.bool ((rd_T47 l0 x10_1).f2)))) ?hg ?ho ?hn ?hr ?_; (case ho => rfl); (case hg => rfl); (case hn => rfl); (case hr => first | (go_simp; done) | (go_simp; rfl) | (have hq0_ := (blk_cell BK357.out 0).trans (show _ = some _ from rfl); have hf0_ := blk_frozen BK357.out 0; have hq1_ := (blk_cell BK357.out 1).trans (show _ = some _ from rfl); have hf1_ := blk_frozen BK357.out 1; have hq2_ := (blk_cell BK357.out 2).trans (show _ = some _ from rfl); have hf2_ := blk_frozen BK357.out 2; first | (go_simp; done) | (go_simp; rfl))); intro w33 hw; replace BK357 : Aside0 (w33.heap[gb357]? = some (.cells #[.int .i64 ((rd_T47 l0 x10_1).f0), .int .i64 ((rd_T47 l0 x10_1).f1), .bool ((rd_T47 l0 x10_1).f2)] 47 (0, 0))) := ⟨(by rw [hw]; exact (by refine bU ?_; refine blk_put (cs := #[.int .i64 ((rd_T47 l0 x10_1).f0), .int .i64 ((rd_T47 l0 x10_1).f1), .bool false]) ?_ 2 _ rfl; refine bU ?_; refine blk_put (cs := #[.int .i64 ((rd_T47 l0 x10_1).f0), .int .i64 0, .bool false]) ?_ 1 _ rfl; refine bU ?_; refine blk_put (cs := #[.int .i64 0, .int .i64 0, .bool false]) ?_ 0 _ rfl; refine bU ?_; exact BK357.out))⟩; replace HB : Aside0 (Below w.heap.size w w33) := ⟨(by rw [hw]; exact (lV1 GE357))⟩; clear hw; have hcz34_0 := cz BK357 0 (.int .i64 ((rd_T47 l0 x10_1).f0)); have hcz34_1 := cz BK357 1 (.int .i64 ((rd_T47 l0 x10_1).f1)); have hcz34_2 := cz BK357 2 (.bool ((rd_T47 l0 x10_1).f2)); have hfz34_0 := fz BK357 0; have hfz34_1 := fz BK357 1; have hfz34_2 := fz BK357 2) | (go_at_call 37; (with_reducible refine (spec_l1In.calls ((rd_T47 l0 x10_1).f0) 0 100000 false _ A6.out).mono ?_); rintro e w' ⟨rfl, ⟨nd, rfl⟩⟩; (try first | exact ⟨rfl, _, World.drewN_drewN _ _ _⟩ | exact ⟨rfl, _, Eq.trans (World.drewN_drewN _ _ _) (congrArg (World.drewN _) (Nat.add_assoc _ _ _))⟩))); try go_wp2_with (first | ((with_reducible refine gate_dst (N := 4) rfl ?_); refine box_event rfl (N := 4) rfl (cs := #[.int .i64 0, .int .i64 0, .bool false]) (t := 47) sE ?_; intro gb357 hg w31 hbox hb; have BK357 := Aside0.mk hbox; have GW357 := gS w hg (lU); have GE357 := gS w hg (lU); replace HB := bH (lU) hb; clear hb hbox hg; have hcz32_0 := cz BK357 0 (.int .i64 0); have hcz32_1 := cz BK357 1 (.int .i64 0); have hcz32_2 := cz BK357 2 (.bool false); have hfz32_0 := fz BK357 0; have hfz32_1 := fz BK357 1; have hfz32_2 := fz BK357 2) | ((with_reducible refine gate_store (t := 47) (p := 4) rfl ?_); (try (rw [drewN_self w31]; generalize hq_ : World.drewN w31 _ = w31; replace BK357 := Aside0.mk (blk_at hq_ BK357.out); replace HB := Aside0.mk (below_at hq_ HB.out); clear hq_)); refine store_event (t := 47) (p := 4) (v := ?vo_w33) (w1 := (((w31.setCell ⟨gb357, 0, none⟩ (.int .i64 ((rd_T47 l0 x10_1).f0))).setCell ⟨gb357, 1, none⟩ (.int .i64 ((rd_T47 l0 x10_1).f1))).setCell ⟨gb357, 2, none⟩ (.bool ((rd_T47 l0 x10_1).f2)))) ?hg ?ho ?hn ?hr ?_; (case ho => rfl); (case hg => rfl); (case hn => rfl); (case hr => first | (go_simp; done) | (go_simp; rfl) | (have hq0_ := (blk_cell BK357.out 0).trans (show _ = some _ from rfl); have hf0_ := blk_frozen BK357.out 0; have hq1_ := (blk_cell BK357.out 1).trans (show _ = some _ from rfl); have hf1_ := blk_frozen BK357.out 1; have hq2_ := (blk_cell BK357.out 2).trans (show _ = some _ from rfl); have hf2_ := blk_frozen BK357.out 2; first | (go_simp; done) | (go_simp; rfl))); intro w33 hw; replace BK357 : Aside0 (w33.heap[gb357]? = some (.cells #[.int .i64 ((rd_T47 l0 x10_1).f0), .int .i64 ((rd_T47 l0 x10_1).f1), .bool ((rd_T47 l0 x10_1).f2)] 47 (0, 0))) := ⟨(by rw [hw]; exact (by refine bU ?_; refine blk_put (cs := #[.int .i64 ((rd_T47 l0 x10_1).f0), .int .i64 ((rd_T47 l0 x10_1).f1), .bool false]) ?_ 2 _ rfl; refine bU ?_; refine blk_put (cs := #[.int .i64 ((rd_T47 l0 x10_1).f0), .int .i64 0, .bool false]) ?_ 1 _ rfl; refine bU ?_; refine blk_put (cs := #[.int .i64 0, .int .i64 0, .bool false]) ?_ 0 _ rfl; refine bU ?_; exact BK357.out))⟩; replace HB : Aside0 (Below w.heap.size w w33) := ⟨(by rw [hw]; exact (lV1 GE357))⟩; clear hw; have hcz34_0 := cz BK357 0 (.int .i64 ((rd_T47 l0 x10_1).f0)); have hcz34_1 := cz BK357 1 (.int .i64 ((rd_T47 l0 x10_1).f1)); have hcz34_2 := cz BK357 2 (.bool ((rd_T47 l0 x10_1).f2)); have hfz34_0 := fz BK357 0; have hfz34_1 := fz BK357 1; have hfz34_2 := fz BK357 2) | (go_at_call 37; (with_reducible refine (spec_l1In.calls ((rd_T47 l0 x10_1).f0) 0 100000 false _ A6.out).mono ?_); rintro e w' ⟨rfl, ⟨nd, rfl⟩⟩; (try first | exact ⟨rfl, _, World.drewN_drewN _ _ _⟩ | exact ⟨rfl, _, Eq.trans (World.drewN_drewN _ _ _) (congrArg (World.drewN _) (Nat.add_assoc _ _ _))⟩))))
        go_ret
        exact ⟨eE, lV1 GE357⟩
      ·rw [if_neg c5] at H
       exact absurd H (by simp)
     ·rw [if_neg c4] at H
      exact absurd H (by simp)
    ·rw [if_neg c3] at H
     have c3b0 : decide (x10_1 < (l0.length : Int)) = false := decide_eq_false c3
     clear c3
     obtain rfl := Option.some.inj H
     go_wp2
     repeat (go_quiet (fail); try go_wp2)
     go_ret
     exact ⟨eE, lU⟩
def spec_l17Press.l0 : Nat → List Int → List Int → Int → Int → Int → Int → Bool → Option (List Int)
 | 0, _, _, _, _, _, _, _ => none
 | k + 1, x5, x14, x15, x16, x362000, x362001, x362002 => if x16 < x15 then (if 0 ≤ x16 then (if x16 < (x14.length : Int) then (if (rd x14 x16) = x362001 then (spec_l17Press.l0 k x5 x14 x15 (wrap64 (x16 + 1)) x362000 x362001 x362002) else (if x5.length < 17592186044416 then (spec_l17Press.l0 k (x5 ++ [rd x14 x16]) x14 x15 (wrap64 (x16 + 1)) x362000 x362001 x362002) else (none))) else (none)) else (none)) else (some x5)
def spec_l17Press.f (k : Nat) (l0 : List Int) (a1_0 : Int) (a1_1 : Int) (a1_2 : Bool) : Option (List Int) := if a1_2 = true then ((spec_l1Put.f k l0 a1_1).bind fun t362 => (some t362)) else (spec_l17Press.l0 k ([] : List Int) l0 (l0.length : Int) 0 a1_0 a1_1 false)
theorem spec_l17Press.mono_l : ∀ k, (∀ y0 y1 y2 y3 y4 y5 y6, LeO (spec_l17Press.l0 k y0 y1 y2 y3 y4 y5 y6) (spec_l17Press.l0 (k + 1) y0 y1 y2 y3 y4 y5 y6))
 | 0 => fun _ _ _ _ _ _ _ r h => by simp [spec_l17Press.l0] at h
 | k + 1 => by
  have ih0 := spec_l17Press.mono_l k
  ·intro y0 y1 y2 y3 y4 y5 y6
   unfold spec_l17Press.l0
   repeat' first
   | (with_reducible exact ih0 _ _ _ _ _ _ _)
   | (with_reducible exact spec_l1Put.mono _ _ _)
   | (with_reducible first | exact LeO.refl _ | exact LeO.none _ | refine LeO.ite ?_ ?_ | refine LeO.bind ?_ (fun _ => ?_))
   | exact ih0 _ _ _ _ _ _ _
   | exact spec_l1Put.mono _ _ _ | exact LeO.none _ | refine LeO.ite ?_ ?_ | refine LeO.bind ?_ (fun _ => ?_)
theorem spec_l17Press.mono : ∀ a0 a1 a2 a3 k, LeO (spec_l17Press.f k a0 a1 a2 a3) (spec_l17Press.f (k + 1) a0 a1 a2 a3) := by
 intro a0 a1 a2 a3 k
 have ih0 := spec_l17Press.mono_l k
 unfold spec_l17Press.f
 repeat' first
   | (with_reducible exact ih0 _ _ _ _ _ _ _)
   | (with_reducible exact spec_l1Put.mono _ _ _)
   | (with_reducible first | exact LeO.refl _ | exact LeO.none _ | refine LeO.ite ?_ ?_ | refine LeO.bind ?_ (fun _ => ?_))
   | exact ih0 _ _ _ _ _ _ _
   | exact spec_l1Put.mono _ _ _ | exact LeO.none _ | refine LeO.ite ?_ ?_ | refine LeO.bind ?_ (fun _ => ?_)
set_option maxHeartbeats 8000000 in
set_option maxRecDepth 100000 in
theorem spec_l17Press.calls (k : Nat) (P0_ : Nat → Prop) (u9000_ : Value) (l0 : List Int) (a1_0 : Int) (a1_1 : Int) (a1_2 : Bool) (r : List Int) (w0 w : World) (hB : Below w0.heap.size w0 w) (ho0 : Kd.R (Kd.int .i64) 3 w w0.heap.size P0_ u9000_ l0) (h : spec_l17Press.f k l0 a1_0 a1_1 a1_2 = some r) :
  Calls Try.prog 14 #[u9000_, .agg #[.int .i64 a1_0, .int .i64 a1_1, .bool a1_2]] w fun e w' => ∃ v0_ : Value, e = .returned (v0_) ∧ Kd.R (Kd.int .i64) 3 w' w0.heap.size (fun k_ => (P0_ k_ ∨ w.heap.size ≤ k_)) v0_ r ∧ Below w0.heap.size w0 w' ∧ Kept w w' (fun k_ => P0_ k_) := by
 have hu47 := Try.underlying47
 have HO0 := Aside0.mk (show Kd.R (Kd.int .i64) 3 w w0.heap.size (fun k_ => (P0_ k_ ∨ w.heap.size ≤ k_)) u9000_ l0 from Kd.R_mono ho0 (fun k_ hk => (.inl hk)))
 have HK := Aside0.mk (Kept.refl w (fun k_ => P0_ k_))
 have HW0 := Aside0.mk hB.size
 have HB := Aside0.mk hB
 clear hB
 have H : (if a1_2 = true then ((spec_l1Put.f k l0 a1_1).bind fun t362 => (some t362)) else (spec_l17Press.l0 k ([] : List Int) l0 (l0.length : Int) 0 a1_0 a1_1 false)) = some r := h
 clear h
 by_cases c3 : a1_2 = true
 ·subst c3
  have H1 : ((spec_l1Put.f k l0 a1_1).bind fun t362 => (some t362)) = some r := by rw [if_pos rfl] at H; exact H
  clear H
  have H := H1
  clear H1
  replace H := Option.bind_eq_some_iff.mp H
  obtain ⟨t362, A40, H⟩ := H
  replace H : (some t362) = some r := H
  have A4 := Aside0.mk A40
  clear A40
  obtain rfl := Option.some.inj H
  go_enter Try.func14, Try.ntmps14
  go_wp2_with (first | ((with_reducible refine gate_dst (N := 3) rfl ?_); refine box_event rfl (N := 3) rfl (cs := #[.int .i64 a1_0, .int .i64 a1_1, .bool true]) (t := 47) sE ?_; intro gb361 hg w5 hbox hb; replace HO0 := Aside0.mk (Kd.R_below (rU HO0.out) hb); have BK361 := Aside0.mk hbox; have GW361 := Aside0.mk ((by rw [hg]; exact (by first | exact HK.out.1 | exact (show Kept w _ (fun k_ => P0_ k_) from by repeat (first | (with_reducible first | exact HK.out | apply Kept.alloc | apply Kept.drewN | apply Kept.drew) | exact HK.out)).1) : w.heap.size ≤ gb361)); replace HK := Aside0.mk (Kept.below (S := (fun k_ => P0_ k_)) (by repeat (first | (with_reducible first | exact HK.out | apply Kept.alloc | apply Kept.drewN | apply Kept.drew) | exact HK.out)) hb); have GE361 := Aside0.mk ((by rw [hg]; exact (below_size (lU)) : w0.heap.size ≤ gb361)); replace HB := bH (lU) hb; clear hb hbox hg; have hcz6_0 := cz BK361 0 (.int .i64 a1_0); have hcz6_1 := cz BK361 1 (.int .i64 a1_1); have hcz6_2 := cz BK361 2 (.bool true); have hfz6_0 := fz BK361 0; have hfz6_1 := fz BK361 1; have hfz6_2 := fz BK361 2; obtain ⟨Ao7, co7, eo7⟩ := Kd.R_slice HO0.out; subst eo7) | ((with_reducible refine gate_callee (f := 38) rfl ?_); refine goesL_ (some 13) rfl rfl Try.func38 (by kernel_rfl) rfl #[.slice Ao7 l0.length co7, .int .i64 a1_1] rfl aE ?_; (with_reducible refine (spec_l1Put.calls k (fun k_ => some k_ = (.slice Ao7 l0.length co7 : Value).ownBlock) (.slice Ao7 l0.length co7) l0 a1_1 t362 w0 _ ?side1 ?side2 A4.out).mono ?_); (case side1 => repeat (first | (with_reducible first | exact HB.out | apply below_alloc | apply pw_below_drewN | apply below_drew1 | refine below_set ?_ GE361.out) | exact HB.out)); (case side2 => exact Kd.R_tight rfl HO0.out); rintro e w8 ⟨v363, rfl, ho0, hb, hkp⟩; refine ⟨_, rfl, ?_⟩; replace BK361 := Aside0.mk (blk_kept (bV BK361) hkp (fun hs_ => (fun e_ => (Kd.R_ne HO0.out BK361.out (by decide)) e_) hs_)); have HO364 := Aside0.mk (Kd.R_mono (ok' := fun k_ => (P0_ k_ ∨ w.heap.size ≤ k_)) ho0 (fun k_ hk_ => Or.elim hk_ (fun hs_ => (HO0.out.1 k_ (hs_).symm)) (fun hn_ => (.inr (Nat.le_trans (by first | exact HK.out.1 | exact (show Kept w _ (fun k_ => P0_ k_) from by repeat (first | (with_reducible first | exact HK.out | apply Kept.alloc | apply Kept.drewN | apply Kept.drew | refine Kept.setCell ?_ (.inr GW361.out) _) | exact HK.out)).1) hn_))))); replace HK := Aside0.mk (Kept.then_ (S := (fun k_ => P0_ k_)) (by repeat (first | (with_reducible first | exact HK.out | apply Kept.alloc | apply Kept.drewN | apply Kept.drew | refine Kept.setCell ?_ (.inr GW361.out) _) | exact HK.out)) hkp (fun k_ hs_ => (fun e_ => (HO0.out.1 k_ e_.symm)) hs_)); replace HB := Aside0.mk hb; clear HO0; (try clear hb); (try clear hkp); (try clear hg_); (try clear hp_); (try clear ho0)))
  go_ret
  exact ⟨_, eE, by (with_reducible repeat (first | apply Kd.R_alloc | apply Kd.R_drewN | apply Kd.R_drew)); exact HO364.out, lV1 GE361, by repeat (first | (with_reducible first | exact HK.out | apply Kept.alloc | apply Kept.drewN | apply Kept.drew | refine Kept.setCell ?_ (.inr GW361.out) _) | exact HK.out)⟩
 ·replace c3 := Bool.eq_false_iff.mpr c3
  subst c3
  have H1 : (spec_l17Press.l0 k ([] : List Int) l0 (l0.length : Int) 0 a1_0 a1_1 false) = some r := by rw [if_neg (show ¬ (false = true) by decide)] at H; exact H
  clear H
  have H := H1
  clear H1
  have H' := Aside0.mk H
  clear H
  go_enter Try.func14, Try.ntmps14
  go_wp2_with (first | ((with_reducible refine gate_dst (N := 3) rfl ?_); refine box_event rfl (N := 3) rfl (cs := #[.int .i64 a1_0, .int .i64 a1_1, .bool false]) (t := 47) sE ?_; intro gb361 hg w9 hbox hb; replace HO0 := Aside0.mk (Kd.R_below (rU HO0.out) hb); have BK361 := Aside0.mk hbox; have GW361 := Aside0.mk ((by rw [hg]; exact (by first | exact HK.out.1 | exact (show Kept w _ (fun k_ => P0_ k_) from by repeat (first | (with_reducible first | exact HK.out | apply Kept.alloc | apply Kept.drewN | apply Kept.drew) | exact HK.out)).1) : w.heap.size ≤ gb361)); replace HK := Aside0.mk (Kept.below (S := (fun k_ => P0_ k_)) (by repeat (first | (with_reducible first | exact HK.out | apply Kept.alloc | apply Kept.drewN | apply Kept.drew) | exact HK.out)) hb); have GE361 := Aside0.mk ((by rw [hg]; exact (below_size (lU)) : w0.heap.size ≤ gb361)); replace HB := bH (lU) hb; clear hb hbox hg; have hcz10_0 := cz BK361 0 (.int .i64 a1_0); have hcz10_1 := cz BK361 1 (.int .i64 a1_1); have hcz10_2 := cz BK361 2 (.bool false); have hfz10_0 := fz BK361 0; have hfz10_1 := fz BK361 1; have hfz10_2 := fz BK361 2; obtain ⟨Ao11, co11, eo11⟩ := Kd.R_slice HO0.out; subst eo11))
  (try simp only [Act.put, List.setIfInBounds_toArray, List.set_cons_zero, List.set_cons_succ])
  go_loopg [5, 16] k (fun kq v5 v16 w' => ∃ (x5_1 : List Int) (x16_1 : Int), v16 = .int .i64 x16_1 ∧ Aside0 (spec_l17Press.l0 kq x5_1 l0 (l0.length : Int) x16_1 a1_0 a1_1 false = some r) ∧ Aside0 (kq ≤ k) ∧ Aside0 (Kd.R (Kd.int .i64) 3 w' w0.heap.size (fun k_ => (P0_ k_ ∨ w.heap.size ≤ k_) ∧ some k_ ≠ ((.slice Ao11 l0.length co11) : Value).ownBlock) v5 x5_1) ∧ Aside0 (Kd.R (Kd.int .i64) 3 w' w0.heap.size (fun k_ => (P0_ k_ ∨ w.heap.size ≤ k_) ∧ some k_ ≠ (v5 : Value).ownBlock) (.slice Ao11 l0.length co11) l0) ∧ Aside0 (w'.heap[gb361]? = some (.cells #[.int .i64 a1_0, .int .i64 a1_1, .bool false] 47 (0, 0))) ∧ Aside0 (Kept w w' (fun k_ => P0_ k_)) ∧ Aside0 (Below w0.heap.size w0 w'))
  case atStart => exact ⟨(([] : List Int)), (0), tE, H', ⟨Nat.le_refl _⟩, ⟨by first | exact Kd.R_nil _ _ _ _ _ | exact Kd.N_nil _ _ _ _ _ | exact Kd.V_nil _ _ _ _ _ | exact Kd.Q_nil _ _ _ _ _ | exact Kd.S_nil _ _ _ _ _⟩, ⟨by (with_reducible repeat (first | apply Kd.R_alloc | apply Kd.R_drewN | apply Kd.R_drew)); exact Kd.R_mono HO0.out (fun _ hk => ⟨hk, (by simp [Value.ownBlock])⟩)⟩, ⟨by refine bU ?_; exact BK361.out⟩, ⟨by repeat (first | (with_reducible first | exact HK.out | apply Kept.alloc | apply Kept.drewN | apply Kept.drew | refine Kept.setCell ?_ (.inr GW361.out) _) | exact HK.out)⟩, ⟨by repeat (first | (with_reducible first | exact HB.out | apply below_alloc | apply pw_below_drewN | apply below_drew1 | refine below_set ?_ GE361.out) | exact HB.out)⟩⟩
  case round =>
   clear H'
   try clear c1
   try clear p2
   try clear c3
   try clear hcz10_0
   try clear hcz10_1
   try clear hcz10_2
   try clear hcz6_0
   try clear hcz6_1
   try clear hcz6_2
   try clear hfz10_0
   try clear hfz10_1
   try clear hfz10_2
   try clear hfz6_0
   try clear hfz6_1
   try clear hfz6_2
   obtain ⟨x5_1, x16_1, rfl, HA, HK1, HO_5, HO_14, BK361, HK, HB⟩ := hrel
   cases gk with
   | zero => exact absurd HA.out (by simp [spec_l17Press.l0])
   | succ k1 =>
    have H := HA.out
    clear HA
    simp only [spec_l17Press.l0] at H
    by_cases c12 : x16_1 < (l0.length : Int)
    ·rw [if_pos c12] at H
     have c12b0 : decide (x16_1 < (l0.length : Int)) = true := decide_eq_true c12
     clear c12
     by_cases c13 : 0 ≤ x16_1
     ·rw [if_pos c13] at H
      have c13b0 : decide (0 ≤ x16_1) = true := decide_eq_true c13
      clear c13
      by_cases c14 : x16_1 < (l0.length : Int)
      ·rw [if_pos c14] at H
       have c14b0 : decide (x16_1 < (l0.length : Int)) = true := decide_eq_true c14
       clear c14
       by_cases c15 : (rd l0 x16_1) = a1_1
       ·rw [if_pos c15] at H
        have c15b0 : ((rd l0 x16_1) == a1_1) = true := beq_iff_eq.mpr c15
        have c15b1 : ((rd l0 x16_1) != a1_1) = false := bne_eq_false_iff_eq.mpr c15
        clear c15
        have H' := Aside0.mk H
        clear H
        have p365 : 0 ≤ (x16_1 : Int) := of_decide_eq_true hE
        have q365 : x16_1 < (l0.length : Int) := of_decide_eq_true hE
        obtain ⟨ad365, e365, hx365_0⟩ := Kd.at_int (Kd.R_reads' HO_14.out).2.2 x16_1 p365 q365
        cases e365
        replace p365 := eq_true p365
        replace q365 := eq_true q365
        have hcz16_0 := cz BK361 0 (.int .i64 a1_0)
        have hcz16_1 := cz BK361 1 (.int .i64 a1_1)
        have hcz16_2 := cz BK361 2 (.bool false)
        have hfz16_0 := fz BK361 0
        have hfz16_1 := fz BK361 1
        have hfz16_2 := fz BK361 2
        go_wp2
        go_roundg k1
        case measure => have := HK1.out; omega
        case rel => exact ⟨(x5_1), (wrap64 (x16_1 + 1)), tE, H', ⟨by have := HK1.out; omega⟩, ⟨by (with_reducible repeat (first | apply Kd.R_alloc | apply Kd.R_drewN | apply Kd.R_drew)); exact HO_5.out⟩, ⟨by (with_reducible repeat (first | apply Kd.R_alloc | apply Kd.R_drewN | apply Kd.R_drew)); exact HO_14.out⟩, ⟨by refine bU ?_; exact BK361.out⟩, ⟨by repeat (first | (with_reducible first | exact HK.out | apply Kept.alloc | apply Kept.drewN | apply Kept.drew | refine Kept.setCell ?_ (.inr GW361.out) _) | exact HK.out)⟩, ⟨by repeat (first | (with_reducible first | exact HB.out | apply below_alloc | apply pw_below_drewN | apply below_drew1 | refine below_set ?_ GE361.out) | exact HB.out)⟩⟩
       ·rw [if_neg c15] at H
        have c15b0 : ((rd l0 x16_1) == a1_1) = false := beq_eq_false_iff_ne.mpr c15
        have c15b1 : ((rd l0 x16_1) != a1_1) = true := bne_iff_ne.mpr c15
        by_cases c17 : x5_1.length < 17592186044416
        ·rw [if_pos c17] at H
         have LMc17 := Aside0.mk c17
         clear c17
         obtain ⟨y366, hy366⟩ : ∃ y_ : List Int, y_ = (x5_1 ++ [rd l0 x16_1]) := ⟨_, rfl⟩
         replace H : (spec_l17Press.l0 k1 y366 l0 (l0.length : Int) (wrap64 (x16_1 + 1)) a1_0 a1_1 false) = some r := by first | (rw [hy366]; with_reducible exact H) | (have H2_ := (Option.bind_some _ _).symm.trans H; rw [hy366]; with_reducible exact H2_) | (have H2_ := (Option.bind_some _ _).symm.trans H; with_reducible exact H2_) | with_reducible exact H | (rw [hy366]; exact H) | exact H
         have Ny366 := Aside0.mk hy366
         clear hy366
         have H' := Aside0.mk H
         clear H
         have p365 : 0 ≤ (x16_1 : Int) := of_decide_eq_true hE
         have q365 : x16_1 < (l0.length : Int) := of_decide_eq_true hE
         obtain ⟨ad365, e365, hx365_0⟩ := Kd.at_int (Kd.R_reads' HO_14.out).2.2 x16_1 p365 q365
         cases e365
         replace p365 := eq_true p365
         replace q365 := eq_true q365
         have hcz18_0 := cz BK361 0 (.int .i64 a1_0)
         have hcz18_1 := cz BK361 1 (.int .i64 a1_1)
         have hcz18_2 := cz BK361 2 (.bool false)
         have hfz18_0 := fz BK361 0
         have hfz18_1 := fz BK361 1
         have hfz18_2 := fz BK361 2
         go_wp2_with (first | ((with_reducible refine gate_builtin (b := .append) (xs := #[.tmp 24, .tmp 26]) rfl ?_); at_builtin; refine Kd.R_append (Kd.int .i64) (w0 := w0) w0.heap.size rfl (.tmp 24) (.tmp 26) 48 3 (.int .i64 0) 8 rfl Try.underlying48 info3 rfl (by decide) (by omega) u5 x5_1 (rd l0 x16_1) [.int .i64 (rd l0 x16_1)] (fun k_ => (P0_ k_ ∨ w.heap.size ≤ k_) ∧ some k_ ≠ (.slice (some ad365) l0.length co11 : Value).ownBlock) (fun _ => False) rfl rfl ?aP (fun _ hk => hk.elim) ?aF ?aO ?aB ?aS ?aL ?_; (case aP => exact rfl); (case aB => exact (lV1 GE361)); (case aF => exact (fun k_ hk => ⟨(.inr (Nat.le_trans (by first | exact HK.out.1 | exact (show Kept w _ (fun k_ => P0_ k_) from by repeat (first | (with_reducible first | exact HK.out | apply Kept.alloc | apply Kept.drewN | apply Kept.drew | refine Kept.setCell ?_ (.inr GW361.out) _) | exact HK.out)).1) hk)), Kd.fresh' (Kd.R_lt (rU HO_14.out)) k_ hk⟩)); (case aO => exact (rU HO_5.out)); (case aS => exact (below_size (lV1 GE361))); (case aL => have := LMc17.out; omega); intro v367 w19 ho hb hg hat; rw [← Ny366.out] at ho; replace HO_14 := Aside0.mk (Kd.R_after (ok := (fun k_ => (P0_ k_ ∨ w.heap.size ≤ k_))) (rU HO_14.out) hg hat); replace BK361 := Aside0.mk (blk_grown (g := gb361) (o := .cells #[.int .i64 a1_0, .int .i64 a1_1, .bool false] 47 (0, 0)) (bV BK361) hg (Kd.R_ne HO_5.out BK361.out (by decide))); replace HB := Aside0.mk hb; replace HK := Aside0.mk (Kept.of_grown (S := (fun k_ => P0_ k_)) hg (by repeat (first | (with_reducible first | exact HK.out | apply Kept.alloc | apply Kept.drewN | apply Kept.drew | refine Kept.setCell ?_ (.inr GW361.out) _) | exact HK.out)) (fun k_ e_ => (HO_5.out.1 k_ e_).1)); have HO368 := Aside0.mk ho; clear HO_5; clear ho hb hg hat))
         go_roundg k1
         case measure => have := HK1.out; omega
         case rel => exact ⟨(y366), (wrap64 (x16_1 + 1)), tE, H', ⟨by have := HK1.out; omega⟩, ⟨by (with_reducible repeat (first | apply Kd.R_alloc | apply Kd.R_drewN | apply Kd.R_drew)); exact HO368.out⟩, ⟨by (with_reducible repeat (first | apply Kd.R_alloc | apply Kd.R_drewN | apply Kd.R_drew)); exact HO_14.out⟩, ⟨by refine bU ?_; exact BK361.out⟩, ⟨by repeat (first | (with_reducible first | exact HK.out | apply Kept.alloc | apply Kept.drewN | apply Kept.drew | refine Kept.setCell ?_ (.inr GW361.out) _) | exact HK.out)⟩, ⟨by repeat (first | (with_reducible first | exact HB.out | apply below_alloc | apply pw_below_drewN | apply below_drew1 | refine below_set ?_ GE361.out) | exact HB.out)⟩⟩
        ·rw [if_neg c17] at H
         exact absurd H (by simp)
      ·rw [if_neg c14] at H
       exact absurd H (by simp)
     ·rw [if_neg c13] at H
      exact absurd H (by simp)
    ·rw [if_neg c12] at H
     have c12b0 : decide (x16_1 < (l0.length : Int)) = false := decide_eq_false c12
     clear c12
     obtain rfl := Option.some.inj H
     go_wp2
     go_ret
     exact ⟨_, eE, by (with_reducible repeat (first | apply Kd.R_alloc | apply Kd.R_drewN | apply Kd.R_drew)); exact Kd.R_mono HO_5.out (fun _ hk => hk.1), lV1 GE361, by repeat (first | (with_reducible first | exact HK.out | apply Kept.alloc | apply Kept.drewN | apply Kept.drew | refine Kept.setCell ?_ (.inr GW361.out) _) | exact HK.out)⟩
def spec_l14In.l0 : Nat → Int → List Int → Int → Int → Option (Bool)
 | 0, _, _, _, _ => none
 | k + 1, x1, x7, x8, x9 => if x9 < x8 then (if 0 ≤ x9 then (if x9 < (x7.length : Int) then (if (rd x7 x9) = x1 then (some true) else (spec_l14In.l0 k x1 x7 x8 (wrap64 (x9 + 1)))) else (none)) else (none)) else (some false)
def spec_l14In.f (k : Nat) (l0 : List Int) (a1 : Int) : Option (Bool) := spec_l14In.l0 k a1 l0 (l0.length : Int) 0
theorem spec_l14In.mono_l : ∀ k, (∀ y0 y1 y2 y3, LeO (spec_l14In.l0 k y0 y1 y2 y3) (spec_l14In.l0 (k + 1) y0 y1 y2 y3))
 | 0 => fun _ _ _ _ r h => by simp [spec_l14In.l0] at h
 | k + 1 => by
  have ih0 := spec_l14In.mono_l k
  ·intro y0 y1 y2 y3
   unfold spec_l14In.l0
   repeat' first
   | (with_reducible exact ih0 _ _ _ _)
   | (with_reducible first | exact LeO.refl _ | exact LeO.none _ | refine LeO.ite ?_ ?_ | refine LeO.bind ?_ (fun _ => ?_))
   | exact ih0 _ _ _ _ | exact LeO.none _ | refine LeO.ite ?_ ?_ | refine LeO.bind ?_ (fun _ => ?_)
theorem spec_l14In.mono : ∀ a0 a1 k, LeO (spec_l14In.f k a0 a1) (spec_l14In.f (k + 1) a0 a1) := by
 intro a0 a1 k
 have ih0 := spec_l14In.mono_l k
 unfold spec_l14In.f
 repeat' first
   | (with_reducible exact ih0 _ _ _ _)
   | (with_reducible first | exact LeO.refl _ | exact LeO.none _ | refine LeO.ite ?_ ?_ | refine LeO.bind ?_ (fun _ => ?_))
   | exact ih0 _ _ _ _ | exact LeO.none _ | refine LeO.ite ?_ ?_ | refine LeO.bind ?_ (fun _ => ?_)
set_option maxHeartbeats 8000000 in
set_option maxRecDepth 100000 in
theorem spec_l14In.calls (k : Nat) (A0 : Option Addr) (c0 : Nat) (l0 : List Int) (a1 : Int) (r : Bool) (w : World) (hr0 : Kd.C (Kd.int .i64) w A0 l0.length l0) (hc0 : l0.length ≤ c0) (h : spec_l14In.f k l0 a1 = some r) :
  Calls Try.prog 52 #[.slice A0 l0.length c0, .int .i64 a1] w fun e w' => e = .returned (.bool r) ∧ Drawn0 w w' := by
 have HR0 := Aside0.mk hr0
 have HC0 := Aside0.mk hc0
 clear hr0 hc0
 have H : (spec_l14In.l0 k a1 l0 (l0.length : Int) 0) = some r := h
 clear h
 have H' := Aside0.mk H
 clear H
 go_enter Try.func52, Try.ntmps52
 go_wp2
 go_loopg [9] k (fun kq v9 w' => ∃ (x9_1 : Int), v9 = .int .i64 x9_1 ∧ Aside0 (spec_l14In.l0 kq a1 l0 (l0.length : Int) x9_1 = some r) ∧ Aside0 (kq ≤ k) ∧ Drawn0 w w')
 case atStart => exact ⟨(0), tE, H', ⟨Nat.le_refl _⟩, by repeat (first | exact Drawn0.refl _ | apply Drawn0.step)⟩
 case round =>
  clear H'
  try clear p2
  obtain ⟨x9_1, rfl, HA, HK1, ⟨m1, rfl⟩⟩ := hrel
  cases gk with
  | zero => exact absurd HA.out (by simp [spec_l14In.l0])
  | succ k1 =>
   have H := HA.out
   clear HA
   simp only [spec_l14In.l0] at H
   by_cases c3 : x9_1 < (l0.length : Int)
   ·rw [if_pos c3] at H
    have c3b0 : decide (x9_1 < (l0.length : Int)) = true := decide_eq_true c3
    clear c3
    by_cases c4 : 0 ≤ x9_1
    ·rw [if_pos c4] at H
     have c4b0 : decide (0 ≤ x9_1) = true := decide_eq_true c4
     clear c4
     by_cases c5 : x9_1 < (l0.length : Int)
     ·rw [if_pos c5] at H
      have c5b0 : decide (x9_1 < (l0.length : Int)) = true := decide_eq_true c5
      clear c5
      by_cases c6 : (rd l0 x9_1) = a1
      ·rw [if_pos c6] at H
       have c6b0 : ((rd l0 x9_1) == a1) = true := beq_iff_eq.mpr c6
       have c6b1 : ((rd l0 x9_1) != a1) = false := bne_eq_false_iff_eq.mpr c6
       clear c6
       obtain rfl := Option.some.inj H
       have p369 : 0 ≤ (x9_1 : Int) := of_decide_eq_true hE
       have q369 : x9_1 < (l0.length : Int) := of_decide_eq_true hE
       obtain ⟨ad369, e369, hx369_0⟩ := Kd.at_int HR0.out x9_1 p369 q369
       cases e369
       replace p369 := eq_true p369
       replace q369 := eq_true q369
       go_wp2
       go_ret
       exact ⟨by first | rfl | (simp; done) | (simp [*]; done) | exact not_isEmpty _ | exact (not_isEmpty _).symm | exact is_empty _ | exact (is_empty _).symm, by repeat (first | exact Drawn0.refl _ | apply Drawn0.step)⟩
      ·rw [if_neg c6] at H
       have c6b0 : ((rd l0 x9_1) == a1) = false := beq_eq_false_iff_ne.mpr c6
       have c6b1 : ((rd l0 x9_1) != a1) = true := bne_iff_ne.mpr c6
       have H' := Aside0.mk H
       clear H
       have p369 : 0 ≤ (x9_1 : Int) := of_decide_eq_true hE
       have q369 : x9_1 < (l0.length : Int) := of_decide_eq_true hE
       obtain ⟨ad369, e369, hx369_0⟩ := Kd.at_int HR0.out x9_1 p369 q369
       cases e369
       replace p369 := eq_true p369
       replace q369 := eq_true q369
       go_wp2
       go_roundg k1
       case measure => have := HK1.out; omega
       case rel => exact ⟨(wrap64 (x9_1 + 1)), tE, H', ⟨by have := HK1.out; omega⟩, by repeat (first | exact Drawn0.refl _ | apply Drawn0.step)⟩
     ·rw [if_neg c5] at H
      exact absurd H (by simp)
    ·rw [if_neg c4] at H
     exact absurd H (by simp)
   ·rw [if_neg c3] at H
    have c3b0 : decide (x9_1 < (l0.length : Int)) = false := decide_eq_false c3
    clear c3
    obtain rfl := Option.some.inj H
    go_wp2
    go_ret
    exact ⟨by first | rfl | (simp; done) | (simp [*]; done) | exact not_isEmpty _ | exact (not_isEmpty _).symm | exact is_empty _ | exact (is_empty _).symm, by repeat (first | exact Drawn0.refl _ | apply Drawn0.step)⟩
def spec_l17All.l0 : Nat → List Int → List Int → Int → Int → Option (Bool)
 | 0, _, _, _, _ => none
 | k + 1, x1, x7, x8, x9 => if x9 < x8 then (if 0 ≤ x9 then (if x9 < (x7.length : Int) then ((spec_l14In.f k x1 (rd x7 x9)).bind fun t371 => (if t371 = true then (spec_l17All.l0 k x1 x7 x8 (wrap64 (x9 + 1))) else (some false))) else (none)) else (none)) else (some true)
def spec_l17All.f (k : Nat) (l0 : List Int) (l1 : List Int) : Option (Bool) := spec_l17All.l0 k l1 l0 (l0.length : Int) 0
theorem spec_l17All.mono_l : ∀ k, (∀ y0 y1 y2 y3, LeO (spec_l17All.l0 k y0 y1 y2 y3) (spec_l17All.l0 (k + 1) y0 y1 y2 y3))
 | 0 => fun _ _ _ _ r h => by simp [spec_l17All.l0] at h
 | k + 1 => by
  have ih0 := spec_l17All.mono_l k
  ·intro y0 y1 y2 y3
   unfold spec_l17All.l0
   repeat' first
   | (with_reducible exact ih0 _ _ _ _)
   | (with_reducible exact spec_l14In.mono _ _ _)
   | (with_reducible first | exact LeO.refl _ | exact LeO.none _ | refine LeO.ite ?_ ?_ | refine LeO.bind ?_ (fun _ => ?_))
   | exact ih0 _ _ _ _
   | exact spec_l14In.mono _ _ _ | exact LeO.none _ | refine LeO.ite ?_ ?_ | refine LeO.bind ?_ (fun _ => ?_)
theorem spec_l17All.mono : ∀ a0 a1 k, LeO (spec_l17All.f k a0 a1) (spec_l17All.f (k + 1) a0 a1) := by
 intro a0 a1 k
 have ih0 := spec_l17All.mono_l k
 unfold spec_l17All.f
 repeat' first
   | (with_reducible exact ih0 _ _ _ _)
   | (with_reducible exact spec_l14In.mono _ _ _)
   | (with_reducible first | exact LeO.refl _ | exact LeO.none _ | refine LeO.ite ?_ ?_ | refine LeO.bind ?_ (fun _ => ?_))
   | exact ih0 _ _ _ _
   | exact spec_l14In.mono _ _ _ | exact LeO.none _ | refine LeO.ite ?_ ?_ | refine LeO.bind ?_ (fun _ => ?_)
set_option maxHeartbeats 8000000 in
set_option maxRecDepth 100000 in
theorem spec_l17All.calls (k : Nat) (A0 : Option Addr) (c0 : Nat) (l0 : List Int) (A1 : Option Addr) (c1 : Nat) (l1 : List Int) (r : Bool) (w : World) (hr0 : Kd.C (Kd.int .i64) w A0 l0.length l0) (hc0 : l0.length ≤ c0) (hr1 : Kd.C (Kd.int .i64) w A1 l1.length l1) (hc1 : l1.length ≤ c1) (h : spec_l17All.f k l0 l1 = some r) :
  Calls Try.prog 39 #[.slice A0 l0.length c0, .slice A1 l1.length c1] w fun e w' => e = .returned (.bool r) ∧ Drawn0 w w' := by
 have HR0 := Aside0.mk hr0
 have HC0 := Aside0.mk hc0
 clear hr0 hc0
 have HR1 := Aside0.mk hr1
 have HC1 := Aside0.mk hc1
 clear hr1 hc1
 have H : (spec_l17All.l0 k l1 l0 (l0.length : Int) 0) = some r := h
 clear h
 have H' := Aside0.mk H
 clear H
 go_enter Try.func39, Try.ntmps39
 go_wp2
 go_loopg [9] k (fun kq v9 w' => ∃ (x9_1 : Int), v9 = .int .i64 x9_1 ∧ Aside0 (spec_l17All.l0 kq l1 l0 (l0.length : Int) x9_1 = some r) ∧ Aside0 (kq ≤ k) ∧ Drawn0 w w')
 case atStart => exact ⟨(0), tE, H', ⟨Nat.le_refl _⟩, by repeat (first | exact Drawn0.refl _ | apply Drawn0.step)⟩
 case round =>
  clear H'
  try clear c1
  try clear p2
  obtain ⟨x9_1, rfl, HA, HK1, ⟨m1, rfl⟩⟩ := hrel
  cases gk with
  | zero => exact absurd HA.out (by simp [spec_l17All.l0])
  | succ k1 =>
   have H := HA.out
   clear HA
   simp only [spec_l17All.l0] at H
   by_cases c3 : x9_1 < (l0.length : Int)
   ·rw [if_pos c3] at H
    have c3b0 : decide (x9_1 < (l0.length : Int)) = true := decide_eq_true c3
    clear c3
    by_cases c4 : 0 ≤ x9_1
    ·rw [if_pos c4] at H
     have c4b0 : decide (0 ≤ x9_1) = true := decide_eq_true c4
     clear c4
     by_cases c5 : x9_1 < (l0.length : Int)
     ·rw [if_pos c5] at H
      have c5b0 : decide (x9_1 < (l0.length : Int)) = true := decide_eq_true c5
      clear c5
      replace H := Option.bind_eq_some_iff.mp H
      obtain ⟨t371, A60, H⟩ := H
      replace H : (if t371 = true then (spec_l17All.l0 k1 l1 l0 (l0.length : Int) (wrap64 (x9_1 + 1))) else (some false)) = some r := H
      have A6 := Aside0.mk A60
      clear A60
      by_cases c7 : t371 = true
      ·subst c7
       have H1 : (spec_l17All.l0 k1 l1 l0 (l0.length : Int) (wrap64 (x9_1 + 1))) = some r := by rw [if_pos rfl] at H; exact H
       clear H
       have H := H1
       clear H1
       have H' := Aside0.mk H
       clear H
       have p370 : 0 ≤ (x9_1 : Int) := of_decide_eq_true hE
       have q370 : x9_1 < (l0.length : Int) := of_decide_eq_true hE
       obtain ⟨ad370, e370, hx370_0⟩ := Kd.at_int HR0.out x9_1 p370 q370
       cases e370
       replace p370 := eq_true p370
       replace q370 := eq_true q370
       go_wp2_with (first | ((with_reducible refine gate_callee (f := 52) rfl ?_); refine goesL_ (some 15) rfl rfl Try.func52 (by kernel_rfl) rfl #[.slice A1 l1.length c1, .int .i64 (rd l0 x9_1)] rfl aE ?_; (with_reducible refine (spec_l14In.calls k1 _ _ l1 (rd l0 x9_1) true _ ?side1 ?side2 A6.out).mono ?_); (case side1 => repeat (first | exact HR1.out | (with_reducible refine Kd.C_alloc ?_ _) | (with_reducible refine Kd.C_drewN ?_ _) | (with_reducible refine Kd.C_drew ?_))); (case side2 => exact HC1.out); rintro e w' ⟨rfl, ⟨nd, rfl⟩⟩; refine ⟨_, rfl, ?_⟩))
       go_roundg k1
       case measure => have := HK1.out; omega
       case rel => exact ⟨(wrap64 (x9_1 + 1)), tE, H', ⟨by have := HK1.out; omega⟩, by repeat (first | exact Drawn0.refl _ | apply Drawn0.step)⟩
      ·replace c7 := Bool.eq_false_iff.mpr c7
       subst c7
       have H1 : (some false) = some r := by rw [if_neg (show ¬ (false = true) by decide)] at H; exact H
       clear H
       have H := H1
       clear H1
       obtain rfl := Option.some.inj H
       have p370 : 0 ≤ (x9_1 : Int) := of_decide_eq_true hE
       have q370 : x9_1 < (l0.length : Int) := of_decide_eq_true hE
       obtain ⟨ad370, e370, hx370_0⟩ := Kd.at_int HR0.out x9_1 p370 q370
       cases e370
       replace p370 := eq_true p370
       replace q370 := eq_true q370
       go_wp2_with (first | ((with_reducible refine gate_callee (f := 52) rfl ?_); refine goesL_ (some 15) rfl rfl Try.func52 (by kernel_rfl) rfl #[.slice A1 l1.length c1, .int .i64 (rd l0 x9_1)] rfl aE ?_; (with_reducible refine (spec_l14In.calls k1 _ _ l1 (rd l0 x9_1) false _ ?side1 ?side2 A6.out).mono ?_); (case side1 => repeat (first | exact HR1.out | (with_reducible refine Kd.C_alloc ?_ _) | (with_reducible refine Kd.C_drewN ?_ _) | (with_reducible refine Kd.C_drew ?_))); (case side2 => exact HC1.out); rintro e w' ⟨rfl, ⟨nd, rfl⟩⟩; refine ⟨_, rfl, ?_⟩))
       go_ret
       exact ⟨by first | rfl | (simp; done) | (simp [*]; done) | exact not_isEmpty _ | exact (not_isEmpty _).symm | exact is_empty _ | exact (is_empty _).symm, by repeat (first | exact Drawn0.refl _ | apply Drawn0.step)⟩
     ·rw [if_neg c5] at H
      exact absurd H (by simp)
    ·rw [if_neg c4] at H
     exact absurd H (by simp)
   ·rw [if_neg c3] at H
    have c3b0 : decide (x9_1 < (l0.length : Int)) = false := decide_eq_false c3
    clear c3
    obtain rfl := Option.some.inj H
    go_wp2
    go_ret
    exact ⟨by first | rfl | (simp; done) | (simp [*]; done) | exact not_isEmpty _ | exact (not_isEmpty _).symm | exact is_empty _ | exact (is_empty _).symm, by repeat (first | exact Drawn0.refl _ | apply Drawn0.step)⟩
end Go.Proofs.Ytndgkdnbacoenab.PFnMeant
namespace Go.Proofs.Ytndgkdnbacoenab.PFnMeant
open Go.RowKit Go.Proofs.YtndgkdnbacoenabW.PrintWords Go.Proofs.YtndgkdnbacoenabW.PrintLast Go.Proofs.YtndgkdnbacoenabW.PrintMore
attribute [local go_sem] max2_int min2_int max_two min_two max_three min_three max_four min_four
set_option linter.unusedVariables false
set_option linter.unusedSimpArgs false
mutual
def spec_l17Holds.l0 : Nat → List (S50) → List Int → List Bool → List (S50) → Int → Int → Option (List Bool)
 | 0, _, _, _, _, _, _ => none
 | k + 1, x0, x1, x5, x13, x14, x15 => if x15 < x14 then (if 0 ≤ x15 then (if x15 < (x13.length : Int) then ((spec_l17All.f k ((rd_T50 x13 x15).f1) x1).bind fun t377 => (if x15 < (x5.length : Int) then (spec_l17Holds.l1 k x0 x1 (x5.set (x15 : Int).toNat t377) x15 x13 x14 x15 x0 (x0.length : Int) 0 ((rd_T50 x13 x15).f0) ((rd_T50 x13 x15).f1)) else (none))) else (none)) else (none)) else (some x5)
def spec_l17Holds.l1 : Nat → List (S50) → List Int → List Bool → Int → List (S50) → Int → Int → List (S50) → Int → Int → ByteArray → List Int → Option (List Bool)
 | 0, _, _, _, _, _, _, _, _, _, _, _, _ => none
 | k + 1, x0, x1, x5, x6, x13, x14, x15, x27, x28, x29, x377000, x377001 => if x29 < x28 then (if 0 ≤ x29 then (if x29 < (x27.length : Int) then (if (((rd_T50 x27 x29).f1).length : Int) > (x377001.length : Int) then ((spec_l17All.f k ((rd_T50 x27 x29).f1) x1).bind fun t381 => (if t381 = true then ((spec_l17All.f k x377001 ((rd_T50 x27 x29).f1)).bind fun t382 => (if t382 = true then (if 0 ≤ x6 then (if x6 < (x5.length : Int) then (spec_l17Holds.l1 k x0 x1 (x5.set (x6 : Int).toNat false) x6 x13 x14 x15 x27 x28 (wrap64 (x29 + 1)) x377000 x377001) else (none)) else (none)) else (spec_l17Holds.l1 k x0 x1 x5 x6 x13 x14 x15 x27 x28 (wrap64 (x29 + 1)) x377000 x377001))) else (spec_l17Holds.l1 k x0 x1 x5 x6 x13 x14 x15 x27 x28 (wrap64 (x29 + 1)) x377000 x377001))) else (spec_l17Holds.l1 k x0 x1 x5 x6 x13 x14 x15 x27 x28 (wrap64 (x29 + 1)) x377000 x377001)) else (none)) else (none)) else (spec_l17Holds.l0 k x0 x1 x5 x13 x14 (wrap64 (x15 + 1)))
end
def spec_l17Holds.f (k : Nat) (l0 : List (S50)) (l1 : List Int) : Option (List Bool) := if 0 ≤ (l0.length : Int) then (if ((l0.length : Int) : Int).toNat ≤ 281474976710656 then (spec_l17Holds.l0 k l0 l1 (List.replicate ((l0.length : Int) : Int).toNat false) l0 (l0.length : Int) 0) else (none)) else (none)
theorem spec_l17Holds.mono_l : ∀ k, (∀ y0 y1 y2 y3 y4 y5, LeO (spec_l17Holds.l0 k y0 y1 y2 y3 y4 y5) (spec_l17Holds.l0 (k + 1) y0 y1 y2 y3 y4 y5)) ∧ (∀ y0 y1 y2 y3 y4 y5 y6 y7 y8 y9 y10 y11, LeO (spec_l17Holds.l1 k y0 y1 y2 y3 y4 y5 y6 y7 y8 y9 y10 y11) (spec_l17Holds.l1 (k + 1) y0 y1 y2 y3 y4 y5 y6 y7 y8 y9 y10 y11))
 | 0 => ⟨fun _ _ _ _ _ _ r h => by simp [spec_l17Holds.l0] at h, fun _ _ _ _ _ _ _ _ _ _ _ _ r h => by simp [spec_l17Holds.l1] at h⟩
 | k + 1 => by
  obtain ⟨ih0, ih1⟩ := spec_l17Holds.mono_l k
  refine ⟨?_, ?_⟩
  ·intro y0 y1 y2 y3 y4 y5
   unfold spec_l17Holds.l0
   repeat' first
   | (with_reducible exact ih0 _ _ _ _ _ _)
   | (with_reducible exact ih1 _ _ _ _ _ _ _ _ _ _ _ _)
   | (with_reducible exact spec_l17All.mono _ _ _)
   | (with_reducible first | exact LeO.refl _ | exact LeO.none _ | refine LeO.ite ?_ ?_ | refine LeO.bind ?_ (fun _ => ?_))
   | exact ih0 _ _ _ _ _ _
   | exact ih1 _ _ _ _ _ _ _ _ _ _ _ _
   | exact spec_l17All.mono _ _ _ | exact LeO.none _ | refine LeO.ite ?_ ?_ | refine LeO.bind ?_ (fun _ => ?_)
  ·intro y0 y1 y2 y3 y4 y5 y6 y7 y8 y9 y10 y11
   unfold spec_l17Holds.l1
   repeat' first
   | (with_reducible exact ih0 _ _ _ _ _ _)
   | (with_reducible exact ih1 _ _ _ _ _ _ _ _ _ _ _ _)
   | (with_reducible exact spec_l17All.mono _ _ _)
   | (with_reducible first | exact LeO.refl _ | exact LeO.none _ | refine LeO.ite ?_ ?_ | refine LeO.bind ?_ (fun _ => ?_))
   | exact ih0 _ _ _ _ _ _
   | exact ih1 _ _ _ _ _ _ _ _ _ _ _ _
   | exact spec_l17All.mono _ _ _ | exact LeO.none _ | refine LeO.ite ?_ ?_ | refine LeO.bind ?_ (fun _ => ?_)
theorem spec_l17Holds.mono : ∀ a0 a1 k, LeO (spec_l17Holds.f k a0 a1) (spec_l17Holds.f (k + 1) a0 a1) := by
 intro a0 a1 k
 obtain ⟨ih0, ih1⟩ := spec_l17Holds.mono_l k
 unfold spec_l17Holds.f
 repeat' first
   | (with_reducible exact ih0 _ _ _ _ _ _)
   | (with_reducible exact ih1 _ _ _ _ _ _ _ _ _ _ _ _)
   | (with_reducible exact spec_l17All.mono _ _ _)
   | (with_reducible first | exact LeO.refl _ | exact LeO.none _ | refine LeO.ite ?_ ?_ | refine LeO.bind ?_ (fun _ => ?_))
   | exact ih0 _ _ _ _ _ _
   | exact ih1 _ _ _ _ _ _ _ _ _ _ _ _
   | exact spec_l17All.mono _ _ _ | exact LeO.none _ | refine LeO.ite ?_ ?_ | refine LeO.bind ?_ (fun _ => ?_)
set_option maxHeartbeats 8000000 in
set_option maxRecDepth 100000 in
theorem spec_l17Holds.calls (k : Nat) (A0 : Option Addr) (c0 : Nat) (l0 : List (S50)) (A1 : Option Addr) (c1 : Nat) (l1 : List Int) (r : List Bool) (w : World) (hr0 : Kd.C k50 w A0 l0.length l0) (hc0 : l0.length ≤ c0) (hr1 : Kd.C (Kd.int .i64) w A1 l1.length l1) (hc1 : l1.length ≤ c1) (h : spec_l17Holds.f k l0 l1 = some r) :
  Calls Try.prog 15 #[.slice A0 l0.length c0, .slice A1 l1.length c1] w fun e w' => ∃ v0_ : Value, e = .returned (v0_) ∧ Kd.R Kd.bool 4 w' w.heap.size (fun _ => True) v0_ r ∧ Below w.heap.size w w' := by
 have hu50 := Try.underlying50
 have HR0 := Aside0.mk hr0
 have HC0 := Aside0.mk hc0
 clear hr0 hc0
 have HR1 := Aside0.mk hr1
 have HC1 := Aside0.mk hc1
 clear hr1 hc1
 have HB := Aside0.mk (Below.refl w.heap.size w)
 have H : (if 0 ≤ (l0.length : Int) then (if ((l0.length : Int) : Int).toNat ≤ 281474976710656 then (spec_l17Holds.l0 k l0 l1 (List.replicate ((l0.length : Int) : Int).toNat false) l0 (l0.length : Int) 0) else (none)) else (none)) = some r := h
 clear h
 by_cases c3 : 0 ≤ (l0.length : Int)
 ·rw [if_pos c3] at H
  have c3b0 := eq_true c3
  have c3b1 : decide (0 ≤ (l0.length : Int)) = true := decide_eq_true c3
  clear c3
  by_cases c4 : ((l0.length : Int) : Int).toNat ≤ 281474976710656
  ·rw [if_pos c4] at H
   have c4b0 := eq_true c4
   have c4b1 : decide (((l0.length : Int) : Int).toNat ≤ 281474976710656) = true := decide_eq_true c4
   clear c4
   obtain ⟨y372, hy372⟩ : ∃ y_ : List Bool, y_ = (List.replicate ((l0.length : Int) : Int).toNat false) := ⟨_, rfl⟩
   replace H : (spec_l17Holds.l0 k l0 l1 y372 l0 (l0.length : Int) 0) = some r := by first | (rw [hy372]; with_reducible exact H) | (have H2_ := (Option.bind_some _ _).symm.trans H; rw [hy372]; with_reducible exact H2_) | (have H2_ := (Option.bind_some _ _).symm.trans H; with_reducible exact H2_) | with_reducible exact H | (rw [hy372]; exact H) | exact H
   have Ny372 := Aside0.mk hy372
   clear hy372
   have H' := Aside0.mk H
   clear H
   go_enter Try.func15, Try.ntmps15
   go_wp2_with (first | ((with_reducible refine gate_dst (N := 12) rfl ?_); refine Kd.R_make Kd.bool _ 4 rfl (N := 12) rfl 44 _ _ rfl (l0.length : Int) rfl rfl Try.underlying44 (.bool false) 1 info4 rfl (by decide) (by omega) false (ok := fun _ => True) (okp := fun _ => True) rfl (fun _ hk => hk) trivial (of_decide_eq_true hE) (Nat.le_trans (Nat.mul_le_mul_right _ (of_decide_eq_true hE : (l0.length : Int).toNat ≤ 281474976710656)) (by omega)) (Below.refl _ _) (Nat.le_refl _) ?_; intro v373 w5 ho6 hb hg_ hnew_; clear hg_ hnew_; (first | rw [← Ny372.out] at ho6 | (simp only [Int.reduceToNat] at ho6; rw [← Ny372.out] at ho6)); have HO374 := Aside0.mk (Kd.R_lower ho6 (below_size (lU))); replace HB := bH (lU) hb; clear hb ho6))
   (try simp only [Act.put, List.setIfInBounds_toArray, List.set_cons_zero, List.set_cons_succ])
   go_loopg [15] k (fun kq v15 w' => ∃ (x5_1 : List Bool) (x15_1 : Int), v15 = .int .i64 x15_1 ∧ Aside0 (spec_l17Holds.l0 kq l0 l1 x5_1 l0 (l0.length : Int) x15_1 = some r) ∧ Aside0 (kq ≤ k) ∧ Aside0 (Kd.R Kd.bool 4 w' w.heap.size (fun _ => True) v373 x5_1) ∧ Aside0 (Below w.heap.size w w'))
   case atStart => exact ⟨(y372), (0), tE, H', ⟨Nat.le_refl _⟩, ⟨by (with_reducible repeat (first | apply Kd.R_alloc | apply Kd.R_drewN | apply Kd.R_drew)); exact HO374.out⟩, ⟨by repeat (first | (with_reducible first | exact HB.out | apply below_alloc | apply pw_below_drewN | apply below_drew1) | exact HB.out)⟩⟩
   case round =>
    clear H'
    try clear c1
    try clear p2
    try clear c3
    try clear c3b0
    try clear c3b1
    try clear c4
    try clear c4b0
    try clear c4b1
    obtain ⟨x5_1, x15_1, rfl, HA, HK1, HO_5, HB⟩ := hrel
    cases gk with
    | zero => exact absurd HA.out (by simp [spec_l17Holds.l0])
    | succ k1 =>
     have H := HA.out
     clear HA
     simp only [spec_l17Holds.l0] at H
     by_cases c7 : x15_1 < (l0.length : Int)
     ·rw [if_pos c7] at H
      have c7b0 : decide (x15_1 < (l0.length : Int)) = true := decide_eq_true c7
      clear c7
      by_cases c8 : 0 ≤ x15_1
      ·rw [if_pos c8] at H
       have c8b0 : decide (0 ≤ x15_1) = true := decide_eq_true c8
       clear c8
       by_cases c9 : x15_1 < (l0.length : Int)
       ·rw [if_pos c9] at H
        have c9b0 : decide (x15_1 < (l0.length : Int)) = true := decide_eq_true c9
        clear c9
        replace H := Option.bind_eq_some_iff.mp H
        obtain ⟨t377, A100, H⟩ := H
        replace H : (if x15_1 < (x5_1.length : Int) then (spec_l17Holds.l1 k1 l0 l1 (x5_1.set (x15_1 : Int).toNat t377) x15_1 l0 (l0.length : Int) x15_1 l0 (l0.length : Int) 0 ((rd_T50 l0 x15_1).f0) ((rd_T50 l0 x15_1).f1)) else (none)) = some r := H
        have A10 := Aside0.mk A100
        clear A100
        by_cases c11 : x15_1 < (x5_1.length : Int)
        ·rw [if_pos c11] at H
         have c11b0 : decide (x15_1 < (x5_1.length : Int)) = true := decide_eq_true c11
         clear c11
         obtain ⟨y378, hy378⟩ : ∃ y_ : List Bool, y_ = (x5_1.set (x15_1 : Int).toNat t377) := ⟨_, rfl⟩
         replace H : (spec_l17Holds.l1 k1 l0 l1 y378 x15_1 l0 (l0.length : Int) x15_1 l0 (l0.length : Int) 0 ((rd_T50 l0 x15_1).f0) ((rd_T50 l0 x15_1).f1)) = some r := by first | (rw [hy378]; with_reducible exact H) | (have H2_ := (Option.bind_some _ _).symm.trans H; rw [hy378]; with_reducible exact H2_) | (have H2_ := (Option.bind_some _ _).symm.trans H; with_reducible exact H2_) | with_reducible exact H | (rw [hy378]; exact H) | exact H
         have Ny378 := Aside0.mk hy378
         clear hy378
         have H' := Aside0.mk H
         clear H
         have p375 : 0 ≤ (x15_1 : Int) := of_decide_eq_true hE
         have q375 : x15_1 < (l0.length : Int) := of_decide_eq_true hE
         obtain ⟨ad375, A375_1, c375_1, e375, hx375_0, hx375_1, hl375_1, hi375_1⟩ := at_T50 HR0.out x15_1 p375 q375
         cases e375
         replace hx375_0 := (HB.out.cell (World.block_lt_of_cell? w _ hx375_0)).trans hx375_0
         replace hx375_1 := (HB.out.cell (World.block_lt_of_cell? w _ hx375_1)).trans hx375_1
         have HR375_1 := Aside0.mk hi375_1
         have HC375_1 := Aside0.mk hl375_1
         clear hi375_1 hl375_1
         replace p375 := eq_true p375
         replace q375 := eq_true q375
         go_wp2_with (first | ((with_reducible refine gate_dst (N := 7) rfl ?_); refine box_event rfl (N := 7) rfl (cs := #[.string (⟨#[]⟩ : ByteArray), .slice none 0 0]) (t := 50) sE ?_; intro gb376 hg w13 hbox hb; replace HO_5 := Aside0.mk (Kd.R_below (rU HO_5.out) hb); have BK376 := Aside0.mk hbox; have GW376 := gS w hg (lU); have GE376 := gS w hg (lU); replace HB := bH (lU) hb; clear hb hbox hg; have hcz14_0 := cz BK376 0 (.string (⟨#[]⟩ : ByteArray)); have hcz14_1 := cz BK376 1 (.slice none 0 0); have hfz14_0 := fz BK376 0; have hfz14_1 := fz BK376 1) | ((with_reducible refine gate_store (t := 50) (p := 7) rfl ?_); refine store_event (t := 50) (p := 7) (v := ?vo_w15) (w1 := ((w13.setCell ⟨gb376, 0, none⟩ (.string ((rd_T50 l0 x15_1).f0))).setCell ⟨gb376, 1, none⟩ (.slice A375_1 ((rd_T50 l0 x15_1).f1).length c375_1))) ?hg ?ho ?hn ?hr ?_; (case ho => rfl); (case hg => rfl); (case hn => rfl); (case hr => first | (go_simp; done) | (go_simp; rfl) | (have hq0_ := (blk_cell BK376.out 0).trans (show _ = some _ from rfl); have hf0_ := blk_frozen BK376.out 0; have hq1_ := (blk_cell BK376.out 1).trans (show _ = some _ from rfl); have hf1_ := blk_frozen BK376.out 1; first | (go_simp; done) | (go_simp; rfl))); intro w15 hw; replace HO_5 : Aside0 (Kd.R Kd.bool 4 w15 w.heap.size (fun _ => True) v373 x5_1) := ⟨(by rw [hw]; exact (by (with_reducible repeat (first | apply Kd.R_alloc | apply Kd.R_drewN | apply Kd.R_drew)); exact Kd.R_mono (Kd.R_far (p := ⟨gb376, 1, none⟩) (Kd.R_far (p := ⟨gb376, 0, none⟩) (Kd.R_types HO_5.out BK376.out (by decide)) (fun _ hk => hk.2) (.string ((rd_T50 l0 x15_1).f0))) (fun _ hk => hk.2) (.slice A375_1 ((rd_T50 l0 x15_1).f1).length c375_1)) (fun _ hk => trivial)))⟩; replace BK376 : Aside0 (w15.heap[gb376]? = some (.cells #[.string ((rd_T50 l0 x15_1).f0), .slice A375_1 ((rd_T50 l0 x15_1).f1).length c375_1] 50 (0, 0))) := ⟨(by rw [hw]; exact (by refine bU ?_; refine blk_put (cs := #[.string ((rd_T50 l0 x15_1).f0), .slice none 0 0]) ?_ 1 _ rfl; refine bU ?_; refine blk_put (cs := #[.string (⟨#[]⟩ : ByteArray), .slice none 0 0]) ?_ 0 _ rfl; refine bU ?_; exact BK376.out))⟩; replace HB : Aside0 (Below w.heap.size w w15) := ⟨(by rw [hw]; exact (lV1 GE376))⟩; clear hw; have hcz16_0 := cz BK376 0 (.string ((rd_T50 l0 x15_1).f0)); have hcz16_1 := cz BK376 1 (.slice A375_1 ((rd_T50 l0 x15_1).f1).length c375_1); have hfz16_0 := fz BK376 0; have hfz16_1 := fz BK376 1) | ((with_reducible refine gate_callee (f := 39) rfl ?_); refine goesL_ (some 25) rfl rfl Try.func39 (by kernel_rfl) rfl #[.slice A375_1 ((rd_T50 l0 x15_1).f1).length c375_1, .slice A1 l1.length c1] rfl aE ?_; (with_reducible refine (spec_l17All.calls k1 _ _ ((rd_T50 l0 x15_1).f1) _ _ l1 t377 _ ?side1 ?side2 ?side3 ?side4 A10.out).mono ?_); (case side1 => exact cU (Kd.C_below HR375_1.out HB.out)); (case side2 => exact HC375_1.out); (case side3 => exact cU (Kd.C_below HR1.out HB.out)); (case side4 => exact HC1.out); rintro e w' ⟨rfl, ⟨nd, rfl⟩⟩; refine ⟨_, rfl, ?_⟩; (try (rw [drewN_self w15]; generalize hq_ : World.drewN w15 _ = w15; replace HO_5 : Aside0 (Kd.R Kd.bool 4 w15 w.heap.size (fun _ => True) v373 x5_1) := ⟨by rw [← hq_]; exact (rU HO_5.out)⟩; replace BK376 : Aside0 (w15.heap[gb376]? = some (.cells #[.string ((rd_T50 l0 x15_1).f0), .slice A375_1 ((rd_T50 l0 x15_1).f1).length c375_1] 50 (0, 0))) := ⟨by rw [← hq_]; exact (bV BK376)⟩; replace HB : Aside0 (Below w.heap.size w w15) := ⟨by rw [← hq_]; exact (lV1 GE376)⟩; clear hq_)); have hcw376_0 := cz BK376 0 (.string ((rd_T50 l0 x15_1).f0)); have hcw376_1 := cz BK376 1 (.slice A375_1 ((rd_T50 l0 x15_1).f1).length c375_1); have p12 : 0 ≤ (x15_1 : Int) := of_decide_eq_true hE; have q12 : (x15_1 : Int) < ((x5_1.length : Int) : Int) := of_decide_eq_true hE; obtain ⟨go12, co12, eo12, gb12, gl12, cl12, HG12⟩ := Kd.R_form HO_5.out (by omega); (first | cases eo12 | (injection eo12 with ea_ en_ ec_; (first | subst ea_ | (injection ea_ with ea_; subst ea_)); subst ec_; clear en_)); have GB12 := Aside0.mk gb12; have GG12 := Aside0.mk HG12; clear gb12 gl12 HG12; obtain ⟨hx12_0, hf12_0⟩ := Kd.R_celln false HO_5.out (x15_1 : Int) p12 q12; replace p12 := eq_true p12; replace q12 := eq_true q12; obtain ⟨hy17_, hz17_⟩ := Kd.R_celln false HO_5.out (x15_1 : Int) (of_decide_eq_true hE) (of_decide_eq_true hE); have HP17 := Kd.R_putg HO_5.out (x15_1 : Int) t377) | ((with_reducible refine gate_store (t := 4) (p := 26) rfl ?_); refine store_event (t := 4) (p := 26) (v := ?vo_w18) (w1 := (w15.setCell ⟨go12, (x15_1 : Int).toNat, none⟩ (.bool t377))) ?hg ?ho ?hn ?hr ?_; (case ho => rfl); (case hg => rfl); (case hn => rfl); (case hr => exact sE); intro w18 hw; have hg : w15.grownBy w18 (some go12) := (by rw [hw]; exact HP17.2); have hp_ : Kd.R Kd.bool 4 w18 w.heap.size (fun _ => True) (.slice (some ⟨go12, 0, none⟩) x5_1.length co12) y378 := (by rw [hw, Ny378.out]; exact HP17.1); clear HP17; replace BK376 := Aside0.mk (blk_grown (g := gb376) (o := .cells #[.string ((rd_T50 l0 x15_1).f0), .slice A375_1 ((rd_T50 l0 x15_1).f1).length c375_1] 50 (0, 0)) (bV BK376) hg (Kd.R_ne HO_5.out BK376.out (by decide))); replace HO_5 := Aside0.mk hp_; replace HB := Aside0.mk ((by rw [hw]; exact below_set (HB.out) GB12.out : Below w.heap.size w w18)); clear hg hw hp_))
         (try simp only [Act.put, List.setIfInBounds_toArray, List.set_cons_zero, List.set_cons_succ])
         go_loopg [29] k1 (fun kq v29 w' => ∃ (x5_2 : List Bool) (x29_2 : Int), v29 = .int .i64 x29_2 ∧ Aside0 (spec_l17Holds.l1 kq l0 l1 x5_2 x15_1 l0 (l0.length : Int) x15_1 l0 (l0.length : Int) x29_2 ((rd_T50 l0 x15_1).f0) ((rd_T50 l0 x15_1).f1) = some r) ∧ Aside0 (kq ≤ k1) ∧ Aside0 (Kd.R Kd.bool 4 w' w.heap.size (fun _ => True) (.slice (some ⟨go12, 0, none⟩) x5_1.length co12) x5_2) ∧ Aside0 (w'.heap[gb376]? = some (.cells #[.string ((rd_T50 l0 x15_1).f0), (.slice A375_1 ((rd_T50 l0 x15_1).f1).length c375_1)] 50 (0, 0))) ∧ Aside0 (Below w.heap.size w w'))
         case atStart => exact ⟨(y378), (0), tE, H', ⟨Nat.le_refl _⟩, ⟨by (with_reducible repeat (first | apply Kd.R_alloc | apply Kd.R_drewN | apply Kd.R_drew)); exact HO_5.out⟩, ⟨by refine bU ?_; exact BK376.out⟩, ⟨by repeat (first | (with_reducible first | exact HB.out | apply below_alloc | apply pw_below_drewN | apply below_drew1 | refine below_set ?_ GE376.out) | exact HB.out)⟩⟩
         case round =>
          clear H'
          try clear c1
          try clear p1
          try clear q1
          try clear hx1
          try clear p2
          try clear c3
          try clear c3b0
          try clear c3b1
          try clear p3
          try clear q3
          try clear hx3
          try clear c4
          try clear c4b0
          try clear c4b1
          try clear c7
          try clear c7b0
          try clear c8
          try clear c8b0
          try clear c9
          try clear c9b0
          try clear c11
          try clear c11b0
          try clear p12
          try clear q12
          try clear hx12
          try clear hf12
          try clear c15
          try clear hcz14_0
          try clear hcz14_1
          try clear hcz16_0
          try clear hcz16_1
          try clear hfz14_0
          try clear hfz14_1
          try clear hfz16_0
          try clear hfz16_1
          try clear hx12_0
          try clear hx375_0
          try clear hx375_1
          try clear p12
          try clear p2
          try clear p375
          try clear q12
          try clear q375
          obtain ⟨x5_2, x29_2, rfl, HA, HK2, HO_5, BK376, HB⟩ := hrel
          have hl5_2 := (Kd.R_reads' HO_5.out).1
          rw [hl5_2] at HO_5
          (try simp only [hl5_2])
          (try simp only [hl5_2] at BK376)
          cases gk with
          | zero => exact absurd HA.out (by simp [spec_l17Holds.l1])
          | succ k2 =>
           have H := HA.out
           clear HA
           simp only [spec_l17Holds.l1] at H
           by_cases c19 : x29_2 < (l0.length : Int)
           ·rw [if_pos c19] at H
            have c19b0 : decide (x29_2 < (l0.length : Int)) = true := decide_eq_true c19
            clear c19
            by_cases c20 : 0 ≤ x29_2
            ·rw [if_pos c20] at H
             have c20b0 : decide (0 ≤ x29_2) = true := decide_eq_true c20
             clear c20
             by_cases c21 : x29_2 < (l0.length : Int)
             ·rw [if_pos c21] at H
              have c21b0 : decide (x29_2 < (l0.length : Int)) = true := decide_eq_true c21
              clear c21
              by_cases c22 : (((rd_T50 l0 x29_2).f1).length : Int) > (((rd_T50 l0 x15_1).f1).length : Int)
              ·rw [if_pos c22] at H
               have c22b0 : decide ((((rd_T50 l0 x15_1).f1).length : Int) < (((rd_T50 l0 x29_2).f1).length : Int)) = true := decide_eq_true c22
               have c22b1 : decide (((rd_T50 l0 x15_1).f1).length < ((rd_T50 l0 x29_2).f1).length) = true := decide_eq_true (Int.ofNat_lt.mp c22)
               clear c22
               replace H := Option.bind_eq_some_iff.mp H
               obtain ⟨t381, A230, H⟩ := H
               replace H : (if t381 = true then ((spec_l17All.f k2 ((rd_T50 l0 x15_1).f1) ((rd_T50 l0 x29_2).f1)).bind fun t382 => (if t382 = true then (if 0 ≤ x15_1 then (if x15_1 < (x5_2.length : Int) then (spec_l17Holds.l1 k2 l0 l1 (x5_2.set (x15_1 : Int).toNat false) x15_1 l0 (l0.length : Int) x15_1 l0 (l0.length : Int) (wrap64 (x29_2 + 1)) ((rd_T50 l0 x15_1).f0) ((rd_T50 l0 x15_1).f1)) else (none)) else (none)) else (spec_l17Holds.l1 k2 l0 l1 x5_2 x15_1 l0 (l0.length : Int) x15_1 l0 (l0.length : Int) (wrap64 (x29_2 + 1)) ((rd_T50 l0 x15_1).f0) ((rd_T50 l0 x15_1).f1)))) else (spec_l17Holds.l1 k2 l0 l1 x5_2 x15_1 l0 (l0.length : Int) x15_1 l0 (l0.length : Int) (wrap64 (x29_2 + 1)) ((rd_T50 l0 x15_1).f0) ((rd_T50 l0 x15_1).f1))) = some r := H
               have A23 := Aside0.mk A230
               clear A230
               by_cases c24 : t381 = true
               ·subst c24
                have H1 : ((spec_l17All.f k2 ((rd_T50 l0 x15_1).f1) ((rd_T50 l0 x29_2).f1)).bind fun t382 => (if t382 = true then (if 0 ≤ x15_1 then (if x15_1 < (x5_2.length : Int) then (spec_l17Holds.l1 k2 l0 l1 (x5_2.set (x15_1 : Int).toNat false) x15_1 l0 (l0.length : Int) x15_1 l0 (l0.length : Int) (wrap64 (x29_2 + 1)) ((rd_T50 l0 x15_1).f0) ((rd_T50 l0 x15_1).f1)) else (none)) else (none)) else (spec_l17Holds.l1 k2 l0 l1 x5_2 x15_1 l0 (l0.length : Int) x15_1 l0 (l0.length : Int) (wrap64 (x29_2 + 1)) ((rd_T50 l0 x15_1).f0) ((rd_T50 l0 x15_1).f1)))) = some r := by rw [if_pos rfl] at H; exact H
                clear H
                have H := H1
                clear H1
                replace H := Option.bind_eq_some_iff.mp H
                obtain ⟨t382, A250, H⟩ := H
                replace H : (if t382 = true then (if 0 ≤ x15_1 then (if x15_1 < (x5_2.length : Int) then (spec_l17Holds.l1 k2 l0 l1 (x5_2.set (x15_1 : Int).toNat false) x15_1 l0 (l0.length : Int) x15_1 l0 (l0.length : Int) (wrap64 (x29_2 + 1)) ((rd_T50 l0 x15_1).f0) ((rd_T50 l0 x15_1).f1)) else (none)) else (none)) else (spec_l17Holds.l1 k2 l0 l1 x5_2 x15_1 l0 (l0.length : Int) x15_1 l0 (l0.length : Int) (wrap64 (x29_2 + 1)) ((rd_T50 l0 x15_1).f0) ((rd_T50 l0 x15_1).f1))) = some r := H
                have A25 := Aside0.mk A250
                clear A250
                by_cases c26 : t382 = true
                ·subst c26
                 have H1 : (if 0 ≤ x15_1 then (if x15_1 < (x5_2.length : Int) then (spec_l17Holds.l1 k2 l0 l1 (x5_2.set (x15_1 : Int).toNat false) x15_1 l0 (l0.length : Int) x15_1 l0 (l0.length : Int) (wrap64 (x29_2 + 1)) ((rd_T50 l0 x15_1).f0) ((rd_T50 l0 x15_1).f1)) else (none)) else (none)) = some r := by rw [if_pos rfl] at H; exact H
                 clear H
                 have H := H1
                 clear H1
                 by_cases c27 : 0 ≤ x15_1
                 ·rw [if_pos c27] at H
                  have c27b0 : decide (0 ≤ x15_1) = true := decide_eq_true c27
                  clear c27
                  by_cases c28 : x15_1 < (x5_2.length : Int)
                  ·rw [if_pos c28] at H
                   have c28b0 : decide (x15_1 < (x5_2.length : Int)) = true := decide_eq_true c28
                   clear c28
                   obtain ⟨y383, hy383⟩ : ∃ y_ : List Bool, y_ = (x5_2.set (x15_1 : Int).toNat false) := ⟨_, rfl⟩
                   replace H : (spec_l17Holds.l1 k2 l0 l1 y383 x15_1 l0 (l0.length : Int) x15_1 l0 (l0.length : Int) (wrap64 (x29_2 + 1)) ((rd_T50 l0 x15_1).f0) ((rd_T50 l0 x15_1).f1)) = some r := by first | (rw [hy383]; with_reducible exact H) | (have H2_ := (Option.bind_some _ _).symm.trans H; rw [hy383]; with_reducible exact H2_) | (have H2_ := (Option.bind_some _ _).symm.trans H; with_reducible exact H2_) | with_reducible exact H | (rw [hy383]; exact H) | exact H
                   have Ny383 := Aside0.mk hy383
                   clear hy383
                   have H' := Aside0.mk H
                   clear H
                   have p379 : 0 ≤ (x29_2 : Int) := of_decide_eq_true hE
                   have q379 : x29_2 < (l0.length : Int) := of_decide_eq_true hE
                   obtain ⟨ad379, A379_1, c379_1, e379, hx379_0, hx379_1, hl379_1, hi379_1⟩ := at_T50 HR0.out x29_2 p379 q379
                   obtain rfl : ad375 = ad379 := (by injection e379)
                   replace hx379_0 := (HB.out.cell (World.block_lt_of_cell? w _ hx379_0)).trans hx379_0
                   replace hx379_1 := (HB.out.cell (World.block_lt_of_cell? w _ hx379_1)).trans hx379_1
                   have HR379_1 := Aside0.mk hi379_1
                   have HC379_1 := Aside0.mk hl379_1
                   clear hi379_1 hl379_1
                   replace p379 := eq_true p379
                   replace q379 := eq_true q379
                   go_wp2_with (first | ((with_reducible refine gate_dst (N := 9) rfl ?_); refine box_event rfl (N := 9) rfl (cs := #[.string (⟨#[]⟩ : ByteArray), .slice none 0 0]) (t := 50) sE ?_; intro gb380 hg w30 hbox hb; replace HO_5 := Aside0.mk (Kd.R_below (rU HO_5.out) hb); have BK380 := Aside0.mk hbox; have GW380 := gS w hg (lV1 GE376); have GE380 := gS w hg (lV1 GE376); replace HB := bH (lV1 GE376) hb; have NB376_380 := nL hg (bV BK376); have NB380_376 := nG hg (bV BK376); replace BK376 := bB (bV BK376) hb; clear hb hbox hg; have hnb31 := NB380_376.out; have hnc31 := NB376_380.out; have hcz32_0 := cz BK380 0 (.string (⟨#[]⟩ : ByteArray)); have hcz32_1 := cz BK380 1 (.slice none 0 0); have hfz32_0 := fz BK380 0; have hfz32_1 := fz BK380 1) | ((with_reducible refine gate_store (t := 50) (p := 9) rfl ?_); refine store_event (t := 50) (p := 9) (v := ?vo_w33) (w1 := ((w30.setCell ⟨gb380, 0, none⟩ (.string ((rd_T50 l0 x29_2).f0))).setCell ⟨gb380, 1, none⟩ (.slice A379_1 ((rd_T50 l0 x29_2).f1).length c379_1))) ?hg ?ho ?hn ?hr ?_; (case ho => rfl); (case hg => rfl); (case hn => rfl); (case hr => first | (go_simp; done) | (go_simp; rfl) | (have hq0_ := (blk_cell BK380.out 0).trans (show _ = some _ from rfl); have hf0_ := blk_frozen BK380.out 0; have hq1_ := (blk_cell BK380.out 1).trans (show _ = some _ from rfl); have hf1_ := blk_frozen BK380.out 1; first | (go_simp; done) | (go_simp; rfl))); intro w33 hw; replace HO_5 : Aside0 (Kd.R Kd.bool 4 w33 w.heap.size (fun _ => True) (.slice (some ⟨go12, 0, none⟩) x5_2.length co12) x5_2) := ⟨(by rw [hw]; exact (by (with_reducible repeat (first | apply Kd.R_alloc | apply Kd.R_drewN | apply Kd.R_drew)); exact Kd.R_mono (Kd.R_far (p := ⟨gb380, 1, none⟩) (Kd.R_far (p := ⟨gb380, 0, none⟩) (Kd.R_types HO_5.out BK380.out (by decide)) (fun _ hk => hk.2) (.string ((rd_T50 l0 x29_2).f0))) (fun _ hk => hk.2) (.slice A379_1 ((rd_T50 l0 x29_2).f1).length c379_1)) (fun _ hk => trivial)))⟩; replace BK376 : Aside0 (w33.heap[gb376]? = some (.cells #[.string ((rd_T50 l0 x15_1).f0), .slice A375_1 ((rd_T50 l0 x15_1).f1).length c375_1] 50 (0, 0))) := ⟨(by rw [hw]; exact (bG NB376_380 BK376))⟩; replace BK380 : Aside0 (w33.heap[gb380]? = some (.cells #[.string ((rd_T50 l0 x29_2).f0), .slice A379_1 ((rd_T50 l0 x29_2).f1).length c379_1] 50 (0, 0))) := ⟨(by rw [hw]; exact (by refine bU ?_; refine blk_put (cs := #[.string ((rd_T50 l0 x29_2).f0), .slice none 0 0]) ?_ 1 _ rfl; refine bU ?_; refine blk_put (cs := #[.string (⟨#[]⟩ : ByteArray), .slice none 0 0]) ?_ 0 _ rfl; refine bU ?_; exact BK380.out))⟩; replace HB : Aside0 (Below w.heap.size w w33) := ⟨(by rw [hw]; exact (lV2 GE376 GE380))⟩; clear hw; have hcz34_0 := cz BK380 0 (.string ((rd_T50 l0 x29_2).f0)); have hcz34_1 := cz BK380 1 (.slice A379_1 ((rd_T50 l0 x29_2).f1).length c379_1); have hfz34_0 := fz BK380 0; have hfz34_1 := fz BK380 1; have hcz35_0 := cz BK376 0 (.string ((rd_T50 l0 x15_1).f0)); have hcz35_1 := cz BK376 1 (.slice A375_1 ((rd_T50 l0 x15_1).f1).length c375_1); have hfz35_0 := fz BK376 0; have hfz35_1 := fz BK376 1) | (go_at_call 39; (with_reducible refine (spec_l17All.calls k2 _ _ ((rd_T50 l0 x29_2).f1) _ _ l1 true _ ?side1 ?side2 ?side3 ?side4 A23.out).mono ?_); (case side1 => exact cU (Kd.C_below HR379_1.out HB.out)); (case side2 => exact HC379_1.out); (case side3 => exact cU (Kd.C_below HR1.out HB.out)); (case side4 => exact HC1.out); rintro e w' ⟨rfl, ⟨nd, rfl⟩⟩; (try (rw [drewN_self w33]; generalize hq_ : World.drewN w33 _ = w33; replace HO_5 : Aside0 (Kd.R Kd.bool 4 w33 w.heap.size (fun _ => True) (.slice (some ⟨go12, 0, none⟩) x5_2.length co12) x5_2) := ⟨by rw [← hq_]; exact (rU HO_5.out)⟩; replace BK376 : Aside0 (w33.heap[gb376]? = some (.cells #[.string ((rd_T50 l0 x15_1).f0), .slice A375_1 ((rd_T50 l0 x15_1).f1).length c375_1] 50 (0, 0))) := ⟨by rw [← hq_]; exact (bV BK376)⟩; replace BK380 : Aside0 (w33.heap[gb380]? = some (.cells #[.string ((rd_T50 l0 x29_2).f0), .slice A379_1 ((rd_T50 l0 x29_2).f1).length c379_1] 50 (0, 0))) := ⟨by rw [← hq_]; exact (bV BK380)⟩; replace HB : Aside0 (Below w.heap.size w w33) := ⟨by rw [← hq_]; exact (lV2 GE376 GE380)⟩; clear hq_)); have hcw376_0 := cz BK376 0 (.string ((rd_T50 l0 x15_1).f0)); have hcw376_1 := cz BK376 1 (.slice A375_1 ((rd_T50 l0 x15_1).f1).length c375_1); have hcw380_0 := cz BK380 0 (.string ((rd_T50 l0 x29_2).f0)); have hcw380_1 := cz BK380 1 (.slice A379_1 ((rd_T50 l0 x29_2).f1).length c379_1)) | (go_at_call 39; (with_reducible refine (spec_l17All.calls k2 _ _ ((rd_T50 l0 x15_1).f1) _ _ ((rd_T50 l0 x29_2).f1) true _ ?side1 ?side2 ?side3 ?side4 A25.out).mono ?_); (case side1 => exact cU (Kd.C_below HR375_1.out HB.out)); (case side2 => exact HC375_1.out); (case side3 => exact cU (Kd.C_below HR379_1.out HB.out)); (case side4 => exact HC379_1.out); rintro e w' ⟨rfl, ⟨nd, rfl⟩⟩; (try (rw [drewN_self w33]; generalize hq_ : World.drewN w33 _ = w33; replace HO_5 : Aside0 (Kd.R Kd.bool 4 w33 w.heap.size (fun _ => True) (.slice (some ⟨go12, 0, none⟩) x5_2.length co12) x5_2) := ⟨by rw [← hq_]; exact (rU HO_5.out)⟩; replace BK376 : Aside0 (w33.heap[gb376]? = some (.cells #[.string ((rd_T50 l0 x15_1).f0), .slice A375_1 ((rd_T50 l0 x15_1).f1).length c375_1] 50 (0, 0))) := ⟨by rw [← hq_]; exact (bV BK376)⟩; replace BK380 : Aside0 (w33.heap[gb380]? = some (.cells #[.string ((rd_T50 l0 x29_2).f0), .slice A379_1 ((rd_T50 l0 x29_2).f1).length c379_1] 50 (0, 0))) := ⟨by rw [← hq_]; exact (bV BK380)⟩; replace HB : Aside0 (Below w.heap.size w w33) := ⟨by rw [← hq_]; exact (lV2 GE376 GE380)⟩; clear hq_)); have hcw376_0 := cz BK376 0 (.string ((rd_T50 l0 x15_1).f0)); have hcw376_1 := cz BK376 1 (.slice A375_1 ((rd_T50 l0 x15_1).f1).length c375_1); have hcw380_0 := cz BK380 0 (.string ((rd_T50 l0 x29_2).f0)); have hcw380_1 := cz BK380 1 (.slice A379_1 ((rd_T50 l0 x29_2).f1).length c379_1); have p29 : 0 ≤ (x15_1 : Int) := of_decide_eq_true hE; have q29 : (x15_1 : Int) < ((x5_2.length : Int) : Int) := of_decide_eq_true hE; obtain ⟨hx29_0, hf29_0⟩ := Kd.R_celln false HO_5.out (x15_1 : Int) p29 q29; replace p29 := eq_true p29; replace q29 := eq_true q29; obtain ⟨hy36_, hz36_⟩ := Kd.R_celln false HO_5.out (x15_1 : Int) (of_decide_eq_true hE) (of_decide_eq_true hE); have HP36 := Kd.R_putg HO_5.out (x15_1 : Int) false) | ((with_reducible refine gate_store (t := 4) (p := 55) rfl ?_); refine store_event (t := 4) (p := 55) (v := ?vo_w37) (w1 := (w33.setCell ⟨go12, (x15_1 : Int).toNat, none⟩ (.bool false))) ?hg ?ho ?hn ?hr ?_; (case ho => rfl); (case hg => rfl); (case hn => rfl); (case hr => exact sE); intro w37 hw; have hg : w33.grownBy w37 (some go12) := (by rw [hw]; exact HP36.2); have hp_ : Kd.R Kd.bool 4 w37 w.heap.size (fun _ => True) (.slice (some ⟨go12, 0, none⟩) x5_2.length co12) y383 := (by rw [hw, Ny383.out]; exact HP36.1); clear HP36; replace BK376 := Aside0.mk (blk_grown (g := gb376) (o := .cells #[.string ((rd_T50 l0 x15_1).f0), .slice A375_1 ((rd_T50 l0 x15_1).f1).length c375_1] 50 (0, 0)) (bV BK376) hg (Kd.R_ne HO_5.out BK376.out (by decide))); replace BK380 := Aside0.mk (blk_grown (g := gb380) (o := .cells #[.string ((rd_T50 l0 x29_2).f0), .slice A379_1 ((rd_T50 l0 x29_2).f1).length c379_1] 50 (0, 0)) (bV BK380) hg (Kd.R_ne HO_5.out BK380.out (by decide))); replace HO_5 := Aside0.mk hp_; replace HB := Aside0.mk ((by rw [hw]; exact below_set (HB.out) GB12.out : Below w.heap.size w w37)); clear hg hw hp_))
                   (try simp only [← hl5_2])
                   go_roundg k2
                   case measure => have := HK1.out; have := HK2.out; omega
                   case rel => exact ⟨(y383), (wrap64 (x29_2 + 1)), tE, H', ⟨by have := HK1.out; have := HK2.out; omega⟩, ⟨by (try simp only [hl5_2]); (with_reducible repeat (first | apply Kd.R_alloc | apply Kd.R_drewN | apply Kd.R_drew)); exact HO_5.out⟩, ⟨by (try simp only [hl5_2]); refine bU ?_; exact BK376.out⟩, ⟨by repeat (first | (with_reducible first | exact HB.out | apply below_alloc | apply pw_below_drewN | apply below_drew1 | refine below_set ?_ GE376.out | refine below_set ?_ GE380.out) | exact HB.out)⟩⟩
                  ·rw [if_neg c28] at H
                   exact absurd H (by simp)
                 ·rw [if_neg c27] at H
                  exact absurd H (by simp)
                ·replace c26 := Bool.eq_false_iff.mpr c26
                 subst c26
                 have H1 : (spec_l17Holds.l1 k2 l0 l1 x5_2 x15_1 l0 (l0.length : Int) x15_1 l0 (l0.length : Int) (wrap64 (x29_2 + 1)) ((rd_T50 l0 x15_1).f0) ((rd_T50 l0 x15_1).f1)) = some r := by rw [if_neg (show ¬ (false = true) by decide)] at H; exact H
                 clear H
                 have H := H1
                 clear H1
                 have H' := Aside0.mk H
                 clear H
                 have p379 : 0 ≤ (x29_2 : Int) := of_decide_eq_true hE
                 have q379 : x29_2 < (l0.length : Int) := of_decide_eq_true hE
                 obtain ⟨ad379, A379_1, c379_1, e379, hx379_0, hx379_1, hl379_1, hi379_1⟩ := at_T50 HR0.out x29_2 p379 q379
                 obtain rfl : ad375 = ad379 := (by injection e379)
                 replace hx379_0 := (HB.out.cell (World.block_lt_of_cell? w _ hx379_0)).trans hx379_0
                 replace hx379_1 := (HB.out.cell (World.block_lt_of_cell? w _ hx379_1)).trans hx379_1
                 have HR379_1 := Aside0.mk hi379_1
                 have HC379_1 := Aside0.mk hl379_1
                 clear hi379_1 hl379_1
                 replace p379 := eq_true p379
                 replace q379 := eq_true q379
                 go_wp2_with (first | ((with_reducible refine gate_dst (N := 9) rfl ?_); refine box_event rfl (N := 9) rfl (cs := #[.string (⟨#[]⟩ : ByteArray), .slice none 0 0]) (t := 50) sE ?_; intro gb380 hg w38 hbox hb; replace HO_5 := Aside0.mk (Kd.R_below (rU HO_5.out) hb); have BK380 := Aside0.mk hbox; have GW380 := gS w hg (lV1 GE376); have GE380 := gS w hg (lV1 GE376); replace HB := bH (lV1 GE376) hb; have NB376_380 := nL hg (bV BK376); have NB380_376 := nG hg (bV BK376); replace BK376 := bB (bV BK376) hb; clear hb hbox hg; have hnb39 := NB380_376.out; have hnc39 := NB376_380.out; have hcz40_0 := cz BK380 0 (.string (⟨#[]⟩ : ByteArray)); have hcz40_1 := cz BK380 1 (.slice none 0 0); have hfz40_0 := fz BK380 0; have hfz40_1 := fz BK380 1; have hcz41_0 := cz BK376 0 (.string ((rd_T50 l0 x15_1).f0)); have hcz41_1 := cz BK376 1 (.slice A375_1 ((rd_T50 l0 x15_1).f1).length c375_1); have hfz41_0 := fz BK376 0; have hfz41_1 := fz BK376 1) | (go_at_call 39; (with_reducible refine (spec_l17All.calls k2 _ _ ((rd_T50 l0 x29_2).f1) _ _ l1 true _ ?side1 ?side2 ?side3 ?side4 A23.out).mono ?_); (case side1 => exact Kd.C_below HR379_1.out (lV2 GE376 GE380)); (case side2 => exact HC379_1.out); (case side3 => exact Kd.C_below HR1.out (lV2 GE376 GE380)); (case side4 => exact HC1.out); rintro e w' ⟨rfl, ⟨nd, rfl⟩⟩) | (go_at_call 39; (with_reducible refine (spec_l17All.calls k2 _ _ ((rd_T50 l0 x15_1).f1) _ _ ((rd_T50 l0 x29_2).f1) false _ ?side1 ?side2 ?side3 ?side4 A25.out).mono ?_); (case side1 => exact Kd.C_below HR375_1.out (lV2 GE376 GE380)); (case side2 => exact HC375_1.out); (case side3 => exact Kd.C_below HR379_1.out (lV2 GE376 GE380)); (case side4 => exact HC379_1.out); rintro e w' ⟨rfl, ⟨nd, rfl⟩⟩))
                 (try simp only [← hl5_2])
                 go_roundg k2
                 case measure => have := HK1.out; have := HK2.out; omega
                 case rel => exact ⟨(x5_2), (wrap64 (x29_2 + 1)), tE, H', ⟨by have := HK1.out; have := HK2.out; omega⟩, ⟨by (try simp only [hl5_2]); (with_reducible repeat (first | apply Kd.R_alloc | apply Kd.R_drewN | apply Kd.R_drew)); exact Kd.R_mono (Kd.R_far (p := ⟨gb380, 1, none⟩) (Kd.R_far (p := ⟨gb380, 0, none⟩) (Kd.R_types HO_5.out BK380.out (by decide)) (fun _ hk => hk.2) (.string ((rd_T50 l0 x29_2).f0))) (fun _ hk => hk.2) (.slice A379_1 ((rd_T50 l0 x29_2).f1).length c379_1)) (fun _ hk => trivial)⟩, ⟨by (try simp only [hl5_2]); refine bU ?_; refine blk_far ?_ NB376_380.out _; refine bU ?_; refine blk_far ?_ NB376_380.out _; refine bU ?_; exact BK376.out⟩, ⟨by repeat (first | (with_reducible first | exact HB.out | apply below_alloc | apply pw_below_drewN | apply below_drew1 | refine below_set ?_ GE376.out | refine below_set ?_ GE380.out) | exact HB.out)⟩⟩
               ·replace c24 := Bool.eq_false_iff.mpr c24
                subst c24
                have H1 : (spec_l17Holds.l1 k2 l0 l1 x5_2 x15_1 l0 (l0.length : Int) x15_1 l0 (l0.length : Int) (wrap64 (x29_2 + 1)) ((rd_T50 l0 x15_1).f0) ((rd_T50 l0 x15_1).f1)) = some r := by rw [if_neg (show ¬ (false = true) by decide)] at H; exact H
                clear H
                have H := H1
                clear H1
                have H' := Aside0.mk H
                clear H
                have p379 : 0 ≤ (x29_2 : Int) := of_decide_eq_true hE
                have q379 : x29_2 < (l0.length : Int) := of_decide_eq_true hE
                obtain ⟨ad379, A379_1, c379_1, e379, hx379_0, hx379_1, hl379_1, hi379_1⟩ := at_T50 HR0.out x29_2 p379 q379
                obtain rfl : ad375 = ad379 := (by injection e379)
                replace hx379_0 := (HB.out.cell (World.block_lt_of_cell? w _ hx379_0)).trans hx379_0
                replace hx379_1 := (HB.out.cell (World.block_lt_of_cell? w _ hx379_1)).trans hx379_1
                have HR379_1 := Aside0.mk hi379_1
                have HC379_1 := Aside0.mk hl379_1
                clear hi379_1 hl379_1
                replace p379 := eq_true p379
                replace q379 := eq_true q379
                go_wp2_with (first | ((with_reducible refine gate_dst (N := 9) rfl ?_); refine box_event rfl (N := 9) rfl (cs := #[.string (⟨#[]⟩ : ByteArray), .slice none 0 0]) (t := 50) sE ?_; intro gb380 hg w42 hbox hb; replace HO_5 := Aside0.mk (Kd.R_below (rU HO_5.out) hb); have BK380 := Aside0.mk hbox; have GW380 := gS w hg (lV1 GE376); have GE380 := gS w hg (lV1 GE376); replace HB := bH (lV1 GE376) hb; have NB376_380 := nL hg (bV BK376); have NB380_376 := nG hg (bV BK376); replace BK376 := bB (bV BK376) hb; clear hb hbox hg; have hnb43 := NB380_376.out; have hnc43 := NB376_380.out; have hcz44_0 := cz BK380 0 (.string (⟨#[]⟩ : ByteArray)); have hcz44_1 := cz BK380 1 (.slice none 0 0); have hfz44_0 := fz BK380 0; have hfz44_1 := fz BK380 1; have hcz45_0 := cz BK376 0 (.string ((rd_T50 l0 x15_1).f0)); have hcz45_1 := cz BK376 1 (.slice A375_1 ((rd_T50 l0 x15_1).f1).length c375_1); have hfz45_0 := fz BK376 0; have hfz45_1 := fz BK376 1) | (go_at_call 39; (with_reducible refine (spec_l17All.calls k2 _ _ ((rd_T50 l0 x29_2).f1) _ _ l1 false _ ?side1 ?side2 ?side3 ?side4 A23.out).mono ?_); (case side1 => exact Kd.C_below HR379_1.out (lV2 GE376 GE380)); (case side2 => exact HC379_1.out); (case side3 => exact Kd.C_below HR1.out (lV2 GE376 GE380)); (case side4 => exact HC1.out); rintro e w' ⟨rfl, ⟨nd, rfl⟩⟩))
                (try simp only [← hl5_2])
                go_roundg k2
                case measure => have := HK1.out; have := HK2.out; omega
                case rel => exact ⟨(x5_2), (wrap64 (x29_2 + 1)), tE, H', ⟨by have := HK1.out; have := HK2.out; omega⟩, ⟨by (try simp only [hl5_2]); (with_reducible repeat (first | apply Kd.R_alloc | apply Kd.R_drewN | apply Kd.R_drew)); exact Kd.R_mono (Kd.R_far (p := ⟨gb380, 1, none⟩) (Kd.R_far (p := ⟨gb380, 0, none⟩) (Kd.R_types HO_5.out BK380.out (by decide)) (fun _ hk => hk.2) (.string ((rd_T50 l0 x29_2).f0))) (fun _ hk => hk.2) (.slice A379_1 ((rd_T50 l0 x29_2).f1).length c379_1)) (fun _ hk => trivial)⟩, ⟨by (try simp only [hl5_2]); refine bU ?_; refine blk_far ?_ NB376_380.out _; refine bU ?_; refine blk_far ?_ NB376_380.out _; refine bU ?_; exact BK376.out⟩, ⟨by repeat (first | (with_reducible first | exact HB.out | apply below_alloc | apply pw_below_drewN | apply below_drew1 | refine below_set ?_ GE376.out | refine below_set ?_ GE380.out) | exact HB.out)⟩⟩
              ·rw [if_neg c22] at H
               have c22b0 : decide ((((rd_T50 l0 x15_1).f1).length : Int) < (((rd_T50 l0 x29_2).f1).length : Int)) = false := decide_eq_false c22
               have c22b1 : decide (((rd_T50 l0 x15_1).f1).length < ((rd_T50 l0 x29_2).f1).length) = false := decide_eq_false (fun h => c22 (Int.ofNat_lt.mpr h))
               clear c22
               have H' := Aside0.mk H
               clear H
               have p379 : 0 ≤ (x29_2 : Int) := of_decide_eq_true hE
               have q379 : x29_2 < (l0.length : Int) := of_decide_eq_true hE
               obtain ⟨ad379, A379_1, c379_1, e379, hx379_0, hx379_1, hl379_1, hi379_1⟩ := at_T50 HR0.out x29_2 p379 q379
               obtain rfl : ad375 = ad379 := (by injection e379)
               replace hx379_0 := (HB.out.cell (World.block_lt_of_cell? w _ hx379_0)).trans hx379_0
               replace hx379_1 := (HB.out.cell (World.block_lt_of_cell? w _ hx379_1)).trans hx379_1
               have HR379_1 := Aside0.mk hi379_1
               have HC379_1 := Aside0.mk hl379_1
               clear hi379_1 hl379_1
               replace p379 := eq_true p379
               replace q379 := eq_true q379
               go_wp2_with (first | ((with_reducible refine gate_dst (N := 9) rfl ?_); refine box_event rfl (N := 9) rfl (cs := #[.string (⟨#[]⟩ : ByteArray), .slice none 0 0]) (t := 50) sE ?_; intro gb380 hg w46 hbox hb; replace HO_5 := Aside0.mk (Kd.R_below (rU HO_5.out) hb); have BK380 := Aside0.mk hbox; have GW380 := gS w hg (lV1 GE376); have GE380 := gS w hg (lV1 GE376); replace HB := bH (lV1 GE376) hb; have NB376_380 := nL hg (bV BK376); have NB380_376 := nG hg (bV BK376); replace BK376 := bB (bV BK376) hb; clear hb hbox hg; have hnb47 := NB380_376.out; have hnc47 := NB376_380.out; have hcz48_0 := cz BK380 0 (.string (⟨#[]⟩ : ByteArray)); have hcz48_1 := cz BK380 1 (.slice none 0 0); have hfz48_0 := fz BK380 0; have hfz48_1 := fz BK380 1; have hcz49_0 := cz BK376 0 (.string ((rd_T50 l0 x15_1).f0)); have hcz49_1 := cz BK376 1 (.slice A375_1 ((rd_T50 l0 x15_1).f1).length c375_1); have hfz49_0 := fz BK376 0; have hfz49_1 := fz BK376 1))
               (try simp only [← hl5_2])
               go_roundg k2
               case measure => have := HK1.out; have := HK2.out; omega
               case rel => exact ⟨(x5_2), (wrap64 (x29_2 + 1)), tE, H', ⟨by have := HK1.out; have := HK2.out; omega⟩, ⟨by (try simp only [hl5_2]); (with_reducible repeat (first | apply Kd.R_alloc | apply Kd.R_drewN | apply Kd.R_drew)); exact Kd.R_mono (Kd.R_far (p := ⟨gb380, 1, none⟩) (Kd.R_far (p := ⟨gb380, 0, none⟩) (Kd.R_types HO_5.out BK380.out (by decide)) (fun _ hk => hk.2) (.string ((rd_T50 l0 x29_2).f0))) (fun _ hk => hk.2) (.slice A379_1 ((rd_T50 l0 x29_2).f1).length c379_1)) (fun _ hk => trivial)⟩, ⟨by (try simp only [hl5_2]); refine bU ?_; refine blk_far ?_ NB376_380.out _; refine bU ?_; refine blk_far ?_ NB376_380.out _; refine bU ?_; exact BK376.out⟩, ⟨by repeat (first | (with_reducible first | exact HB.out | apply below_alloc | apply pw_below_drewN | apply below_drew1 | refine below_set ?_ GE376.out | refine below_set ?_ GE380.out) | exact HB.out)⟩⟩
             ·rw [if_neg c21] at H
              exact absurd H (by simp)
            ·rw [if_neg c20] at H
             exact absurd H (by simp)
           ·rw [if_neg c19] at H
            have c19b0 : decide (x29_2 < (l0.length : Int)) = false := decide_eq_false c19
            clear c19
            have H' := Aside0.mk H
            clear H
            go_wp2
            (try simp only [← hl5_2])
            go_roundg k2
            case measure => have := HK1.out; have := HK2.out; omega
            case rel => exact ⟨(x5_2), (wrap64 (x15_1 + 1)), tE, H', ⟨by have := HK1.out; have := HK2.out; omega⟩, ⟨by (try simp only [hl5_2]); (with_reducible repeat (first | apply Kd.R_alloc | apply Kd.R_drewN | apply Kd.R_drew)); exact HO_5.out⟩, ⟨by repeat (first | (with_reducible first | exact HB.out | apply below_alloc | apply pw_below_drewN | apply below_drew1 | refine below_set ?_ GE376.out) | exact HB.out)⟩⟩
        ·rw [if_neg c11] at H
         exact absurd H (by simp)
       ·rw [if_neg c9] at H
        exact absurd H (by simp)
      ·rw [if_neg c8] at H
       exact absurd H (by simp)
     ·rw [if_neg c7] at H
      have c7b0 : decide (x15_1 < (l0.length : Int)) = false := decide_eq_false c7
      clear c7
      obtain rfl := Option.some.inj H
      go_wp2
      go_ret
      exact ⟨_, eE, by (with_reducible repeat (first | apply Kd.R_alloc | apply Kd.R_drewN | apply Kd.R_drew)); exact HO_5.out, lU⟩
  ·rw [if_neg c4] at H
   exact absurd H (by simp)
 ·rw [if_neg c3] at H
  exact absurd H (by simp)
end Go.Proofs.Ytndgkdnbacoenab.PFnMeant
namespace Go.Proofs.Ytndgkdnbacoenab.PFnMeant
open Go.RowKit Go.Proofs.YtndgkdnbacoenabW.PrintWords Go.Proofs.YtndgkdnbacoenabW.PrintLast Go.Proofs.YtndgkdnbacoenabW.PrintMore
attribute [local go_sem] max2_int min2_int max_two min_two max_three min_three max_four min_four
set_option linter.unusedVariables false
set_option linter.unusedSimpArgs false
mutual
def spec_MeantBy.j0 : Nat → List (S50) → List (S47) → Bool → Option ((List (S31)) × Bool)
 | 0, _, _, _ => none
 | k + 1, x0, x1, x21 => if x21 = true then (some (([] : List (S31)), false)) else (if 0 ≤ (x0.length : Int) then (if ((x0.length : Int) : Int).toNat ≤ 281474976710656 then (spec_MeantBy.l0 k x0 ([] : List (S31)) ([] : List Int) (List.replicate ((x0.length : Int) : Int).toNat false) x1 (x1.length : Int) 0) else (none)) else (none))
def spec_MeantBy.l0 : Nat → List (S50) → List (S31) → List Int → List Bool → List (S47) → Int → Int → Option ((List (S31)) × Bool)
 | 0, _, _, _, _, _, _, _ => none
 | k + 1, x0, x6, x7, x8, x25, x26, x27 => if x27 < x26 then (if 0 ≤ x27 then (if x27 < (x25.length : Int) then ((spec_l17Press.f k x7 ((rd_T47 x25 x27).f0) ((rd_T47 x25 x27).f1) ((rd_T47 x25 x27).f2)).bind fun t391 => ((spec_l17Holds.f k x0 t391).bind fun t394 => (spec_MeantBy.l1 k x0 x6 t391 x8 t394 x25 x26 x27 x0 (x0.length : Int) 0 ((rd_T47 x25 x27).f0) ((rd_T47 x25 x27).f1) ((rd_T47 x25 x27).f2)))) else (none)) else (none)) else (some (x6, true))
def spec_MeantBy.l1 : Nat → List (S50) → List (S31) → List Int → List Bool → List Bool → List (S47) → Int → Int → List (S50) → Int → Int → Int → Int → Bool → Option ((List (S31)) × Bool)
 | 0, _, _, _, _, _, _, _, _, _, _, _, _, _, _ => none
 | k + 1, x0, x6, x7, x8, x11, x25, x26, x27, x37, x38, x39, x391000, x391001, x391002 => if x39 < x38 then (if 0 ≤ x39 then (if x39 < (x37.length : Int) then (if x39 < (x11.length : Int) then (if x39 < (x8.length : Int) then (if ((rdOf false x11 x39) != (rdOf false x8 x39)) = true then (if x6.length < 4398046511104 then (spec_MeantBy.l1 k x0 (x6 ++ [(⟨x391000, (rd_T50 x37 x39).f0, rdOf false x11 x39⟩ : S31)]) x7 x8 x11 x25 x26 x27 x37 x38 (wrap64 (x39 + 1)) x391000 x391001 x391002) else (none)) else (spec_MeantBy.l1 k x0 x6 x7 x8 x11 x25 x26 x27 x37 x38 (wrap64 (x39 + 1)) x391000 x391001 x391002)) else (none)) else (none)) else (none)) else (none)) else (spec_MeantBy.l0 k x0 x6 x7 x11 x25 x26 (wrap64 (x27 + 1)))
end
def spec_MeantBy.f (k : Nat) (l0 : List (S50)) (l1 : List (S47)) : Option ((List (S31)) × Bool) := (spec_GoodBinds.f k l0).bind fun t384 => (if t384 = true then ((spec_l17Events.f k l1).bind fun t385 => (spec_MeantBy.j0 k l0 l1 (!t385))) else (spec_MeantBy.j0 k l0 l1 true))
theorem spec_MeantBy.mono_l : ∀ k, (∀ y0 y1 y2, LeO (spec_MeantBy.j0 k y0 y1 y2) (spec_MeantBy.j0 (k + 1) y0 y1 y2)) ∧ (∀ y0 y1 y2 y3 y4 y5 y6, LeO (spec_MeantBy.l0 k y0 y1 y2 y3 y4 y5 y6) (spec_MeantBy.l0 (k + 1) y0 y1 y2 y3 y4 y5 y6)) ∧ (∀ y0 y1 y2 y3 y4 y5 y6 y7 y8 y9 y10 y11 y12 y13, LeO (spec_MeantBy.l1 k y0 y1 y2 y3 y4 y5 y6 y7 y8 y9 y10 y11 y12 y13) (spec_MeantBy.l1 (k + 1) y0 y1 y2 y3 y4 y5 y6 y7 y8 y9 y10 y11 y12 y13))
 | 0 => ⟨fun _ _ _ r h => by simp [spec_MeantBy.j0] at h, fun _ _ _ _ _ _ _ r h => by simp [spec_MeantBy.l0] at h, fun _ _ _ _ _ _ _ _ _ _ _ _ _ _ r h => by simp [spec_MeantBy.l1] at h⟩
 | k + 1 => by
  obtain ⟨ih0, ih1, ih2⟩ := spec_MeantBy.mono_l k
  refine ⟨?_, ?_, ?_⟩
  ·intro y0 y1 y2
   unfold spec_MeantBy.j0
   repeat' first
   | (with_reducible exact ih0 _ _ _)
   | (with_reducible exact ih1 _ _ _ _ _ _ _)
   | (with_reducible exact ih2 _ _ _ _ _ _ _ _ _ _ _ _ _ _)
   | (with_reducible exact spec_GoodBinds.mono _ _)
   | (with_reducible exact spec_l17Events.mono _ _)
   | (with_reducible exact spec_l17Holds.mono _ _ _)
   | (with_reducible exact spec_l17Press.mono _ _ _ _ _)
   | (with_reducible first | exact LeO.refl _ | exact LeO.none _ | refine LeO.ite ?_ ?_ | refine LeO.bind ?_ (fun _ => ?_))
   | exact ih0 _ _ _
   | exact ih1 _ _ _ _ _ _ _
   | exact ih2 _ _ _ _ _ _ _ _ _ _ _ _ _ _
   | exact spec_GoodBinds.mono _ _
   | exact spec_l17Events.mono _ _
   | exact spec_l17Holds.mono _ _ _
   | exact spec_l17Press.mono _ _ _ _ _ | exact LeO.none _ | refine LeO.ite ?_ ?_ | refine LeO.bind ?_ (fun _ => ?_)
  ·intro y0 y1 y2 y3 y4 y5 y6
   unfold spec_MeantBy.l0
   repeat' first
   | (with_reducible exact ih0 _ _ _)
   | (with_reducible exact ih1 _ _ _ _ _ _ _)
   | (with_reducible exact ih2 _ _ _ _ _ _ _ _ _ _ _ _ _ _)
   | (with_reducible exact spec_GoodBinds.mono _ _)
   | (with_reducible exact spec_l17Events.mono _ _)
   | (with_reducible exact spec_l17Holds.mono _ _ _)
   | (with_reducible exact spec_l17Press.mono _ _ _ _ _)
   | (with_reducible first | exact LeO.refl _ | exact LeO.none _ | refine LeO.ite ?_ ?_ | refine LeO.bind ?_ (fun _ => ?_))
   | exact ih0 _ _ _
   | exact ih1 _ _ _ _ _ _ _
   | exact ih2 _ _ _ _ _ _ _ _ _ _ _ _ _ _
   | exact spec_GoodBinds.mono _ _
   | exact spec_l17Events.mono _ _
   | exact spec_l17Holds.mono _ _ _
   | exact spec_l17Press.mono _ _ _ _ _ | exact LeO.none _ | refine LeO.ite ?_ ?_ | refine LeO.bind ?_ (fun _ => ?_)
  ·intro y0 y1 y2 y3 y4 y5 y6 y7 y8 y9 y10 y11 y12 y13
   unfold spec_MeantBy.l1
   repeat' first
   | (with_reducible exact ih0 _ _ _)
   | (with_reducible exact ih1 _ _ _ _ _ _ _)
   | (with_reducible exact ih2 _ _ _ _ _ _ _ _ _ _ _ _ _ _)
   | (with_reducible exact spec_GoodBinds.mono _ _)
   | (with_reducible exact spec_l17Events.mono _ _)
   | (with_reducible exact spec_l17Holds.mono _ _ _)
   | (with_reducible exact spec_l17Press.mono _ _ _ _ _)
   | (with_reducible first | exact LeO.refl _ | exact LeO.none _ | refine LeO.ite ?_ ?_ | refine LeO.bind ?_ (fun _ => ?_))
   | exact ih0 _ _ _
   | exact ih1 _ _ _ _ _ _ _
   | exact ih2 _ _ _ _ _ _ _ _ _ _ _ _ _ _
   | exact spec_GoodBinds.mono _ _
   | exact spec_l17Events.mono _ _
   | exact spec_l17Holds.mono _ _ _
   | exact spec_l17Press.mono _ _ _ _ _ | exact LeO.none _ | refine LeO.ite ?_ ?_ | refine LeO.bind ?_ (fun _ => ?_)
theorem spec_MeantBy.mono : ∀ a0 a1 k, LeO (spec_MeantBy.f k a0 a1) (spec_MeantBy.f (k + 1) a0 a1) := by
 intro a0 a1 k
 obtain ⟨ih0, ih1, ih2⟩ := spec_MeantBy.mono_l k
 unfold spec_MeantBy.f
 repeat' first
   | (with_reducible exact ih0 _ _ _)
   | (with_reducible exact ih1 _ _ _ _ _ _ _)
   | (with_reducible exact ih2 _ _ _ _ _ _ _ _ _ _ _ _ _ _)
   | (with_reducible exact spec_GoodBinds.mono _ _)
   | (with_reducible exact spec_l17Events.mono _ _)
   | (with_reducible exact spec_l17Holds.mono _ _ _)
   | (with_reducible exact spec_l17Press.mono _ _ _ _ _)
   | (with_reducible first | exact LeO.refl _ | exact LeO.none _ | refine LeO.ite ?_ ?_ | refine LeO.bind ?_ (fun _ => ?_))
   | exact ih0 _ _ _
   | exact ih1 _ _ _ _ _ _ _
   | exact ih2 _ _ _ _ _ _ _ _ _ _ _ _ _ _
   | exact spec_GoodBinds.mono _ _
   | exact spec_l17Events.mono _ _
   | exact spec_l17Holds.mono _ _ _
   | exact spec_l17Press.mono _ _ _ _ _ | exact LeO.none _ | refine LeO.ite ?_ ?_ | refine LeO.bind ?_ (fun _ => ?_)
def spec_MeantBy.T14 : Bool × List (List Nat × List Nat) := (true, [([], []), ([], []), ([0, 1], [0, 1]), ([2], [2]), ([], []), ([], []), ([4, 5], [4, 5]), ([6], [6]), ([3, 7], [3, 7])])
def spec_MeantBy.B14 : List Nat := [0, 0, 3, 7, 0, 0, 48, 112, 255]
theorem spec_MeantBy.tab14 : rtab .any (opsOf Try.f6 14) = spec_MeantBy.T14 := by kernel_rfl
theorem spec_MeantBy.bits14 : waitsOk spec_MeantBy.T14.2 spec_MeantBy.B14 = true := by kernel_rfl
def spec_MeantBy.T15 : Bool × List (List Nat × List Nat) := (true, [([], []), ([], []), ([1], [1]), ([], []), ([3], [3]), ([], []), ([], []), ([5, 6], [5, 6]), ([7], [7]), ([2, 4, 8], [2, 4, 8]), ([9], [9]), ([0, 10], [0, 10]), ([11, 11, 0, 1, 2, 3, 4, 5, 6, 7, 8, 9, 10, 11], [0, 11])])
def spec_MeantBy.B15 : List Nat := [0, 0, 2, 0, 8, 0, 0, 96, 224, 510, 1022, 2047, 4095]
theorem spec_MeantBy.tab15 : rtab .any (opsOf Try.f6 15) = spec_MeantBy.T15 := by kernel_rfl
theorem spec_MeantBy.bits15 : waitsOk spec_MeantBy.T15.2 spec_MeantBy.B15 = true := by kernel_rfl
set_option maxHeartbeats 8000000 in
set_option maxRecDepth 100000 in
theorem spec_MeantBy.calls (k : Nat) (A0 : Option Addr) (c0 : Nat) (l0 : List (S50)) (A1 : Option Addr) (c1 : Nat) (l1 : List (S47)) (r1 : List (S31)) (r2 : Bool) (w : World) (hr0 : Kd.C k50 w A0 l0.length l0) (hc0 : l0.length ≤ c0) (hr1 : Kd.C k47 w A1 l1.length l1) (hc1 : l1.length ≤ c1) (h : spec_MeantBy.f k l0 l1 = some (r1, r2)) :
  Calls Try.prog 6 #[.slice A0 l0.length c0, .slice A1 l1.length c1] w fun e w' => ∃ v0_ : Value, e = .returned (.tuple #[v0_, .bool r2]) ∧ Kd.R k31 31 w' w.heap.size (fun _ => True) v0_ r1 ∧ Below w.heap.size w w' := by
 have hu47 := Try.underlying47
 have hu50 := Try.underlying50
 have hu31 := Try.underlying31
 have HR0 := Aside0.mk hr0
 have HC0 := Aside0.mk hc0
 clear hr0 hc0
 have HR1 := Aside0.mk hr1
 have HC1 := Aside0.mk hc1
 clear hr1 hc1
 have HB := Aside0.mk (Below.refl w.heap.size w)
 have H : ((spec_GoodBinds.f k l0).bind fun t384 => (if t384 = true then ((spec_l17Events.f k l1).bind fun t385 => (spec_MeantBy.j0 k l0 l1 (!t385))) else (spec_MeantBy.j0 k l0 l1 true))) = some (r1, r2) := h
 clear h
 have HC3 := Aside0.mk H
 clear H
 go_enter Try.func6, Try.ntmps6
 go_upto_region 1 with (fail)
 go_cut [21] (fun v21 wc => ∃ (kq : Nat) (x21_2 : Bool), v21 = .bool x21_2 ∧ Aside0 (spec_MeantBy.j0 kq l0 l1 x21_2 = some (r1, r2)) ∧ Aside0 (kq ≤ k) ∧ Aside0 (Below w.heap.size w wc))
 case first =>
  have H := HC3.out
  clear HC3
  replace H := Option.bind_eq_some_iff.mp H
  obtain ⟨t384, A40, H⟩ := H
  replace H : (if t384 = true then ((spec_l17Events.f k l1).bind fun t385 => (spec_MeantBy.j0 k l0 l1 (!t385))) else (spec_MeantBy.j0 k l0 l1 true)) = some (r1, r2) := H
  have A4 := Aside0.mk A40
  clear A40
  by_cases c5 : t384 = true
  ·subst c5
   have H1 : ((spec_l17Events.f k l1).bind fun t385 => (spec_MeantBy.j0 k l0 l1 (!t385))) = some (r1, r2) := by rw [if_pos rfl] at H; exact H
   clear H
   have H := H1
   clear H1
   replace H := Option.bind_eq_some_iff.mp H
   obtain ⟨t385, A60, H⟩ := H
   replace H : (spec_MeantBy.j0 k l0 l1 (!t385)) = some (r1, r2) := H
   have A6 := Aside0.mk A60
   clear A60
   have H' := Aside0.mk H
   clear H
   go_wp2_with (first | ((with_reducible refine gate_callee (f := 12) rfl ?_); refine goesL_ (some 15) rfl rfl Try.func12 (by kernel_rfl) rfl #[.slice A0 l0.length c0] rfl aE ?_; (with_reducible refine (spec_GoodBinds.calls k _ _ l0 true _ ?side1 ?side2 A4.out).mono ?_); (case side1 => exact cU (Kd.C_below HR0.out HB.out)); (case side2 => exact HC0.out); rintro e w7 ⟨rfl, hb⟩; refine ⟨_, rfl, ?_⟩; replace HB := bH (lU) hb; (try clear hb)) | (go_at_call 13; (with_reducible refine (spec_l17Events.calls k _ _ l1 t385 _ ?side1 ?side2 A6.out).mono ?_); (case side1 => exact cU (Kd.C_below HR1.out HB.out)); (case side2 => exact HC1.out); rintro e w8 ⟨rfl, hb⟩; replace HB := bH (lU) hb; (try clear hb)))
   go_meet
   case rel => exact ⟨_, (!t385), tE, H', ⟨by first | omega | exact Nat.le_refl _⟩, ⟨by repeat (first | (with_reducible first | exact HB.out | apply below_alloc | apply pw_below_drewN | apply below_drew1) | exact HB.out)⟩⟩
  ·replace c5 := Bool.eq_false_iff.mpr c5
   subst c5
   have H1 : (spec_MeantBy.j0 k l0 l1 true) = some (r1, r2) := by rw [if_neg (show ¬ (false = true) by decide)] at H; exact H
   clear H
   have H := H1
   clear H1
   have H' := Aside0.mk H
   clear H
   go_wp2_with (first | ((with_reducible refine gate_callee (f := 12) rfl ?_); refine goesL_ (some 15) rfl rfl Try.func12 (by kernel_rfl) rfl #[.slice A0 l0.length c0] rfl aE ?_; (with_reducible refine (spec_GoodBinds.calls k _ _ l0 false _ ?side1 ?side2 A4.out).mono ?_); (case side1 => exact cU (Kd.C_below HR0.out HB.out)); (case side2 => exact HC0.out); rintro e w9 ⟨rfl, hb⟩; refine ⟨_, rfl, ?_⟩; replace HB := bH (lU) hb; (try clear hb)))
   go_meet
   case rel => exact ⟨_, (true), tE, H', ⟨by first | omega | exact Nat.le_refl _⟩, ⟨by repeat (first | (with_reducible first | exact HB.out | apply below_alloc | apply pw_below_drewN | apply below_drew1) | exact HB.out)⟩⟩
 case rest =>
  clear HC3
  try clear c1
  try clear p2
  try clear c5
  try clear c6
  obtain ⟨kq, x21_2, rfl, HA, HJ2, HB⟩ := hcut
  cases kq with
  | zero => exact absurd HA.out (by simp [spec_MeantBy.j0])
  | succ kj2 =>
   have H := HA.out
   clear HA
   simp only [spec_MeantBy.j0] at H
   by_cases c10 : x21_2 = true
   ·subst c10
    have H1 : (some (([] : List (S31)), false)) = some (r1, r2) := by rw [if_pos rfl] at H; exact H
    clear H
    have H := H1
    clear H1
    simp only [Option.some.injEq, Prod.mk.injEq] at H
    obtain ⟨rfl, rfl⟩ := H
    go_wp2
    go_ret2
    exact ⟨_, eE, by first | exact Kd.R_nil _ _ _ _ _ | exact Kd.N_nil _ _ _ _ _ | exact Kd.V_nil _ _ _ _ _ | exact Kd.Q_nil _ _ _ _ _ | exact Kd.S_nil _ _ _ _ _, lU⟩
   ·replace c10 := Bool.eq_false_iff.mpr c10
    subst c10
    have H1 : (if 0 ≤ (l0.length : Int) then (if ((l0.length : Int) : Int).toNat ≤ 281474976710656 then (spec_MeantBy.l0 kj2 l0 ([] : List (S31)) ([] : List Int) (List.replicate ((l0.length : Int) : Int).toNat false) l1 (l1.length : Int) 0) else (none)) else (none)) = some (r1, r2) := by rw [if_neg (show ¬ (false = true) by decide)] at H; exact H
    clear H
    have H := H1
    clear H1
    by_cases c11 : 0 ≤ (l0.length : Int)
    ·rw [if_pos c11] at H
     have c11b0 := eq_true c11
     have c11b1 : decide (0 ≤ (l0.length : Int)) = true := decide_eq_true c11
     clear c11
     by_cases c12 : ((l0.length : Int) : Int).toNat ≤ 281474976710656
     ·rw [if_pos c12] at H
      have c12b0 := eq_true c12
      have c12b1 : decide (((l0.length : Int) : Int).toNat ≤ 281474976710656) = true := decide_eq_true c12
      clear c12
      obtain ⟨y386, hy386⟩ : ∃ y_ : List Bool, y_ = (List.replicate ((l0.length : Int) : Int).toNat false) := ⟨_, rfl⟩
      replace H : (spec_MeantBy.l0 kj2 l0 ([] : List (S31)) ([] : List Int) y386 l1 (l1.length : Int) 0) = some (r1, r2) := by first | (rw [hy386]; with_reducible exact H) | (have H2_ := (Option.bind_some _ _).symm.trans H; rw [hy386]; with_reducible exact H2_) | (have H2_ := (Option.bind_some _ _).symm.trans H; with_reducible exact H2_) | with_reducible exact H | (rw [hy386]; exact H) | exact H
      have Ny386 := Aside0.mk hy386
      clear hy386
      have H' := Aside0.mk H
      clear H
      go_wp2_with (first | ((with_reducible refine gate_dst (N := 24) rfl ?_); refine Kd.R_make Kd.bool _ 4 rfl (N := 24) rfl 44 _ _ rfl (l0.length : Int) rfl rfl Try.underlying44 (.bool false) 1 info4 rfl (by decide) (by omega) false (ok := fun _ => True) (okp := fun _ => True) rfl (fun _ hk => hk) trivial (of_decide_eq_true hE) (Nat.le_trans (Nat.mul_le_mul_right _ (of_decide_eq_true hE : (l0.length : Int).toNat ≤ 281474976710656)) (by omega)) (Below.refl _ _) (Nat.le_refl _) ?_; intro v387 w13 ho14 hb hg_ hnew_; clear hg_ hnew_; (first | rw [← Ny386.out] at ho14 | (simp only [Int.reduceToNat] at ho14; rw [← Ny386.out] at ho14)); have HO388 := Aside0.mk (Kd.R_lower ho14 (below_size (lU))); replace HB := bH (lU) hb; clear hb ho14))
      (try simp only [Act.put, List.setIfInBounds_toArray, List.set_cons_zero, List.set_cons_succ])
      go_loopg [6, 7, 8, 27] kj2 (fun kq v6 v7 v8 v27 w' => ∃ (x6_2 : List (S31)) (x7_2 : List Int) (x8_2 : List Bool) (x27_2 : Int), v27 = .int .i64 x27_2 ∧ Aside0 (spec_MeantBy.l0 kq l0 x6_2 x7_2 x8_2 l1 (l1.length : Int) x27_2 = some (r1, r2)) ∧ Aside0 (kq ≤ kj2) ∧ Aside0 (Kd.R k31 31 w' w.heap.size (fun _ => True) v6 x6_2) ∧ Aside0 (Kd.R (Kd.int .i64) 3 w' w.heap.size (fun _ => True) v7 x7_2) ∧ Aside0 (Kd.R Kd.bool 4 w' w.heap.size (fun _ => True) v8 x8_2) ∧ Aside0 (Below w.heap.size w w'))
      case atStart => exact ⟨(([] : List (S31))), (([] : List Int)), (y386), (0), tE, H', ⟨Nat.le_refl _⟩, ⟨by first | exact Kd.R_nil _ _ _ _ _ | exact Kd.N_nil _ _ _ _ _ | exact Kd.V_nil _ _ _ _ _ | exact Kd.Q_nil _ _ _ _ _ | exact Kd.S_nil _ _ _ _ _⟩, ⟨by first | exact Kd.R_nil _ _ _ _ _ | exact Kd.N_nil _ _ _ _ _ | exact Kd.V_nil _ _ _ _ _ | exact Kd.Q_nil _ _ _ _ _ | exact Kd.S_nil _ _ _ _ _⟩, ⟨by (with_reducible repeat (first | apply Kd.R_alloc | apply Kd.R_drewN | apply Kd.R_drew)); exact HO388.out⟩, ⟨by repeat (first | (with_reducible first | exact HB.out | apply below_alloc | apply pw_below_drewN | apply below_drew1) | exact HB.out)⟩⟩
      case round =>
       clear H'
       try clear c1
       try clear p2
       try clear c5
       try clear c6
       try clear c10
       try clear c11
       try clear c11b0
       try clear c11b1
       try clear c12
       try clear c12b0
       try clear c12b1
       try clear p2
       obtain ⟨x6_2, x7_2, x8_2, x27_2, rfl, HA, HK2, HO_6, HO_7, HO_8, HB⟩ := hrel
       cases gk with
       | zero => exact absurd HA.out (by simp [spec_MeantBy.l0])
       | succ k2 =>
        have H := HA.out
        clear HA
        simp only [spec_MeantBy.l0] at H
        by_cases c15 : x27_2 < (l1.length : Int)
        ·rw [if_pos c15] at H
         have c15b0 : decide (x27_2 < (l1.length : Int)) = true := decide_eq_true c15
         clear c15
         by_cases c16 : 0 ≤ x27_2
         ·rw [if_pos c16] at H
          have c16b0 : decide (0 ≤ x27_2) = true := decide_eq_true c16
          clear c16
          by_cases c17 : x27_2 < (l1.length : Int)
          ·rw [if_pos c17] at H
           have c17b0 : decide (x27_2 < (l1.length : Int)) = true := decide_eq_true c17
           clear c17
           replace H := Option.bind_eq_some_iff.mp H
           obtain ⟨t391, A180, H⟩ := H
           replace H : ((spec_l17Holds.f k2 l0 t391).bind fun t394 => (spec_MeantBy.l1 k2 l0 x6_2 t391 x8_2 t394 l1 (l1.length : Int) x27_2 l0 (l0.length : Int) 0 ((rd_T47 l1 x27_2).f0) ((rd_T47 l1 x27_2).f1) ((rd_T47 l1 x27_2).f2))) = some (r1, r2) := H
           have A18 := Aside0.mk A180
           clear A180
           replace H := Option.bind_eq_some_iff.mp H
           obtain ⟨t394, A190, H⟩ := H
           replace H : (spec_MeantBy.l1 k2 l0 x6_2 t391 x8_2 t394 l1 (l1.length : Int) x27_2 l0 (l0.length : Int) 0 ((rd_T47 l1 x27_2).f0) ((rd_T47 l1 x27_2).f1) ((rd_T47 l1 x27_2).f2)) = some (r1, r2) := H
           have A19 := Aside0.mk A190
           clear A190
           have H' := Aside0.mk H
           clear H
           have p389 : 0 ≤ (x27_2 : Int) := of_decide_eq_true hE
           have q389 : x27_2 < (l1.length : Int) := of_decide_eq_true hE
           obtain ⟨ad389, e389, hx389_0, hx389_1, hx389_2⟩ := at_T47 HR1.out x27_2 p389 q389
           cases e389
           replace hx389_0 := (HB.out.cell (World.block_lt_of_cell? w _ hx389_0)).trans hx389_0
           replace hx389_1 := (HB.out.cell (World.block_lt_of_cell? w _ hx389_1)).trans hx389_1
           replace hx389_2 := (HB.out.cell (World.block_lt_of_cell? w _ hx389_2)).trans hx389_2
           replace p389 := eq_true p389
           replace q389 := eq_true q389
           go_wp2_with (first | ((with_reducible refine gate_dst (N := 10) rfl ?_); refine box_event rfl (N := 10) rfl (cs := #[.int .i64 0, .int .i64 0, .bool false]) (t := 47) sE ?_; intro gb390 hg w20 hbox hb; replace HO_6 := Aside0.mk (Kd.R_below (rU HO_6.out) hb); replace HO_7 := Aside0.mk (Kd.R_below (rU HO_7.out) hb); replace HO_8 := Aside0.mk (Kd.R_below (rU HO_8.out) hb); have BK390 := Aside0.mk hbox; have GW390 := gS w hg (lU); have GE390 := gS w hg (lU); replace HB := bH (lU) hb; clear hb hbox hg; have hcz21_0 := cz BK390 0 (.int .i64 0); have hcz21_1 := cz BK390 1 (.int .i64 0); have hcz21_2 := cz BK390 2 (.bool false); have hfz21_0 := fz BK390 0; have hfz21_1 := fz BK390 1; have hfz21_2 := fz BK390 2) | ((with_reducible refine gate_store (t := 47) (p := 10) rfl ?_); refine store_event (t := 47) (p := 10) (v := ?vo_w22) (w1 := (((w20.setCell ⟨gb390, 0, none⟩ (.int .i64 ((rd_T47 l1 x27_2).f0))).setCell ⟨gb390, 1, none⟩ (.int .i64 ((rd_T47 l1 x27_2).f1))).setCell ⟨gb390, 2, none⟩ (.bool ((rd_T47 l1 x27_2).f2)))) ?hg ?ho ?hn ?hr ?_; (case ho => rfl); (case hg => rfl); (case hn => rfl); (case hr => first | (go_simp; done) | (go_simp; rfl) | (have hq0_ := (blk_cell BK390.out 0).trans (show _ = some _ from rfl); have hf0_ := blk_frozen BK390.out 0; have hq1_ := (blk_cell BK390.out 1).trans (show _ = some _ from rfl); have hf1_ := blk_frozen BK390.out 1; have hq2_ := (blk_cell BK390.out 2).trans (show _ = some _ from rfl); have hf2_ := blk_frozen BK390.out 2; first | (go_simp; done) | (go_simp; rfl))); intro w22 hw; replace HO_6 : Aside0 (Kd.R k31 31 w22 w.heap.size (fun _ => True) u6 x6_2) := ⟨(by rw [hw]; exact (by (with_reducible repeat (first | apply Kd.R_alloc | apply Kd.R_drewN | apply Kd.R_drew)); exact Kd.R_mono (Kd.R_far (p := ⟨gb390, 2, none⟩) (Kd.R_far (p := ⟨gb390, 1, none⟩) (Kd.R_far (p := ⟨gb390, 0, none⟩) (Kd.R_types HO_6.out BK390.out (by decide)) (fun _ hk => hk.2) (.int .i64 ((rd_T47 l1 x27_2).f0))) (fun _ hk => hk.2) (.int .i64 ((rd_T47 l1 x27_2).f1))) (fun _ hk => hk.2) (.bool ((rd_T47 l1 x27_2).f2))) (fun _ hk => trivial)))⟩; replace HO_7 : Aside0 (Kd.R (Kd.int .i64) 3 w22 w.heap.size (fun _ => True) u7 x7_2) := ⟨(by rw [hw]; exact (by (with_reducible repeat (first | apply Kd.R_alloc | apply Kd.R_drewN | apply Kd.R_drew)); exact Kd.R_mono (Kd.R_far (p := ⟨gb390, 2, none⟩) (Kd.R_far (p := ⟨gb390, 1, none⟩) (Kd.R_far (p := ⟨gb390, 0, none⟩) (Kd.R_types HO_7.out BK390.out (by decide)) (fun _ hk => hk.2) (.int .i64 ((rd_T47 l1 x27_2).f0))) (fun _ hk => hk.2) (.int .i64 ((rd_T47 l1 x27_2).f1))) (fun _ hk => hk.2) (.bool ((rd_T47 l1 x27_2).f2))) (fun _ hk => trivial)))⟩; replace HO_8 : Aside0 (Kd.R Kd.bool 4 w22 w.heap.size (fun _ => True) u8 x8_2) := ⟨(by rw [hw]; exact (by (with_reducible repeat (first | apply Kd.R_alloc | apply Kd.R_drewN | apply Kd.R_drew)); exact Kd.R_mono (Kd.R_far (p := ⟨gb390, 2, none⟩) (Kd.R_far (p := ⟨gb390, 1, none⟩) (Kd.R_far (p := ⟨gb390, 0, none⟩) (Kd.R_types HO_8.out BK390.out (by decide)) (fun _ hk => hk.2) (.int .i64 ((rd_T47 l1 x27_2).f0))) (fun _ hk => hk.2) (.int .i64 ((rd_T47 l1 x27_2).f1))) (fun _ hk => hk.2) (.bool ((rd_T47 l1 x27_2).f2))) (fun _ hk => trivial)))⟩; replace BK390 : Aside0 (w22.heap[gb390]? = some (.cells #[.int .i64 ((rd_T47 l1 x27_2).f0), .int .i64 ((rd_T47 l1 x27_2).f1), .bool ((rd_T47 l1 x27_2).f2)] 47 (0, 0))) := ⟨(by rw [hw]; exact (by refine bU ?_; refine blk_put (cs := #[.int .i64 ((rd_T47 l1 x27_2).f0), .int .i64 ((rd_T47 l1 x27_2).f1), .bool false]) ?_ 2 _ rfl; refine bU ?_; refine blk_put (cs := #[.int .i64 ((rd_T47 l1 x27_2).f0), .int .i64 0, .bool false]) ?_ 1 _ rfl; refine bU ?_; refine blk_put (cs := #[.int .i64 0, .int .i64 0, .bool false]) ?_ 0 _ rfl; refine bU ?_; exact BK390.out))⟩; replace HB : Aside0 (Below w.heap.size w w22) := ⟨(by rw [hw]; exact (lV1 GE390))⟩; clear hw; have hcz23_0 := cz BK390 0 (.int .i64 ((rd_T47 l1 x27_2).f0)); have hcz23_1 := cz BK390 1 (.int .i64 ((rd_T47 l1 x27_2).f1)); have hcz23_2 := cz BK390 2 (.bool ((rd_T47 l1 x27_2).f2)); have hfz23_0 := fz BK390 0; have hfz23_1 := fz BK390 1; have hfz23_2 := fz BK390 2; obtain ⟨Ao24, co24, eo24⟩ := Kd.R_slice HO_7.out; subst eo24) | ((with_reducible refine gate_callee (f := 14) rfl ?_); refine goesL_ (some 33) rfl rfl Try.func14 (by kernel_rfl) rfl #[.slice Ao24 x7_2.length co24, .agg #[.int .i64 ((rd_T47 l1 x27_2).f0), .int .i64 ((rd_T47 l1 x27_2).f1), .bool ((rd_T47 l1 x27_2).f2)]] rfl aE ?_; (with_reducible refine (spec_l17Press.calls k2 (fun k_ => some k_ = (.slice Ao24 x7_2.length co24 : Value).ownBlock) (.slice Ao24 x7_2.length co24) x7_2 ((rd_T47 l1 x27_2).f0) ((rd_T47 l1 x27_2).f1) ((rd_T47 l1 x27_2).f2) t391 w _ ?side1 ?side2 A18.out).mono ?_); (case side1 => repeat (first | (with_reducible first | exact HB.out | apply below_alloc | apply pw_below_drewN | apply below_drew1 | refine below_set ?_ GE390.out) | exact HB.out)); (case side2 => exact Kd.R_tight rfl HO_7.out); rintro e w25 ⟨v392, rfl, ho0, hb, hkp⟩; refine ⟨_, rfl, ?_⟩; replace HO_6 := Aside0.mk (Kd.R_mono (ok' := fun k_ => True) (Kd.R_keptB ((Kd.R_apart' HO_6.out (Kd.R_typed HO_7.out) (by decide))) hkp (fun k_ hk_ hs_ => (hk_.2) hs_)) (fun k_ hk_ => trivial)); replace HO_8 := Aside0.mk (Kd.R_mono (ok' := fun k_ => True) (Kd.R_keptB ((Kd.R_apart' HO_8.out (Kd.R_typed HO_7.out) (by decide))) hkp (fun k_ hk_ hs_ => (hk_.2) hs_)) (fun k_ hk_ => trivial)); replace BK390 := Aside0.mk (blk_kept (bV BK390) hkp (fun hs_ => (fun e_ => (Kd.R_ne HO_7.out BK390.out (by decide)) e_) hs_)); have HO393 := Aside0.mk (Kd.R_mono (ok' := fun k_ => True) ho0 (fun k_ hk_ => trivial)); replace HB := Aside0.mk hb; clear HO_7; (try clear hb); (try clear hkp); (try clear hg_); (try clear hp_); (try clear ho0); obtain ⟨Ao26, co26, eo26⟩ := Kd.R_slice HO393.out; subst eo26) | ((with_reducible refine gate_callee (f := 15) rfl ?_); refine goesL_ (some 36) rfl rfl Try.func15 (by kernel_rfl) rfl #[.slice A0 l0.length c0, .slice Ao26 t391.length co26] rfl aE ?_; (with_reducible refine (spec_l17Holds.calls k2 _ _ l0 _ _ t391 t394 _ ?side1 ?side2 ?side3 ?side4 A19.out).mono ?_); (case side1 => exact cU (Kd.C_below HR0.out HB.out)); (case side2 => exact HC0.out); (case side3 => exact cU (Kd.R_reads' HO393.out).2.2); (case side4 => exact (Kd.R_reads' HO393.out).2.1); rintro e w27 ⟨v395, rfl, ho0, hb⟩; refine ⟨_, rfl, ?_⟩; replace HO_6 := Aside0.mk (Kd.R_below (rU HO_6.out) hb); replace HO393 := Aside0.mk (Kd.R_below (rU HO393.out) hb); have HO396 := Aside0.mk (Kd.R_lower (Kd.R_new' ho0 (Kd.R_lt (rU HO_8.out))) (below_size (lV1 GE390))); replace HO_8 := Aside0.mk (Kd.R_elder' (rU HO_8.out) (Kd.R_base ho0) hb); replace BK390 := bB (bV BK390) hb; replace HB := bH (lV1 GE390) hb; (try clear hb); (try clear ho0)))
           (try simp only [Act.put, List.setIfInBounds_toArray, List.set_cons_zero, List.set_cons_succ])
           go_loopg [6, 39] k2 (fun kq v6 v39 w' => ∃ (x6_3 : List (S31)) (x39_3 : Int), v39 = .int .i64 x39_3 ∧ Aside0 (spec_MeantBy.l1 kq l0 x6_3 t391 x8_2 t394 l1 (l1.length : Int) x27_2 l0 (l0.length : Int) x39_3 ((rd_T47 l1 x27_2).f0) ((rd_T47 l1 x27_2).f1) ((rd_T47 l1 x27_2).f2) = some (r1, r2)) ∧ Aside0 (kq ≤ k2) ∧ Aside0 (Kd.R k31 31 w' w.heap.size (fun _ => True) v6 x6_3) ∧ Aside0 (Kd.R (Kd.int .i64) 3 w' w.heap.size (fun _ => True) (.slice Ao26 t391.length co26) t391) ∧ Aside0 (Kd.R Kd.bool 4 w' w.heap.size (fun k_ => some k_ ≠ (v395 : Value).ownBlock) u8 x8_2) ∧ Aside0 (Kd.R Kd.bool 4 w' w.heap.size (fun k_ => some k_ ≠ (u8 : Value).ownBlock) v395 t394) ∧ Aside0 (w'.heap[gb390]? = some (.cells #[.int .i64 ((rd_T47 l1 x27_2).f0), .int .i64 ((rd_T47 l1 x27_2).f1), .bool ((rd_T47 l1 x27_2).f2)] 47 (0, 0))) ∧ Aside0 (Below w.heap.size w w'))
           case atStart => exact ⟨(x6_2), (0), tE, H', ⟨Nat.le_refl _⟩, ⟨by (with_reducible repeat (first | apply Kd.R_alloc | apply Kd.R_drewN | apply Kd.R_drew)); exact HO_6.out⟩, ⟨by (with_reducible repeat (first | apply Kd.R_alloc | apply Kd.R_drewN | apply Kd.R_drew)); exact HO393.out⟩, ⟨by (with_reducible repeat (first | apply Kd.R_alloc | apply Kd.R_drewN | apply Kd.R_drew)); exact Kd.R_mono HO_8.out (fun _ hk => hk.2)⟩, ⟨by (with_reducible repeat (first | apply Kd.R_alloc | apply Kd.R_drewN | apply Kd.R_drew)); exact Kd.R_mono HO396.out (fun _ hk => hk.2)⟩, ⟨by refine bU ?_; exact BK390.out⟩, ⟨by repeat (first | (with_reducible first | exact HB.out | apply below_alloc | apply pw_below_drewN | apply below_drew1 | refine below_set ?_ GE390.out) | exact HB.out)⟩⟩
           case round =>
            clear H'
            try clear c1
            try clear q1
            try clear p2
            try clear q2
            try clear hf2
            try clear p3
            try clear q3
            try clear hx3
            try clear c5
            try clear c6
            try clear c10
            try clear c11
            try clear c11b0
            try clear c11b1
            try clear c12
            try clear c12b0
            try clear c12b1
            try clear c14
            try clear c15
            try clear c15b0
            try clear c16
            try clear c16b0
            try clear c17
            try clear c17b0
            try clear hcz21_0
            try clear hcz21_1
            try clear hcz21_2
            try clear hcz23_0
            try clear hcz23_1
            try clear hcz23_2
            try clear hfz21_0
            try clear hfz21_1
            try clear hfz21_2
            try clear hfz23_0
            try clear hfz23_1
            try clear hfz23_2
            try clear hx389_0
            try clear hx389_1
            try clear hx389_2
            try clear p2
            try clear p389
            try clear q389
            obtain ⟨x6_3, x39_3, rfl, HA, HK3, HO_6, HO_7, HO_8, HO_11, BK390, HB⟩ := hrel
            cases gk with
            | zero => exact absurd HA.out (by simp [spec_MeantBy.l1])
            | succ k3 =>
             have H := HA.out
             clear HA
             simp only [spec_MeantBy.l1] at H
             by_cases c28 : x39_3 < (l0.length : Int)
             ·rw [if_pos c28] at H
              have c28b0 : decide (x39_3 < (l0.length : Int)) = true := decide_eq_true c28
              clear c28
              by_cases c29 : 0 ≤ x39_3
              ·rw [if_pos c29] at H
               have c29b0 : decide (0 ≤ x39_3) = true := decide_eq_true c29
               clear c29
               by_cases c30 : x39_3 < (l0.length : Int)
               ·rw [if_pos c30] at H
                have c30b0 : decide (x39_3 < (l0.length : Int)) = true := decide_eq_true c30
                clear c30
                by_cases c31 : x39_3 < (t394.length : Int)
                ·rw [if_pos c31] at H
                 have c31b0 : decide (x39_3 < (t394.length : Int)) = true := decide_eq_true c31
                 clear c31
                 by_cases c32 : x39_3 < (x8_2.length : Int)
                 ·rw [if_pos c32] at H
                  have c32b0 : decide (x39_3 < (x8_2.length : Int)) = true := decide_eq_true c32
                  clear c32
                  by_cases c33 : ((rdOf false t394 x39_3) != (rdOf false x8_2 x39_3)) = true
                  ·rw [if_pos c33] at H
                   have c33b0 : ((rdOf false t394 x39_3) != (rdOf false x8_2 x39_3)) = true := c33
                   (try (have c33b1 : decide ((rdOf false t394 x39_3) = (rdOf false x8_2 x39_3)) = false := by simpa using c33))
                   (try (have c33b2 : ((rdOf false t394 x39_3) == (rdOf false x8_2 x39_3)) = false := by simpa using c33))
                   (try (have c33b3 : ¬ ((rdOf false t394 x39_3) = (rdOf false x8_2 x39_3)) := by simpa using c33))
                   clear c33
                   by_cases c34 : x6_3.length < 4398046511104
                   ·rw [if_pos c34] at H
                    have LMc34 := Aside0.mk c34
                    clear c34
                    obtain ⟨y402, hy402⟩ : ∃ y_ : List (S31), y_ = (x6_3 ++ [(⟨((rd_T47 l1 x27_2).f0), (rd_T50 l0 x39_3).f0, rdOf false t394 x39_3⟩ : S31)]) := ⟨_, rfl⟩
                    replace H : (spec_MeantBy.l1 k3 l0 y402 t391 x8_2 t394 l1 (l1.length : Int) x27_2 l0 (l0.length : Int) (wrap64 (x39_3 + 1)) ((rd_T47 l1 x27_2).f0) ((rd_T47 l1 x27_2).f1) ((rd_T47 l1 x27_2).f2)) = some (r1, r2) := by first | (rw [hy402]; with_reducible exact H) | (have H2_ := (Option.bind_some _ _).symm.trans H; rw [hy402]; with_reducible exact H2_) | (have H2_ := (Option.bind_some _ _).symm.trans H; with_reducible exact H2_) | with_reducible exact H | (rw [hy402]; exact H) | exact H
                    have Ny402 := Aside0.mk hy402
                    clear hy402
                    have H' := Aside0.mk H
                    clear H
                    have p397 : 0 ≤ (x39_3 : Int) := of_decide_eq_true hE
                    have q397 : x39_3 < (l0.length : Int) := of_decide_eq_true hE
                    obtain ⟨ad397, A397_1, c397_1, e397, hx397_0, hx397_1, hl397_1, hi397_1⟩ := at_T50 HR0.out x39_3 p397 q397
                    cases e397
                    replace hx397_0 := (HB.out.cell (World.block_lt_of_cell? w _ hx397_0)).trans hx397_0
                    replace hx397_1 := (HB.out.cell (World.block_lt_of_cell? w _ hx397_1)).trans hx397_1
                    have HR397_1 := Aside0.mk hi397_1
                    have HC397_1 := Aside0.mk hl397_1
                    clear hi397_1 hl397_1
                    replace p397 := eq_true p397
                    replace q397 := eq_true q397
                    try go_wp2_with (first | ((with_reducible refine gate_dst (N := 13) rfl ?_); refine box_event rfl (N := 13) rfl (cs := #[.string (⟨#[]⟩ : ByteArray), .slice none 0 0]) (t := 50) sE ?_; intro gb398 hg w35 hbox hb; replace HO_6 := Aside0.mk (Kd.R_below (rU HO_6.out) hb); replace HO_7 := Aside0.mk (Kd.R_below (rU HO_7.out) hb); replace HO_8 := Aside0.mk (Kd.R_below (rU HO_8.out) hb); replace HO_11 := Aside0.mk (Kd.R_below (rU HO_11.out) hb); have BK398 := Aside0.mk hbox; have GW398 := gS w hg (lV1 GE390); have GE398 := gS w hg (lV1 GE390); replace HB := bH (lV1 GE390) hb; have NB390_398 := nL hg (bV BK390); have NB398_390 := nG hg (bV BK390); replace BK390 := bB (bV BK390) hb; clear hb hbox hg; have hnb36 := NB398_390.out; have hnc36 := NB390_398.out; have hcz37_0 := cz BK398 0 (.string (⟨#[]⟩ : ByteArray)); have hcz37_1 := cz BK398 1 (.slice none 0 0); have hfz37_0 := fz BK398 0; have hfz37_1 := fz BK398 1) | ((with_reducible refine gate_store (t := 50) (p := 13) rfl ?_); refine store_event (t := 50) (p := 13) (v := ?vo_w38) (w1 := ((w35.setCell ⟨gb398, 0, none⟩ (.string ((rd_T50 l0 x39_3).f0))).setCell ⟨gb398, 1, none⟩ (.slice A397_1 ((rd_T50 l0 x39_3).f1).length c397_1))) ?hg ?ho ?hn ?hr ?_; (case ho => rfl); (case hg => rfl); (case hn => rfl); (case hr => first | (go_simp; done) | (go_simp; rfl) | (have hq0_ := (blk_cell BK398.out 0).trans (show _ = some _ from rfl); have hf0_ := blk_frozen BK398.out 0; have hq1_ := (blk_cell BK398.out 1).trans (show _ = some _ from rfl); have hf1_ := blk_frozen BK398.out 1; first | (go_simp; done) | (go_simp; rfl))); intro w38 hw; replace HO_6 : Aside0 (Kd.R k31 31 w38 w.heap.size (fun _ => True) u6 x6_3) := ⟨(by rw [hw]; exact (by (with_reducible repeat (first | apply Kd.R_alloc | apply Kd.R_drewN | apply Kd.R_drew)); exact Kd.R_mono (Kd.R_far (p := ⟨gb398, 1, none⟩) (Kd.R_far (p := ⟨gb398, 0, none⟩) (Kd.R_types HO_6.out BK398.out (by decide)) (fun _ hk => hk.2) (.string ((rd_T50 l0 x39_3).f0))) (fun _ hk => hk.2) (.slice A397_1 ((rd_T50 l0 x39_3).f1).length c397_1)) (fun _ hk => trivial)))⟩; replace HO_7 : Aside0 (Kd.R (Kd.int .i64) 3 w38 w.heap.size (fun _ => True) (.slice Ao26 t391.length co26) t391) := ⟨(by rw [hw]; exact (by (with_reducible repeat (first | apply Kd.R_alloc | apply Kd.R_drewN | apply Kd.R_drew)); exact Kd.R_mono (Kd.R_far (p := ⟨gb398, 1, none⟩) (Kd.R_far (p := ⟨gb398, 0, none⟩) (Kd.R_types HO_7.out BK398.out (by decide)) (fun _ hk => hk.2) (.string ((rd_T50 l0 x39_3).f0))) (fun _ hk => hk.2) (.slice A397_1 ((rd_T50 l0 x39_3).f1).length c397_1)) (fun _ hk => trivial)))⟩; replace HO_8 : Aside0 (Kd.R Kd.bool 4 w38 w.heap.size (fun k_ => some k_ ≠ (v395 : Value).ownBlock) u8 x8_2) := ⟨(by rw [hw]; exact (by (with_reducible repeat (first | apply Kd.R_alloc | apply Kd.R_drewN | apply Kd.R_drew)); exact Kd.R_mono (Kd.R_far (p := ⟨gb398, 1, none⟩) (Kd.R_far (p := ⟨gb398, 0, none⟩) (Kd.R_types HO_8.out BK398.out (by decide)) (fun _ hk => hk.2) (.string ((rd_T50 l0 x39_3).f0))) (fun _ hk => hk.2) (.slice A397_1 ((rd_T50 l0 x39_3).f1).length c397_1)) (fun _ hk => hk.1)))⟩; replace HO_11 : Aside0 (Kd.R Kd.bool 4 w38 w.heap.size (fun k_ => some k_ ≠ (u8 : Value).ownBlock) v395 t394) := ⟨(by rw [hw]; exact (by (with_reducible repeat (first | apply Kd.R_alloc | apply Kd.R_drewN | apply Kd.R_drew)); exact Kd.R_mono (Kd.R_far (p := ⟨gb398, 1, none⟩) (Kd.R_far (p := ⟨gb398, 0, none⟩) (Kd.R_types HO_11.out BK398.out (by decide)) (fun _ hk => hk.2) (.string ((rd_T50 l0 x39_3).f0))) (fun _ hk => hk.2) (.slice A397_1 ((rd_T50 l0 x39_3).f1).length c397_1)) (fun _ hk => hk.1)))⟩; replace BK390 : Aside0 (w38.heap[gb390]? = some (.cells #[.int .i64 ((rd_T47 l1 x27_2).f0), .int .i64 ((rd_T47 l1 x27_2).f1), .bool ((rd_T47 l1 x27_2).f2)] 47 (0, 0))) := ⟨(by rw [hw]; exact (bG NB390_398 BK390))⟩; replace BK398 : Aside0 (w38.heap[gb398]? = some (.cells #[.string ((rd_T50 l0 x39_3).f0), .slice A397_1 ((rd_T50 l0 x39_3).f1).length c397_1] 50 (0, 0))) := ⟨(by rw [hw]; exact (by refine bU ?_; refine blk_put (cs := #[.string ((rd_T50 l0 x39_3).f0), .slice none 0 0]) ?_ 1 _ rfl; refine bU ?_; refine blk_put (cs := #[.string (⟨#[]⟩ : ByteArray), .slice none 0 0]) ?_ 0 _ rfl; refine bU ?_; exact BK398.out))⟩; replace HB : Aside0 (Below w.heap.size w w38) := ⟨(by rw [hw]; exact (lV2 GE390 GE398))⟩; clear hw))
                    replace HO_6 := Aside0.mk (Kd.R_drew HO_6.out)
                    replace HO_7 := Aside0.mk (Kd.R_drew HO_7.out)
                    replace HO_8 := Aside0.mk (Kd.R_drew HO_8.out)
                    replace HO_11 := Aside0.mk (Kd.R_drew HO_11.out)
                    replace BK390 := Aside0.mk (blk_drew BK390.out)
                    replace BK398 := Aside0.mk (blk_drew BK398.out)
                    replace HB := Aside0.mk (below_drew1 HB.out)
                    obtain ⟨Ao40, co40, eo40⟩ := Kd.R_slice HO_11.out
                    (first | subst eo40 | (injection eo40 with f1_ f2_ f3_; have f4_ := f1_.symm; have f5_ := f3_.symm; clear f1_ f2_ f3_; subst f4_; subst f5_))
                    have p399 : 0 ≤ (x39_3 : Int) := of_decide_eq_true hE
                    have q399 : x39_3 < (t394.length : Int) := of_decide_eq_true hE
                    obtain ⟨ad399, e399, hx399_0⟩ := Kd.at_bool (Kd.R_reads' HO_11.out).2.2 x39_3 p399 q399
                    cases e399
                    replace p399 := eq_true p399
                    replace q399 := eq_true q399
                    obtain ⟨Ao41, co41, eo41⟩ := Kd.R_slice HO_8.out
                    (first | subst eo41 | (injection eo41 with f1_ f2_ f3_; have f4_ := f1_.symm; have f5_ := f3_.symm; clear f1_ f2_ f3_; subst f4_; subst f5_))
                    have p400 : 0 ≤ (x39_3 : Int) := of_decide_eq_true hE
                    have q400 : x39_3 < (x8_2.length : Int) := of_decide_eq_true hE
                    obtain ⟨ad400, e400, hx400_0⟩ := Kd.at_bool (Kd.R_reads' HO_8.out).2.2 x39_3 p400 q400
                    cases e400
                    replace p400 := eq_true p400
                    replace q400 := eq_true q400
                    refine start_ (n := 9) (S := fun w' => w'.cell? (ad399.add (x39_3).toNat) = some (.bool (rdOf false t394 x39_3)) ∧ w'.cell? (ad400.add (x39_3).toNat) = some (.bool (rdOf false x8_2 x39_3))) (ds := []) #[false, false, false, false, false, false, false, false, false] (by kernel_rfl) rfl rfl ⟨hx399_0, hx400_0⟩ (fun hHeld => ?_); refine with_tabW spec_MeantBy.tab14 spec_MeantBy.bits14 (fun HT_ HW_ => ?_)
                    generalize w38.drew = w39 at HO_6 HO_7 HO_8 HO_11 BK390 BK398 HB hx399_0 hx400_0 hHeld ⊢
                    refine pureA 0 44 (bz 9 1) rfl rfl (any_of HT_.out (by kernel_rfl)) ?_
                    refine pureA 1 45 (bz 9 3) rfl rfl (any_of HT_.out (by kernel_rfl)) ?_
                    refine pureA 2 46 (bz 9 7) rfl rfl (any_of HT_.out (by kernel_rfl)) ?_
                    refine pureA 4 48 (bz 9 23) rfl rfl (any_of HT_.out (by kernel_rfl)) ?_
                    refine pureA 5 49 (bz 9 55) rfl rfl (any_of HT_.out (by kernel_rfl)) ?_
                    refine pureA 6 50 (bz 9 119) rfl rfl (any_of HT_.out (by kernel_rfl)) ?_
                    refine takeA 3 47 (bz 9 127) rfl rfl (take_ofW HT_.out HW_.out (by kernel_rfl)) hHeld (by rintro w' ⟨s0, s1⟩; go_simp; with_reducible rfl) ?_
                    refine takeA 7 51 (bz 9 255) rfl rfl (take_ofW HT_.out HW_.out (by kernel_rfl)) hHeld (by rintro w' ⟨s0, s1⟩; go_simp; with_reducible rfl) ?_
                    refine pureA 8 52 (bz 9 511) rfl rfl (any_of HT_.out (by kernel_rfl)) ?_
                    refine done_ (done_of HT_.out (by kernel_rfl)) ?_
                    try go_wp2
                    replace HO_6 := Aside0.mk (Kd.R_drew HO_6.out)
                    replace HO_7 := Aside0.mk (Kd.R_drew HO_7.out)
                    replace HO_8 := Aside0.mk (Kd.R_drew HO_8.out)
                    replace HO_11 := Aside0.mk (Kd.R_drew HO_11.out)
                    replace BK390 := Aside0.mk (blk_drew BK390.out)
                    replace BK398 := Aside0.mk (blk_drew BK398.out)
                    replace HB := Aside0.mk (below_drew1 HB.out)
                    have p401 : 0 ≤ (x39_3 : Int) := of_decide_eq_true hE
                    have q401 : x39_3 < (t394.length : Int) := of_decide_eq_true hE
                    obtain ⟨ad401, e401, hx401_0⟩ := Kd.at_bool (Kd.R_reads' HO_11.out).2.2 x39_3 p401 q401
                    obtain rfl : ad399 = ad401 := (by injection e401)
                    replace p401 := eq_true p401
                    replace q401 := eq_true q401
                    refine start_ (n := 13) (S := fun w' => w'.cell? ⟨gb390, 0, none⟩ = some (.int .i64 ((rd_T47 l1 x27_2).f0)) ∧ w'.cell? ⟨gb390, 1, none⟩ = some (.int .i64 ((rd_T47 l1 x27_2).f1)) ∧ w'.cell? ⟨gb390, 2, none⟩ = some (.bool ((rd_T47 l1 x27_2).f2)) ∧ w'.cell? ⟨gb398, 0, none⟩ = some (.string ((rd_T50 l0 x39_3).f0)) ∧ w'.cell? ⟨gb398, 1, none⟩ = some (.slice A397_1 ((rd_T50 l0 x39_3).f1).length c397_1) ∧ w'.cell? (ad399.add (x39_3).toNat) = some (.bool (rdOf false t394 x39_3))) (ds := [10, 11]) #[false, false, false, false, false, false, false, false, false, false, false, false, false] (by kernel_rfl) rfl rfl ⟨cz BK390 0 _, cz BK390 1 _, cz BK390 2 _, cz BK398 0 _, cz BK398 1 _, hx401_0⟩ (fun hHeld => ?_); refine with_tabW spec_MeantBy.tab15 spec_MeantBy.bits15 (fun HT_ HW_ => ?_)
                    generalize w39.drew = w42 at HO_6 HO_7 HO_8 HO_11 BK390 BK398 HB hx401_0 hHeld ⊢
                    refine pureA 0 53 (bz 13 1) rfl rfl (any_of HT_.out (by kernel_rfl)) ?_
                    refine pureA 1 54 (bz 13 3) rfl rfl (any_of HT_.out (by kernel_rfl)) ?_
                    refine pureA 3 56 (bz 13 11) rfl rfl (any_of HT_.out (by kernel_rfl)) ?_
                    refine pureA 5 58 (bz 13 43) rfl rfl (any_of HT_.out (by kernel_rfl)) ?_
                    refine pureA 6 59 (bz 13 107) rfl rfl (any_of HT_.out (by kernel_rfl)) ?_
                    refine pureA 7 60 (bz 13 235) rfl rfl (any_of HT_.out (by kernel_rfl)) ?_
                    refine takeA 2 55 (bz 13 239) rfl rfl (take_ofW HT_.out HW_.out (by kernel_rfl)) hHeld (by rintro w' ⟨s0, s1, s2, s3, s4, s5⟩; go_simp; with_reducible rfl) ?_
                    refine takeA 4 57 (bz 13 255) rfl rfl (take_ofW HT_.out HW_.out (by kernel_rfl)) hHeld (by rintro w' ⟨s0, s1, s2, s3, s4, s5⟩; go_simp; with_reducible rfl) ?_
                    refine takeA 8 61 (bz 13 511) rfl rfl (take_ofW HT_.out HW_.out (by kernel_rfl)) hHeld (by rintro w' ⟨s0, s1, s2, s3, s4, s5⟩; go_simp; with_reducible rfl) ?_
                    refine pureA 9 62 (bz 13 1023) rfl rfl (any_of HT_.out (by kernel_rfl)) ?_
                    refine last_ (i := 10) (N := some 63) (bz 13 2047) rfl rfl (one_of HT_.out (by kernel_rfl)) (by decide) (fun K hK => ?_)
                    refine value_ (w1 := ?_) (v := ?_) (by rfl) rfl ?_ ?_
                    rotate_left 2
                    ·go_simp
                     constructor
                     ·rfl
                     ·rfl
                    refine hK.out _ _ ?_
                    clear hK K
                    refine norm_ (a' := ?_) ?_ ?_
                    rotate_left
                    ·show Act.put _ (some 63) _ = _
                     simp only [Act.put, List.setIfInBounds_toArray, List.set_cons_zero, List.set_cons_succ, i64_w, i32_w]
                     rfl
                    refine last_ (i := 11) (N := some 64) (bz 13 4095) rfl rfl (one_of HT_.out (by kernel_rfl)) (by decide) (fun K hK => ?_)
                    refine Kd.R_append_step k31 (w0 := w) w.heap.size (by rfl) (.tmp 53) (.tmp 63) 27 31 (.agg #[(.int .i64 0), (.string ⟨#[]⟩), (.bool false)]) 32 rfl Try.underlying27 info31 rfl (by decide) (by omega) u6 x6_3 (⟨((rd_T47 l1 x27_2).f0), (rd_T50 l0 x39_3).f0, rdOf false t394 x39_3⟩ : S31) [.int .i64 ((rd_T47 l1 x27_2).f0), .string ((rd_T50 l0 x39_3).f0), .bool (rdOf false t394 x39_3)] (fun _ => True) (fun _ => False) rfl rfl ?aP (fun _ hk => hk.elim) ?aF ?aO ?aB ?aS ?aL ?_
                    (case aP => exact k31_mkM _ _ _ (⟨((rd_T47 l1 x27_2).f0), (rd_T50 l0 x39_3).f0, rdOf false t394 x39_3⟩ : S31))
                    (case aB => exact (lV2 GE390 GE398))
                    (case aF => exact (fun _ _ => trivial))
                    (case aO => exact (rU HO_6.out))
                    (case aS => exact (below_size (lV2 GE390 GE398)))
                    (case aL => have := LMc34.out; omega)
                    intro v403 w43 ho hb hg hat
                    rw [← Ny402.out] at ho
                    replace HO_7 := Aside0.mk (Kd.R_over' (rU HO_7.out) (Kd.R_typed (rU HO_6.out)) (by decide) hg)
                    replace HO_8 := Aside0.mk (Kd.R_over' (rU HO_8.out) (Kd.R_typed (rU HO_6.out)) (by decide) hg)
                    replace HO_11 := Aside0.mk (Kd.R_over' (rU HO_11.out) (Kd.R_typed (rU HO_6.out)) (by decide) hg)
                    replace BK390 := Aside0.mk (blk_grown (g := gb390) (o := .cells #[.int .i64 ((rd_T47 l1 x27_2).f0), .int .i64 ((rd_T47 l1 x27_2).f1), .bool ((rd_T47 l1 x27_2).f2)] 47 (0, 0)) (bV BK390) hg (Kd.R_ne HO_6.out BK390.out (by decide)))
                    replace BK398 := Aside0.mk (blk_grown (g := gb398) (o := .cells #[.string ((rd_T50 l0 x39_3).f0), .slice A397_1 ((rd_T50 l0 x39_3).f1).length c397_1] 50 (0, 0)) (bV BK398) hg (Kd.R_ne HO_6.out BK398.out (by decide)))
                    replace HB := Aside0.mk hb
                    have HO404 := Aside0.mk ho
                    clear HO_6
                    clear ho hb hg hat
                    refine hK.out _ _ ?_
                    clear hK K
                    refine norm_ (a' := ?_) ?_ ?_
                    rotate_left
                    ·show Act.put _ (some 64) _ = _
                     simp only [Act.put, List.setIfInBounds_toArray, List.set_cons_zero, List.set_cons_succ, i64_w, i32_w]
                     rfl
                    refine pureA 12 6 (bz 13 8191) rfl rfl (any_of HT_.out (by kernel_rfl)) ?_
                    refine done_ (done_of HT_.out (by kernel_rfl)) ?_
                    try go_wp2
                    go_roundg k3
                    case measure => have := HJ2.out; have := HK2.out; have := HK3.out; omega
                    case rel => exact ⟨(y402), (wrap64 (x39_3 + 1)), tE, H', ⟨by have := HJ2.out; have := HK2.out; have := HK3.out; omega⟩, ⟨by (with_reducible repeat (first | apply Kd.R_alloc | apply Kd.R_drewN | apply Kd.R_drew)); exact HO404.out⟩, ⟨by (with_reducible repeat (first | apply Kd.R_alloc | apply Kd.R_drewN | apply Kd.R_drew)); exact HO_7.out⟩, ⟨by (with_reducible repeat (first | apply Kd.R_alloc | apply Kd.R_drewN | apply Kd.R_drew)); exact HO_8.out⟩, ⟨by (with_reducible repeat (first | apply Kd.R_alloc | apply Kd.R_drewN | apply Kd.R_drew)); exact HO_11.out⟩, ⟨by refine bU ?_; exact BK390.out⟩, ⟨by repeat (first | (with_reducible first | exact HB.out | apply below_alloc | apply pw_below_drewN | apply below_drew1 | refine below_set ?_ GE390.out | refine below_set ?_ GE398.out) | exact HB.out)⟩⟩
                   ·rw [if_neg c34] at H
                    exact absurd H (by simp)
                  ·rw [if_neg c33] at H
                   have c33b0 : ((rdOf false t394 x39_3) != (rdOf false x8_2 x39_3)) = false := by simpa using c33
                   (try (have c33b1 : decide ((rdOf false t394 x39_3) = (rdOf false x8_2 x39_3)) = true := by simpa using c33))
                   (try (have c33b2 : ((rdOf false t394 x39_3) == (rdOf false x8_2 x39_3)) = true := by simpa using c33))
                   clear c33
                   have H' := Aside0.mk H
                   clear H
                   have p397 : 0 ≤ (x39_3 : Int) := of_decide_eq_true hE
                   have q397 : x39_3 < (l0.length : Int) := of_decide_eq_true hE
                   obtain ⟨ad397, A397_1, c397_1, e397, hx397_0, hx397_1, hl397_1, hi397_1⟩ := at_T50 HR0.out x39_3 p397 q397
                   cases e397
                   replace hx397_0 := (HB.out.cell (World.block_lt_of_cell? w _ hx397_0)).trans hx397_0
                   replace hx397_1 := (HB.out.cell (World.block_lt_of_cell? w _ hx397_1)).trans hx397_1
                   have HR397_1 := Aside0.mk hi397_1
                   have HC397_1 := Aside0.mk hl397_1
                   clear hi397_1 hl397_1
                   replace p397 := eq_true p397
                   replace q397 := eq_true q397
                   try go_wp2_with (first | ((with_reducible refine gate_dst (N := 13) rfl ?_); refine box_event rfl (N := 13) rfl (cs := #[.string (⟨#[]⟩ : ByteArray), .slice none 0 0]) (t := 50) sE ?_; intro gb398 hg w44 hbox hb; replace HO_6 := Aside0.mk (Kd.R_below (rU HO_6.out) hb); replace HO_7 := Aside0.mk (Kd.R_below (rU HO_7.out) hb); replace HO_8 := Aside0.mk (Kd.R_below (rU HO_8.out) hb); replace HO_11 := Aside0.mk (Kd.R_below (rU HO_11.out) hb); have BK398 := Aside0.mk hbox; have GW398 := gS w hg (lV1 GE390); have GE398 := gS w hg (lV1 GE390); replace HB := bH (lV1 GE390) hb; have NB390_398 := nL hg (bV BK390); have NB398_390 := nG hg (bV BK390); replace BK390 := bB (bV BK390) hb; clear hb hbox hg; have hnb45 := NB398_390.out; have hnc45 := NB390_398.out; have hcz46_0 := cz BK398 0 (.string (⟨#[]⟩ : ByteArray)); have hcz46_1 := cz BK398 1 (.slice none 0 0); have hfz46_0 := fz BK398 0; have hfz46_1 := fz BK398 1) | ((with_reducible refine gate_store (t := 50) (p := 13) rfl ?_); refine store_event (t := 50) (p := 13) (v := ?vo_w47) (w1 := ((w44.setCell ⟨gb398, 0, none⟩ (.string ((rd_T50 l0 x39_3).f0))).setCell ⟨gb398, 1, none⟩ (.slice A397_1 ((rd_T50 l0 x39_3).f1).length c397_1))) ?hg ?ho ?hn ?hr ?_; (case ho => rfl); (case hg => rfl); (case hn => rfl); (case hr => first | (go_simp; done) | (go_simp; rfl) | (have hq0_ := (blk_cell BK398.out 0).trans (show _ = some _ from rfl); have hf0_ := blk_frozen BK398.out 0; have hq1_ := (blk_cell BK398.out 1).trans (show _ = some _ from rfl); have hf1_ := blk_frozen BK398.out 1; first | (go_simp; done) | (go_simp; rfl))); intro w47 hw; replace HO_6 : Aside0 (Kd.R k31 31 w47 w.heap.size (fun _ => True) u6 x6_3) := ⟨(by rw [hw]; exact (by (with_reducible repeat (first | apply Kd.R_alloc | apply Kd.R_drewN | apply Kd.R_drew)); exact Kd.R_mono (Kd.R_far (p := ⟨gb398, 1, none⟩) (Kd.R_far (p := ⟨gb398, 0, none⟩) (Kd.R_types HO_6.out BK398.out (by decide)) (fun _ hk => hk.2) (.string ((rd_T50 l0 x39_3).f0))) (fun _ hk => hk.2) (.slice A397_1 ((rd_T50 l0 x39_3).f1).length c397_1)) (fun _ hk => trivial)))⟩; replace HO_7 : Aside0 (Kd.R (Kd.int .i64) 3 w47 w.heap.size (fun _ => True) (.slice Ao26 t391.length co26) t391) := ⟨(by rw [hw]; exact (by (with_reducible repeat (first | apply Kd.R_alloc | apply Kd.R_drewN | apply Kd.R_drew)); exact Kd.R_mono (Kd.R_far (p := ⟨gb398, 1, none⟩) (Kd.R_far (p := ⟨gb398, 0, none⟩) (Kd.R_types HO_7.out BK398.out (by decide)) (fun _ hk => hk.2) (.string ((rd_T50 l0 x39_3).f0))) (fun _ hk => hk.2) (.slice A397_1 ((rd_T50 l0 x39_3).f1).length c397_1)) (fun _ hk => trivial)))⟩; replace HO_8 : Aside0 (Kd.R Kd.bool 4 w47 w.heap.size (fun k_ => some k_ ≠ (v395 : Value).ownBlock) u8 x8_2) := ⟨(by rw [hw]; exact (by (with_reducible repeat (first | apply Kd.R_alloc | apply Kd.R_drewN | apply Kd.R_drew)); exact Kd.R_mono (Kd.R_far (p := ⟨gb398, 1, none⟩) (Kd.R_far (p := ⟨gb398, 0, none⟩) (Kd.R_types HO_8.out BK398.out (by decide)) (fun _ hk => hk.2) (.string ((rd_T50 l0 x39_3).f0))) (fun _ hk => hk.2) (.slice A397_1 ((rd_T50 l0 x39_3).f1).length c397_1)) (fun _ hk => hk.1)))⟩; replace HO_11 : Aside0 (Kd.R Kd.bool 4 w47 w.heap.size (fun k_ => some k_ ≠ (u8 : Value).ownBlock) v395 t394) := ⟨(by rw [hw]; exact (by (with_reducible repeat (first | apply Kd.R_alloc | apply Kd.R_drewN | apply Kd.R_drew)); exact Kd.R_mono (Kd.R_far (p := ⟨gb398, 1, none⟩) (Kd.R_far (p := ⟨gb398, 0, none⟩) (Kd.R_types HO_11.out BK398.out (by decide)) (fun _ hk => hk.2) (.string ((rd_T50 l0 x39_3).f0))) (fun _ hk => hk.2) (.slice A397_1 ((rd_T50 l0 x39_3).f1).length c397_1)) (fun _ hk => hk.1)))⟩; replace BK390 : Aside0 (w47.heap[gb390]? = some (.cells #[.int .i64 ((rd_T47 l1 x27_2).f0), .int .i64 ((rd_T47 l1 x27_2).f1), .bool ((rd_T47 l1 x27_2).f2)] 47 (0, 0))) := ⟨(by rw [hw]; exact (bG NB390_398 BK390))⟩; replace BK398 : Aside0 (w47.heap[gb398]? = some (.cells #[.string ((rd_T50 l0 x39_3).f0), .slice A397_1 ((rd_T50 l0 x39_3).f1).length c397_1] 50 (0, 0))) := ⟨(by rw [hw]; exact (by refine bU ?_; refine blk_put (cs := #[.string ((rd_T50 l0 x39_3).f0), .slice none 0 0]) ?_ 1 _ rfl; refine bU ?_; refine blk_put (cs := #[.string (⟨#[]⟩ : ByteArray), .slice none 0 0]) ?_ 0 _ rfl; refine bU ?_; exact BK398.out))⟩; replace HB : Aside0 (Below w.heap.size w w47) := ⟨(by rw [hw]; exact (lV2 GE390 GE398))⟩; clear hw))
                   replace HO_6 := Aside0.mk (Kd.R_drew HO_6.out)
                   replace HO_7 := Aside0.mk (Kd.R_drew HO_7.out)
                   replace HO_8 := Aside0.mk (Kd.R_drew HO_8.out)
                   replace HO_11 := Aside0.mk (Kd.R_drew HO_11.out)
                   replace BK390 := Aside0.mk (blk_drew BK390.out)
                   replace BK398 := Aside0.mk (blk_drew BK398.out)
                   replace HB := Aside0.mk (below_drew1 HB.out)
                   obtain ⟨Ao49, co49, eo49⟩ := Kd.R_slice HO_11.out
                   (first | subst eo49 | (injection eo49 with f1_ f2_ f3_; have f4_ := f1_.symm; have f5_ := f3_.symm; clear f1_ f2_ f3_; subst f4_; subst f5_))
                   have p399 : 0 ≤ (x39_3 : Int) := of_decide_eq_true hE
                   have q399 : x39_3 < (t394.length : Int) := of_decide_eq_true hE
                   obtain ⟨ad399, e399, hx399_0⟩ := Kd.at_bool (Kd.R_reads' HO_11.out).2.2 x39_3 p399 q399
                   cases e399
                   replace p399 := eq_true p399
                   replace q399 := eq_true q399
                   obtain ⟨Ao50, co50, eo50⟩ := Kd.R_slice HO_8.out
                   (first | subst eo50 | (injection eo50 with f1_ f2_ f3_; have f4_ := f1_.symm; have f5_ := f3_.symm; clear f1_ f2_ f3_; subst f4_; subst f5_))
                   have p400 : 0 ≤ (x39_3 : Int) := of_decide_eq_true hE
                   have q400 : x39_3 < (x8_2.length : Int) := of_decide_eq_true hE
                   obtain ⟨ad400, e400, hx400_0⟩ := Kd.at_bool (Kd.R_reads' HO_8.out).2.2 x39_3 p400 q400
                   cases e400
                   replace p400 := eq_true p400
                   replace q400 := eq_true q400
                   refine start_ (n := 9) (S := fun w' => w'.cell? (ad399.add (x39_3).toNat) = some (.bool (rdOf false t394 x39_3)) ∧ w'.cell? (ad400.add (x39_3).toNat) = some (.bool (rdOf false x8_2 x39_3))) (ds := []) #[false, false, false, false, false, false, false, false, false] (by kernel_rfl) rfl rfl ⟨hx399_0, hx400_0⟩ (fun hHeld => ?_); refine with_tabW spec_MeantBy.tab14 spec_MeantBy.bits14 (fun HT_ HW_ => ?_)
                   generalize w47.drew = w48 at HO_6 HO_7 HO_8 HO_11 BK390 BK398 HB hx399_0 hx400_0 hHeld ⊢
                   refine pureA 0 44 (bz 9 1) rfl rfl (any_of HT_.out (by kernel_rfl)) ?_
                   refine pureA 1 45 (bz 9 3) rfl rfl (any_of HT_.out (by kernel_rfl)) ?_
                   refine pureA 2 46 (bz 9 7) rfl rfl (any_of HT_.out (by kernel_rfl)) ?_
                   refine pureA 4 48 (bz 9 23) rfl rfl (any_of HT_.out (by kernel_rfl)) ?_
                   refine pureA 5 49 (bz 9 55) rfl rfl (any_of HT_.out (by kernel_rfl)) ?_
                   refine pureA 6 50 (bz 9 119) rfl rfl (any_of HT_.out (by kernel_rfl)) ?_
                   refine takeA 3 47 (bz 9 127) rfl rfl (take_ofW HT_.out HW_.out (by kernel_rfl)) hHeld (by rintro w' ⟨s0, s1⟩; go_simp; with_reducible rfl) ?_
                   refine takeA 7 51 (bz 9 255) rfl rfl (take_ofW HT_.out HW_.out (by kernel_rfl)) hHeld (by rintro w' ⟨s0, s1⟩; go_simp; with_reducible rfl) ?_
                   refine pureA 8 52 (bz 9 511) rfl rfl (any_of HT_.out (by kernel_rfl)) ?_
                   refine done_ (done_of HT_.out (by kernel_rfl)) ?_
                   try go_wp2
                   go_roundg k3
                   case measure => have := HJ2.out; have := HK2.out; have := HK3.out; omega
                   case rel => exact ⟨(x6_3), (wrap64 (x39_3 + 1)), tE, H', ⟨by have := HJ2.out; have := HK2.out; have := HK3.out; omega⟩, ⟨by (with_reducible repeat (first | apply Kd.R_alloc | apply Kd.R_drewN | apply Kd.R_drew)); exact HO_6.out⟩, ⟨by (with_reducible repeat (first | apply Kd.R_alloc | apply Kd.R_drewN | apply Kd.R_drew)); exact HO_7.out⟩, ⟨by (with_reducible repeat (first | apply Kd.R_alloc | apply Kd.R_drewN | apply Kd.R_drew)); exact HO_8.out⟩, ⟨by (with_reducible repeat (first | apply Kd.R_alloc | apply Kd.R_drewN | apply Kd.R_drew)); exact HO_11.out⟩, ⟨by refine bU ?_; exact BK390.out⟩, ⟨by repeat (first | (with_reducible first | exact HB.out | apply below_alloc | apply pw_below_drewN | apply below_drew1 | refine below_set ?_ GE390.out | refine below_set ?_ GE398.out) | exact HB.out)⟩⟩
                 ·rw [if_neg c32] at H
                  exact absurd H (by simp)
                ·rw [if_neg c31] at H
                 exact absurd H (by simp)
               ·rw [if_neg c30] at H
                exact absurd H (by simp)
              ·rw [if_neg c29] at H
               exact absurd H (by simp)
             ·rw [if_neg c28] at H
              have c28b0 : decide (x39_3 < (l0.length : Int)) = false := decide_eq_false c28
              clear c28
              have H' := Aside0.mk H
              clear H
              go_wp2
              go_roundg k3
              case measure => have := HJ2.out; have := HK2.out; have := HK3.out; omega
              case rel => exact ⟨(x6_3), (t391), (t394), (wrap64 (x27_2 + 1)), tE, H', ⟨by have := HJ2.out; have := HK2.out; have := HK3.out; omega⟩, ⟨by (with_reducible repeat (first | apply Kd.R_alloc | apply Kd.R_drewN | apply Kd.R_drew)); exact HO_6.out⟩, ⟨by (with_reducible repeat (first | apply Kd.R_alloc | apply Kd.R_drewN | apply Kd.R_drew)); exact HO_7.out⟩, ⟨by (with_reducible repeat (first | apply Kd.R_alloc | apply Kd.R_drewN | apply Kd.R_drew)); exact Kd.R_mono HO_11.out (fun _ hk => trivial)⟩, ⟨by repeat (first | (with_reducible first | exact HB.out | apply below_alloc | apply pw_below_drewN | apply below_drew1 | refine below_set ?_ GE390.out) | exact HB.out)⟩⟩
          ·rw [if_neg c17] at H
           exact absurd H (by simp)
         ·rw [if_neg c16] at H
          exact absurd H (by simp)
        ·rw [if_neg c15] at H
         have c15b0 : decide (x27_2 < (l1.length : Int)) = false := decide_eq_false c15
         clear c15
         simp only [Option.some.injEq, Prod.mk.injEq] at H
         obtain ⟨rfl, rfl⟩ := H
         go_wp2
         go_ret2
         exact ⟨_, eE, by (with_reducible repeat (first | apply Kd.R_alloc | apply Kd.R_drewN | apply Kd.R_drew)); exact HO_6.out, lU⟩
     ·rw [if_neg c12] at H
      exact absurd H (by simp)
    ·rw [if_neg c11] at H
     exact absurd H (by simp)
end Go.Proofs.Ytndgkdnbacoenab.PFnMeant
namespace Go.Proofs.Ytndgkdnbacoenab.PFnMeant
open Go.RowKit Go.Proofs.YtndgkdnbacoenabW.PrintWords Go.Proofs.YtndgkdnbacoenabW.PrintLast Go.Proofs.YtndgkdnbacoenabW.PrintMore
attribute [local go_sem] max2_int min2_int max_two min_two max_three min_three max_four min_four
set_option linter.unusedVariables false
set_option linter.unusedSimpArgs false
def lastOn (a : ByteArray) : List S31 → Bool → Bool
 | [], on => on
 | o :: r, on => lastOn a r (if (o.f1.toList == a.toList) = true then o.f2 else on)
def AltOn (l : List S31) : Prop := ∀ i, i < l.length → (lastOn (rd_T31 l (i : Int)).f1 (l.take i) false == (rd_T31 l (i : Int)).f2) = false
def eqMs : List S31 → List S31 → Bool
 | [], [] => true
 | x :: xs, y :: ys => x.f0 == y.f0 && (x.f1.toList == y.f1.toList && (x.f2 == y.f2 && eqMs xs ys))
 | _, _ => false
theorem bytes_inj {a b : ByteArray} (h : a.toList = b.toList) : a = b := by
 rw [ByteArray.toList_eq, ByteArray.toList_eq] at h
 exact ByteArray.ext (Array.ext' h)
theorem eqMs_eq : ∀ xs ys : List S31, eqMs xs ys = true → xs = ys
 | [], [], _ => rfl
 | [], _ :: _, h => by cases h
 | _ :: _, [], h => by cases h
 | ⟨a, b, c⟩ :: xs, ⟨a', b', c'⟩ :: ys, h => by
  simp only [eqMs, Bool.and_eq_true, beq_iff_eq] at h
  obtain ⟨h1, h2, h3, h4⟩ := h
  obtain rfl := bytes_inj h2
  rw [h1, h3, eqMs_eq xs ys h4]
theorem eqMs_self : ∀ xs : List S31, eqMs xs xs = true
 | [] => rfl
 | x :: xs => by simp [eqMs, eqMs_self xs]
def altB (l : List S31) : Bool := (List.range l.length).all fun i => !(lastOn (rd_T31 l (i : Int)).f1 (l.take i) false == (rd_T31 l (i : Int)).f2)
theorem altB_on (l : List S31) : altB l = true ↔ AltOn l := by
 unfold altB AltOn
 rw [List.all_eq_true]
 constructor
 ·intro h i hi
  have := h i (List.mem_range.2 hi)
  simpa using this
 ·intro h i hi
  have := h i (List.mem_range.1 hi)
  rw [this]; rfl
def laws_FnMeant.f (k : Nat) (l0 : List Int) : Option Bool := if 1048576 < l0.length then some true else (spec_DrawMeantBy.f k l0).bind fun q => (impl_MeantBy.f k q.1 q.2).bind fun x => (spec_MeantBy.f k q.1 q.2).bind fun y => if (eqMs x.1 y.1 && (x.2 == y.2 && altB x.1)) = true then some true else none
theorem laws_FnMeant.mono : ∀ a0 k, LeO (laws_FnMeant.f k a0) (laws_FnMeant.f (k + 1) a0) := by
 intro a0 k
 unfold laws_FnMeant.f
 exact LeO.ite (LeO.refl _) (LeO.bind (spec_DrawMeantBy.mono _ _) (fun q => LeO.bind (impl_MeantBy.mono _ _ _) (fun x => LeO.bind (spec_MeantBy.mono _ _ _) (fun y => LeO.refl _))))
theorem meantEq (d : Nat) (w : World) (x0 y0 : Int) (x1 y1 : ByteArray) (x2 y2 : Bool) :
  (Op.equalIn (d + 2) 31 (.agg #[.int .i64 x0, .string x1, .bool x2]) (.agg #[.int .i64 y0, .string y1, .bool y2])).run Try.prog w = .ok (x0 == y0 && (x1.toList == y1.toList && (x2 == y2))) w := by
 refine eqA_of Try.underlying31 (by kernel_rfl) ?_
 refine eqf_cons (by rfl) (by go_simp; rfl) (by go_simp; rfl) (by go_simp) ?_
 refine eqf_cons (by rfl) (by go_simp; rfl) (by go_simp; rfl) (by go_simp) ?_
 exact eqf_last (by rfl) (by go_simp; rfl) (by go_simp; rfl) (by go_simp)
set_option maxHeartbeats 16000000 in
set_option maxRecDepth 100000 in
theorem laws_FnMeant.calls (k : Nat) (A0 : Option Addr) (c0 : Nat) (l0 : List Int) (r : Bool) (w : World) (hr0 : Kd.C (Kd.int .u8) w A0 l0.length l0) (hc0 : l0.length ≤ c0) (h : laws_FnMeant.f k l0 = some r) :
  Calls Try.prog 3 #[.slice A0 l0.length c0] w fun e w' => e = .returned (.bool r) ∧ Below w.heap.size w w' := by
 have hu31 := Try.underlying31
 have HR0 := Aside0.mk hr0
 have HC0 := Aside0.mk hc0
 clear hr0 hc0
 unfold laws_FnMeant.f at h
 split at h
 ·rename_i hl
  obtain rfl := Option.some.inj h
  have hgt : (l0.length : Int) > 1048576 := by omega
  clear h
  go_enter Try.func3, Try.ntmps3
  go_wp2
  go_ret
  exact ⟨rfl, Below.refl _ _⟩
 rename_i hl
 have hgt : ¬ (l0.length : Int) > 1048576 := by omega
 obtain ⟨⟨bs, es⟩, hq, h⟩ := Option.bind_eq_some_iff.mp h
 obtain ⟨⟨l, ok⟩, hx, h⟩ := Option.bind_eq_some_iff.mp h
 obtain ⟨⟨l', ok'⟩, hy, h⟩ := Option.bind_eq_some_iff.mp h
 split at h
 case isFalse => cases h
 rename_i hc
 simp only [Bool.and_eq_true, beq_iff_eq] at hc
 obtain ⟨he, rfl, halt⟩ := hc
 obtain rfl := eqMs_eq _ _ he
 replace halt := (altB_on l).1 halt
 obtain rfl := Option.some.inj h
 have HQ := Aside0.mk hq
 have HX := Aside0.mk hx
 have HY := Aside0.mk hy
 have HAlt := Aside0.mk halt
 clear h he hq hx hy halt
 have hoo : (ok == ok) = true := by cases ok <;> rfl
 have hon : (!(ok == ok)) = false := by rw [hoo]; rfl
 go_enter Try.func3, Try.ntmps3
 go_wp2_with (first
  | (go_at_call 4; refine (spec_DrawMeantBy.calls k A0 c0 l0 bs es _ HR0.out HC0.out HQ.out).mono ?_; rintro e w1 ⟨v1, v2, rfl, ho1, ho2, hb⟩; obtain ⟨A1, c1, rfl⟩ := Kd.R_slice (Kd.S_R ho1); obtain ⟨A2, c2, rfl⟩ := Kd.R_slice ho2; have HC1 := Aside0.mk (Kd.S_reads' ho1).2; have HC2 := Aside0.mk (Kd.R_reads' ho2).2; have HB1 := Aside0.mk hb; clear ho1 ho2 hb)
  | (go_at_call 5; refine (impl_MeantBy.calls k A1 c1 bs A2 c2 es l ok _ HC1.out.2 HC1.out.1 HC2.out.2 HC2.out.1 HX.out).mono ?_; rintro e w2 ⟨v3, rfl, ho, hb⟩; obtain ⟨A3, c3, rfl⟩ := Kd.R_slice ho; have HC3 := Aside0.mk (Kd.R_reads' ho).2; have HB2 := Aside0.mk hb; clear ho hb)
  | (go_at_call 6; refine (spec_MeantBy.calls k A1 c1 bs A2 c2 es l ok _ (Kd.C_below HC1.out.2 HB2.out) HC1.out.1 (Kd.C_below HC2.out.2 HB2.out) HC2.out.1 HY.out).mono ?_; rintro e w3 ⟨v4, rfl, ho, hb⟩; obtain ⟨A4, c4, rfl⟩ := Kd.R_slice ho; have HC4 := Aside0.mk (Kd.R_reads' ho).2; have HL3 := Aside0.mk (Kd.C_below HC3.out.2 hb); have HB3 := Aside0.mk (below_step HB1.out (below_step HB2.out hb)); clear ho hb HB1 HB2))
 have hmx := HL3.out.2.1
 obtain ⟨w3', hw3'⟩ : ∃ x : World, x = w3 := ⟨_, rfl⟩
 go_loopg [46] l.length (fun gk v46 wx => ∃ i : Nat, i + gk = l.length ∧ v46 = .int .i64 (i : Nat) ∧ Aside0 (Below w3.heap.size w3 wx))
 case atStart => exact ⟨0, by omega, rfl, ⟨Below.refl _ _⟩⟩
 case round =>
  obtain ⟨i, hig, rfl, HB⟩ := hrel
  obtain ⟨wo, rfl⟩ : ∃ x, x = wr := ⟨_, rfl⟩
  cases gk with
  | zero =>
   obtain rfl : i = l.length := by omega
   have hn : ¬ ((l.length : Int) < (l.length : Int)) := by omega
   go_wp2
   go_ret
   exact ⟨rfl, below_step HB3.out HB.out⟩
  | succ go =>
   have hil : i < l.length := by omega
   have hlt : (i : Int) < (l.length : Int) := by omega
   have h0 : (0 : Int) ≤ (i : Int) := by omega
   have halt := HAlt.out i hil
   obtain ⟨m, hm⟩ : ∃ m, m = rd_T31 l (i : Int) := ⟨_, rfl⟩
   rw [← hm] at halt
   have HM := Aside0.mk hm
   obtain ⟨a1, e1, hx0, hx1, hx2⟩ := at_T31 (Kd.C_below HL3.out HB.out) (i : Int) h0 hlt
   cases e1
   obtain ⟨a2, e2, hy0, hy1, hy2⟩ := at_T31 (Kd.C_below HC4.out.2 HB.out) (i : Int) h0 hlt
   cases e2
   rw [← hm, Int.toNat_natCast] at hx0 hx1 hx2 hy0 hy1 hy2
   have HY0 := Aside0.mk hy0
   have HY1 := Aside0.mk hy1
   have HY2 := Aside0.mk hy2
   obtain ⟨last, hlast⟩ : ∃ b, b = lastOn m.f1 (l.take i) false := ⟨_, rfl⟩
   rw [← hlast] at halt
   have HLast := Aside0.mk hlast.symm
   obtain ⟨j0, hj0, _, _, _⟩ := info_parts info31
   have cutA := cut_to (P := Try.prog) 27 31 .i64 Try.underlying27 hj0 (some a1) l.length c3 (i : Int) (by omega) (by omega) HC3.out.1
   rw [Int.toNat_natCast] at cutA
   have HTk := Aside0.mk (show Kd.C k31 w3 (some a1) i (l.take i) by have h_ := Kd.C_take (m := i) HL3.out (by omega); rw [show (l.take i).length = i by rw [List.length_take]; omega] at h_; exact h_)
   have heq : ∀ W : World, (Op.equalIn 10000 31 (.agg #[.int .i64 m.f0, .string m.f1, .bool m.f2]) (.agg #[.int .i64 m.f0, .string m.f1, .bool m.f2])).run Try.prog W = .ok true W := by
    intro W
    have h_ := meantEq 9998 W m.f0 m.f0 m.f1 m.f1 m.f2 m.f2
    simpa using h_
   clear hm hlast hy0 hy1 hy2
   go_wp2_with (first
    | ((with_reducible refine gate_dst (N := 10) rfl ?_); refine box_event rfl (N := 10) rfl (cs := #[.int .i64 0, .string ⟨#[]⟩, .bool false]) (t := 31) sE ?_; intro gM hg w6 hbox hb; have HGM := Aside0.mk (show w3.heap.size ≤ gM by rw [hg]; exact HB.out.size); have HB2 := Aside0.mk (below_step HB.out hb); have BM := Aside0.mk hbox; have hcz0 : w6.cell? ⟨gM, 0, none⟩ = some (.int .i64 0) := (blk_cell hbox 0).trans rfl; have hcz1 : w6.cell? ⟨gM, 1, none⟩ = some (.string ⟨#[]⟩) := (blk_cell hbox 1).trans rfl; have hcz2 : w6.cell? ⟨gM, 2, none⟩ = some (.bool false) := (blk_cell hbox 2).trans rfl; have hfz0 := blk_frozen hbox 0; have hfz1 := blk_frozen hbox 1; have hfz2 := blk_frozen hbox 2; replace HY0 := Aside0.mk ((hb.cell (World.block_lt_of_cell? _ _ HY0.out)).trans HY0.out); replace HY1 := Aside0.mk ((hb.cell (World.block_lt_of_cell? _ _ HY1.out)).trans HY1.out); replace HY2 := Aside0.mk ((hb.cell (World.block_lt_of_cell? _ _ HY2.out)).trans HY2.out); clear hbox hb hg HB)
    | ((with_reducible refine gate_store (t := 31) (p := 10) rfl ?_); refine store_event (t := 31) (p := 10) (v := ?vo) (w1 := (((w6.setCell ⟨gM, 0, none⟩ (.int .i64 m.f0)).setCell ⟨gM, 1, none⟩ (.string m.f1)).setCell ⟨gM, 2, none⟩ (.bool m.f2))) ?hg ?ho ?hn ?hr ?_; (case ho => rfl); (case hg => rfl); (case hn => rfl); (case hr => exact sE); intro w7 hw; have HB3_ := Aside0.mk (show Below w3.heap.size w3 w7 by rw [hw]; exact below_set (below_set (below_set HB2.out HGM.out) HGM.out) HGM.out); have BM3 := Aside0.mk (show w7.heap[gM]? = some (.cells #[.int .i64 m.f0, .string m.f1, .bool m.f2] 31 (0, 0)) by rw [hw]; exact blk_put (cs := #[.int .i64 m.f0, .string m.f1, .bool false]) (blk_put (cs := #[.int .i64 m.f0, .string ⟨#[]⟩, .bool false]) (blk_put (cs := #[.int .i64 0, .string ⟨#[]⟩, .bool false]) BM.out 0 _ rfl) 1 _ rfl) 2 _ rfl); clear hw HB2 BM hcz0 hcz1 hcz2 hfz0 hfz1 hfz2 HY0 HY1 HY2))
   obtain ⟨a3, e3, hz0, hz1, hz2⟩ := at_T31 (Kd.C_below HC4.out.2 HB3_.out) (i : Int) h0 hlt
   obtain rfl := Option.some.inj e3
   have hm2 : rd_T31 l (i : Int) = m := HM.out.symm
   rw [hm2, Int.toNat_natCast] at hz0 hz1 hz2
   have hcM0 : w7.cell? ⟨gM, 0, none⟩ = some (.int .i64 m.f0) := (blk_cell BM3.out 0).trans rfl
   have hcM1 : w7.cell? ⟨gM, 1, none⟩ = some (.string m.f1) := (blk_cell BM3.out 1).trans rfl
   have hcM2 : w7.cell? ⟨gM, 2, none⟩ = some (.bool m.f2) := (blk_cell BM3.out 2).trans rfl
   go_quiet (fail)
   go_wp2
   go_loopg [11, 61] i (fun gk v11 v61 wx => ∃ (j : Nat) (on : Bool), j + gk = i ∧ v61 = .int .i64 (j : Nat) ∧ v11 = .bool on ∧ Aside0 (Below w3.heap.size w3 wx) ∧ Aside0 (wx.heap[gM]? = some (.cells #[.int .i64 m.f0, .string m.f1, .bool m.f2] 31 (0, 0))) ∧ Aside0 (lastOn m.f1 ((l.take i).drop j) on = last))
   case atStart => exact ⟨0, false, by omega, rfl, rfl, ⟨by first | exact pw_below_drewN HB3_.out _ | exact HB3_.out⟩, ⟨by first | exact blk_drewN BM3.out _ | exact BM3.out⟩, HLast⟩
   case round =>
    clear HB3_ BM3 hcM0 hcM1 hcM2 hz0 hz1 hz2 HLast
    obtain ⟨j, on, hjg, rfl, rfl, HB4, BM4, HE⟩ := hrel
    obtain ⟨wp, rfl⟩ : ∃ x, x = wr := ⟨_, rfl⟩
    have hcM1 : wp.cell? ⟨gM, 1, none⟩ = some (.string m.f1) := (blk_cell BM4.out 1).trans rfl
    have hcM2 : wp.cell? ⟨gM, 2, none⟩ = some (.bool m.f2) := (blk_cell BM4.out 2).trans rfl
    cases gk with
    | zero =>
     obtain rfl : j = i := by omega
     have hn : ¬ ((j : Int) < (j : Int)) := by omega
     have hE := HE.out
     rw [List.drop_eq_nil_of_le (by rw [List.length_take]; omega)] at hE
     have hE2 : on = last := hE
     subst hE2
     have hne : (on == m.f2) = false := halt
     clear hE HE
     go_wp2
     go_roundg go
     case measure => omega
     case rel => exact ⟨j + 1, by omega, by go_num, HB4⟩
    | succ go2 =>
     have hji : j < i := by omega
     have hjlt : (j : Int) < (i : Int) := by omega
     have hj0 : (0 : Int) ≤ (j : Int) := by omega
     obtain ⟨a4, e4, hu0, hu1, hu2⟩ := at_T31 (Kd.C_below HTk.out HB4.out) (j : Int) hj0 hjlt
     obtain rfl := Option.some.inj e4
     obtain ⟨o, ho⟩ : ∃ o, o = rd_T31 (l.take i) (j : Int) := ⟨_, rfl⟩
     rw [← ho, Int.toNat_natCast] at hu0 hu1 hu2
     have hE := HE.out
     have hjt : j < (l.take i).length := by rw [List.length_take]; omega
     rw [List.drop_eq_getElem_cons hjt] at hE
     have hgo : (l.take i)[j] = o := by rw [ho]; simp [rd_T31, List.getD_eq_getElem?_getD, List.getElem?_eq_getElem hjt]
     rw [hgo] at hE
     unfold lastOn at hE
     have HE2 := Aside0.mk hE
     clear hE HE ho hgo hjt
     by_cases hc : (o.f1.toList == m.f1.toList) = true
     ·have hE := HE2.out
      rw [if_pos hc] at hE
      have HE3 := Aside0.mk hE
      clear hE HE2
      go_wp2_with (first
       | ((with_reducible refine gate_dst (N := 13) rfl ?_); refine box_event rfl (N := 13) rfl (cs := #[.int .i64 0, .string ⟨#[]⟩, .bool false]) (t := 31) sE ?_; intro gO hg w8 hbox hb; have HNO := Aside0.mk (show gM ≠ gO by have h_ := blk_lt BM4.out; omega); have HGO := Aside0.mk (show w3.heap.size ≤ gO by rw [hg]; exact HB4.out.size); have HB5 := Aside0.mk (below_step HB4.out hb); have BM5 := Aside0.mk (blk_below BM4.out hb); have BO := Aside0.mk hbox; have hdz0 : w8.cell? ⟨gO, 0, none⟩ = some (.int .i64 0) := (blk_cell hbox 0).trans rfl; have hdz1 : w8.cell? ⟨gO, 1, none⟩ = some (.string ⟨#[]⟩) := (blk_cell hbox 1).trans rfl; have hdz2 : w8.cell? ⟨gO, 2, none⟩ = some (.bool false) := (blk_cell hbox 2).trans rfl; have hfz0 := blk_frozen hbox 0; have hfz1 := blk_frozen hbox 1; have hfz2 := blk_frozen hbox 2; clear hbox hb hg HB4 BM4)
       | ((with_reducible refine gate_store (t := 31) (p := 13) rfl ?_); refine store_event (t := 31) (p := 13) (v := ?vo2) (w1 := (((w8.setCell ⟨gO, 0, none⟩ (.int .i64 o.f0)).setCell ⟨gO, 1, none⟩ (.string o.f1)).setCell ⟨gO, 2, none⟩ (.bool o.f2))) ?hg ?ho ?hn ?hr ?_; (case ho => rfl); (case hg => rfl); (case hn => rfl); (case hr => exact sE); intro w9 hw; have HB6 := Aside0.mk (show Below w3.heap.size w3 w9 by rw [hw]; exact below_set (below_set (below_set HB5.out HGO.out) HGO.out) HGO.out); have BM6 := Aside0.mk (show w9.heap[gM]? = some (.cells #[.int .i64 m.f0, .string m.f1, .bool m.f2] 31 (0, 0)) by rw [hw]; exact (Below.heap_setCell _ _ _ gM HNO.out).trans ((Below.heap_setCell _ _ _ gM HNO.out).trans ((Below.heap_setCell _ _ _ gM HNO.out).trans BM5.out))); have hbo_ : w9.heap[gO]? = some (.cells #[.int .i64 o.f0, .string o.f1, .bool o.f2] 31 (0, 0)) := (by rw [hw]; exact blk_put (cs := #[.int .i64 o.f0, .string o.f1, .bool false]) (blk_put (cs := #[.int .i64 o.f0, .string ⟨#[]⟩, .bool false]) (blk_put (cs := #[.int .i64 0, .string ⟨#[]⟩, .bool false]) BO.out 0 _ rfl) 1 _ rfl) 2 _ rfl); have hcO1 : w9.cell? ⟨gO, 1, none⟩ = some (.string o.f1) := (blk_cell hbo_ 1).trans rfl; have hcO2 : w9.cell? ⟨gO, 2, none⟩ = some (.bool o.f2) := (blk_cell hbo_ 2).trans rfl; have hcM3 : w9.cell? ⟨gM, 1, none⟩ = some (.string m.f1) := (blk_cell BM6.out 1).trans rfl; clear hw hbo_ HB5 BM5 BO hdz0 hdz1 hdz2 hfz0 hfz1 hfz2))
      go_roundg go2
      case measure => omega
      case rel => exact ⟨j + 1, o.f2, by omega, by go_num, rfl, HB6, BM6, HE3⟩
     ·have hcf : (o.f1.toList == m.f1.toList) = false := Bool.eq_false_iff.mpr hc
      have hE := HE2.out
      rw [if_neg hc] at hE
      have HE3 := Aside0.mk hE
      clear hE HE2 hc
      go_wp2_with (first
       | ((with_reducible refine gate_dst (N := 13) rfl ?_); refine box_event rfl (N := 13) rfl (cs := #[.int .i64 0, .string ⟨#[]⟩, .bool false]) (t := 31) sE ?_; intro gO hg w8 hbox hb; have HNO := Aside0.mk (show gM ≠ gO by have h_ := blk_lt BM4.out; omega); have HGO := Aside0.mk (show w3.heap.size ≤ gO by rw [hg]; exact HB4.out.size); have HB5 := Aside0.mk (below_step HB4.out hb); have BM5 := Aside0.mk (blk_below BM4.out hb); have BO := Aside0.mk hbox; have hdz0 : w8.cell? ⟨gO, 0, none⟩ = some (.int .i64 0) := (blk_cell hbox 0).trans rfl; have hdz1 : w8.cell? ⟨gO, 1, none⟩ = some (.string ⟨#[]⟩) := (blk_cell hbox 1).trans rfl; have hdz2 : w8.cell? ⟨gO, 2, none⟩ = some (.bool false) := (blk_cell hbox 2).trans rfl; have hfz0 := blk_frozen hbox 0; have hfz1 := blk_frozen hbox 1; have hfz2 := blk_frozen hbox 2; clear hbox hb hg HB4 BM4)
       | ((with_reducible refine gate_store (t := 31) (p := 13) rfl ?_); refine store_event (t := 31) (p := 13) (v := ?vo3) (w1 := (((w8.setCell ⟨gO, 0, none⟩ (.int .i64 o.f0)).setCell ⟨gO, 1, none⟩ (.string o.f1)).setCell ⟨gO, 2, none⟩ (.bool o.f2))) ?hg ?ho ?hn ?hr ?_; (case ho => rfl); (case hg => rfl); (case hn => rfl); (case hr => exact sE); intro w9 hw; have HB6 := Aside0.mk (show Below w3.heap.size w3 w9 by rw [hw]; exact below_set (below_set (below_set HB5.out HGO.out) HGO.out) HGO.out); have BM6 := Aside0.mk (show w9.heap[gM]? = some (.cells #[.int .i64 m.f0, .string m.f1, .bool m.f2] 31 (0, 0)) by rw [hw]; exact (Below.heap_setCell _ _ _ gM HNO.out).trans ((Below.heap_setCell _ _ _ gM HNO.out).trans ((Below.heap_setCell _ _ _ gM HNO.out).trans BM5.out))); have hbo_ : w9.heap[gO]? = some (.cells #[.int .i64 o.f0, .string o.f1, .bool o.f2] 31 (0, 0)) := (by rw [hw]; exact blk_put (cs := #[.int .i64 o.f0, .string o.f1, .bool false]) (blk_put (cs := #[.int .i64 o.f0, .string ⟨#[]⟩, .bool false]) (blk_put (cs := #[.int .i64 0, .string ⟨#[]⟩, .bool false]) BO.out 0 _ rfl) 1 _ rfl) 2 _ rfl); have hcO1 : w9.cell? ⟨gO, 1, none⟩ = some (.string o.f1) := (blk_cell hbo_ 1).trans rfl; have hcO2 : w9.cell? ⟨gO, 2, none⟩ = some (.bool o.f2) := (blk_cell hbo_ 2).trans rfl; have hcM3 : w9.cell? ⟨gM, 1, none⟩ = some (.string m.f1) := (blk_cell BM6.out 1).trans rfl; clear hw hbo_ HB5 BM5 BO hdz0 hdz1 hdz2 hfz0 hfz1 hfz2))
      go_roundg go2
      case measure => omega
      case rel => exact ⟨j + 1, on, by omega, by go_num, rfl, HB6, BM6, HE3⟩
end Go.Proofs.Ytndgkdnbacoenab.PFnMeant
namespace Go.Proofs.YtndgkdnbacoenabO
open Go.ChangeShapes Go.WideShapes Go.Proofs.YtndgkdnbacoenabW.PrintWords Go.RowKit
def InU8 (n : Int) : Prop := 0 ≤ n ∧ n ≤ 255
def Opens {α : Type} (P : Program) (t : TypeId) (d : Kd α) (g : α → Prop) : Prop :=
  ∀ {H : Type} (enc : TypeId × Value → H) (w : World) (fuel : Nat) (cs : List Value) (y : DataW H) (ps : List MemPlace),
    DataW.trod enc P w 0 (fun _ => true) true fuel t cs = some (y, ps) → (∀ n ∈ y.weights P t, n ≤ reachBytes) → ∃ x, d.K w x cs ∧ g x
theorem Opens.imp {α : Type} {P : Program} {t : TypeId} {d : Kd α} {g g' : α → Prop} (h : Opens P t d g) (k : ∀ x, g x → g' x) : Opens P t d g' := by
  intro H enc w fuel cs y ps ht hw
  obtain ⟨x, hx, hg⟩ := h enc w fuel cs y ps ht hw
  exact ⟨x, hx, k x hg⟩
theorem opens_int {P : Program} {t : TypeId} {k : IntKind} (ht : P.underlying t = some (.int k)) : Opens P t (Kd.int k) (fun n => (Lit.int k n).wf = true) := by
  intro H enc w fuel cs y ps h _
  obtain ⟨n, rfl, _, hw⟩ := DataW.trod_int ht h
  exact ⟨n, rfl, hw⟩
theorem wf_u8 {n : Int} (h : (Lit.int .u8 n).wf = true) : InU8 n := bounds_u8 h
theorem opens_u8 {P : Program} {t : TypeId} (ht : P.underlying t = some (.int .u8)) : Opens P t (Kd.int .u8) InU8 := Opens.imp (opens_int ht) fun _ h => wf_u8 h
theorem exists_list {α : Type} (p : Nat → α → Prop) : ∀ n : Nat, (∀ i, i < n → ∃ x, p i x) → ∃ xs : List α, xs.length = n ∧ ∀ i x, xs[i]? = some x → p i x
  | 0, _ => ⟨[], rfl, fun i x h => by simp at h⟩
  | n + 1, h => by
    obtain ⟨xs, hl, hx⟩ := exists_list p n (fun i hi => h i (by omega))
    obtain ⟨x, hp⟩ := h n (by omega)
    refine ⟨xs ++ [x], by simp [hl], fun i y hy => ?_⟩
    rcases Nat.lt_or_ge i xs.length with hi | hi
    · rw [List.getElem?_append_left hi] at hy
      exact hx i y hy
    · have : i = n := by
        have := (List.getElem?_eq_some_iff.1 hy).1
        rw [List.length_append, List.length_singleton] at this
        omega
      subst this
      rw [List.getElem?_append_right hi] at hy
      rw [hl] at hy
      simp at hy
      subst hy
      exact hp
theorem add_add (ad : Addr) (i j : Nat) : (ad.add i).add j = ad.add (i + j) := by
  unfold Addr.add
  by_cases h1 : i = 0 <;> by_cases h2 : j = 0 <;> simp [h1, h2, Nat.add_assoc]
theorem weightsAll_mem {H : Type} {P : Program} {e : TypeId} : ∀ {l : List (DataW H)} {d : DataW H}, d ∈ l → ∀ n ∈ d.weights P e, n ∈ DataW.weightsAll P e l
  | [], d, h, _, _ => by simp at h
  | x :: r, d, h, n, hn => by
    simp only [DataW.weightsAll, List.mem_append]
    rcases List.mem_cons.1 h with rfl | h
    · exact .inl hn
    · exact .inr (weightsAll_mem h n hn)
theorem opens_slice {α : Type} {P : Program} {t e : TypeId} {d : Kd α} {g : α → Prop} {B : Nat} (ht : P.underlying t = some (.slice e)) (hs : P.cellsOf e = d.sz) (hB : P.bytesOf e = B) (h : Opens P e d g) :
    Opens P t (Kd.slice e d) (fun xs => xs.length * B ≤ 140737488351232 ∧ ∀ x ∈ xs, g x) := by
  intro H enc w fuel cs y ps hy hw
  rcases DataW.trod_slice ht hy with ⟨rfl, _⟩ | ⟨a, len, cap, elems, rest, n, rfl, rfl, hx, _, hlc, hcm, hel, hget, _, _⟩
  · exact ⟨[], ⟨none, 0, rfl, Nat.le_refl _, Kd.C_nil d w⟩, by simp⟩
  · obtain ⟨rfl, _⟩ := Prod.mk.inj hx
    simp only [DataW.weights, ht] at hw
    have hlen : len * B ≤ 140737488351232 := by
      have := hw _ List.mem_cons_self
      simp only [List.length_map, hB] at this
      have h2 : len * B ≤ (elems.length + rest.length) * B := Nat.mul_le_mul_right _ (by omega)
      exact Nat.le_trans h2 this
    have key : ∀ i, i < len → ∃ x, (∃ c, c.length = d.sz ∧ d.K w x c ∧ ∀ j u, c[j]? = some u → w.cell? (a.add (i * d.sz + j)) = some u) ∧ g x := by
      intro i hi
      have hg := hget i hi
      rw [List.getElem?_eq_getElem (by omega), Option.bind_eq_some_iff] at hg
      obtain ⟨c, hc, hd⟩ := hg
      obtain ⟨_, hcl, hcell⟩ := World.cells?_some hc
      obtain ⟨x, hK, hgx⟩ := h enc w n c _ _ hd (fun m hm => hw m (List.mem_cons_of_mem _ (List.mem_append_left _ (weightsAll_mem (List.mem_map_of_mem (List.getElem_mem _)) m hm))))
      refine ⟨x, ⟨c, hcl.trans hs, hK, fun j u hj => ?_⟩, hgx⟩
      have hjl : j < P.cellsOf e := by
        have := (List.getElem?_eq_some_iff.1 hj).1
        omega
      have := hcell j hjl
      rw [add_add, hj, hs] at this
      exact this
    obtain ⟨xs, hxl, hxs⟩ := exists_list _ len key
    refine ⟨xs, ⟨some a, cap, by rw [hxl], by omega, hxl ▸ ⟨hxl, by simp only [maxLen] at hcm; omega, fun _ => ⟨a, rfl, fun j p hp => (hxs j p hp).1⟩⟩⟩, by rw [hxl]; exact hlen, fun x hx => ?_⟩
    obtain ⟨i, hi, rfl⟩ := List.getElem_of_mem hx
    exact (hxs i _ (List.getElem?_eq_getElem hi)).2
theorem weights_of {H : Type} {P : Program} {ts : List TypeId} {ds : List (DataW H)} {j : Nat} {t : TypeId} {d : DataW H} (hsz : (DataW.weightsEach P ts ds).all (· ≤ reachBytes) = true) (ht : ts[j]? = some t) (hd : ds[j]? = some d) : ∀ n ∈ d.weights P t, n ≤ reachBytes := by
  intro n hn
  have := List.all_eq_true.1 hsz n (DataW.weights_mem_each ht hd n hn)
  simpa using this
theorem open_slice {α H : Type} {enc : TypeId × Value → H} {P : Program} {W : World} {t e : TypeId} {d : Kd α} {g : List α → Prop} {a : Option Addr} {len cap : Nat} {y : DataW H} {ps : List MemPlace} (h : Opens P t (Kd.slice e d) g)
    (hy : DataW.Trod enc P W 0 (fun _ => true) true t (.slice a len cap) y ps) (hw : ∀ n ∈ y.weights P t, n ≤ reachBytes) : ∃ xs : List α, len = xs.length ∧ xs.length ≤ cap ∧ d.C W a xs.length xs ∧ g xs := by
  obtain ⟨fuel, hf⟩ := hy
  obtain ⟨xs, ⟨A, c, he, hl, hC⟩, hg⟩ := h enc W fuel _ y ps hf hw
  have he' : Value.slice a len cap = .slice A xs.length c := by simpa [Value.cells] using he
  injection he' with h1 h2 h3
  subst h1 h2 h3
  exact ⟨xs, rfl, hl, hC, hg⟩
end Go.Proofs.YtndgkdnbacoenabO
namespace Go.Proofs.Ytndgkdnbacoenab.OFnMeant
open Go.RowKit Go.Proofs.Ytndgkdnbacoenab.PFnMeant Go.Proofs.YtndgkdnbacoenabW.PrintWords Go.Proofs.YtndgkdnbacoenabO
end Go.Proofs.Ytndgkdnbacoenab.OFnMeant
namespace Go.Proofs.YtndgkdnbacoenabO
open Go.RowKit Go.Proofs.YtndgkdnbacoenabW.PrintWords Go.Proofs.YtndgkdnbacoenabW.PrintLast Go.Proofs.YtndgkdnbacoenabW.PrintMore
theorem w64 {n : Int} (h : -9223372036854775808 ≤ n) (k : n ≤ 9223372036854775807) : wrap64 n = n := by unfold wrap64; omega
theorem w64s (i : Nat) (h : i < 4611686018427387904) : wrap64 ((i : Int) + 1) = ((i + 1 : Nat) : Int) := by unfold wrap64; omega
theorem ev_some {α : Type} {x r : α} (h : x = r) : Ev (fun _ => some x) r := ⟨0, fun _ _ => by rw [h]⟩
theorem ev_pos {α : Type} {c : Prop} [Decidable c] {f g : Nat → Option α} {r : α} (h : c) (k : Ev f r) : Ev (fun n => if c then f n else g n) r := by
  obtain ⟨K, hK⟩ := k
  exact ⟨K, fun n hn => (if_pos h).trans (hK n hn)⟩
theorem ev_neg {α : Type} {c : Prop} [Decidable c] {f g : Nat → Option α} {r : α} (h : ¬ c) (k : Ev g r) : Ev (fun n => if c then f n else g n) r := by
  obtain ⟨K, hK⟩ := k
  exact ⟨K, fun n hn => (if_neg h).trans (hK n hn)⟩
theorem ev_ite {α : Type} {c : Prop} [Decidable c] {f g : Nat → Option α} {r : α} (h : c → Ev f r) (k : ¬ c → Ev g r) : Ev (fun n => if c then f n else g n) r := by
  by_cases hc : c
  · exact ev_pos hc (h hc)
  · exact ev_neg hc (k hc)
theorem ev_bindc {α β : Type} {x : Option α} {f : Nat → α → Option β} {a : α} {r : β} (h : x = some a) (k : Ev (fun n => f n a) r) : Ev (fun n => x.bind (f n)) r := by
  subst h; exact k
theorem ev_for {σ ρ : Type} (n : Nat) (L : Nat → Nat → σ → Option ρ) (I : Nat → σ → Prop) (Q : ρ → Prop)
    (hend : ∀ s, I n s → ∃ r, Ev (fun k => L k n s) r ∧ Q r)
    (hstep : ∀ i s, i < n → I i s → (∃ r, Ev (fun k => L k i s) r ∧ Q r) ∨ ∃ s', I (i + 1) s' ∧ ∀ r, Ev (fun k => L k (i + 1) s') r → Ev (fun k => L k i s) r) :
    ∀ i s, i ≤ n → I i s → ∃ r, Ev (fun k => L k i s) r ∧ Q r := by
  have key : ∀ d i s, i + d = n → I i s → ∃ r, Ev (fun k => L k i s) r ∧ Q r := by
    intro d
    induction d with
    | zero => intro i s hi h; obtain rfl : i = n := by omega
              exact hend s h
    | succ d ih =>
      intro i s hi h
      rcases hstep i s (by omega) h with h' | ⟨s', hI, hr⟩
      · exact h'
      · obtain ⟨r, hr', hQ⟩ := ih (i + 1) s' (by omega) hI
        exact ⟨r, hr r hr', hQ⟩
  intro i s hi h
  exact key (n - i) i s (by omega) h
theorem ev_for1 {σ ρ : Type} (n : Nat) (L : Nat → Nat → σ → Option ρ) (I : Nat → σ → Prop) (a : ρ)
    (hend : ∀ s, I n s → Ev (fun k => L k n s) a)
    (hstep : ∀ i s, i < n → I i s → Ev (fun k => L k i s) a ∨ ∃ s', I (i + 1) s' ∧ ∀ r, Ev (fun k => L k (i + 1) s') r → Ev (fun k => L k i s) r) :
    ∀ i s, i ≤ n → I i s → Ev (fun k => L k i s) a := by
  intro i s hi h
  obtain ⟨r, hr, rfl⟩ := ev_for n L I (fun r => r = a) (fun s hs => ⟨a, hend s hs, rfl⟩) (fun i s hi hs => (hstep i s hi hs).imp (fun h => ⟨a, h, rfl⟩) id) i s hi h
  exact hr
theorem rd_get {xs : List Int} {i : Nat} (h : i < xs.length) : rd xs (i : Int) = xs[i] := by simp [rd, List.getD_eq_getElem?_getD, h]
theorem rdOf_get {α : Type} {d : α} {xs : List α} {i : Nat} (h : i < xs.length) : rdOf d xs (i : Int) = xs[i] := by simp [rdOf, List.getD_eq_getElem?_getD, h]
theorem bool_of (P : Prop) : ∃ b : Bool, b = true ↔ P := ⟨@decide P (Classical.propDecidable P), by simp⟩
theorem bool_false {P : Prop} {b : Bool} (h : b = true ↔ P) (k : ¬ P) : b = false := by
  cases b with
  | false => rfl
  | true => exact absurd (h.1 rfl) k
theorem ev_all (n : Nat) (L : Nat → Nat → Option Bool) (ok : Nat → Prop) (e b : Bool) (hb : b = true ↔ e = true ∧ ∀ i, i < n → ok i) (hend : Ev (fun k => L k n) e)
    (hyes : ∀ i, i < n → (∀ j, j < i → ok j) → ok i → ∀ r, Ev (fun k => L k (i + 1)) r → Ev (fun k => L k i) r) (hno : ∀ i, i < n → (∀ j, j < i → ok j) → ¬ ok i → Ev (fun k => L k i) false) : Ev (fun k => L k 0) b := by
  refine ev_for1 n (fun k i (_ : Unit) => L k i) (fun i _ => ∀ j, j < i → ok j) b ?_ ?_ 0 () (Nat.zero_le _) (fun j hj => by omega)
  · intro _ h
    have : b = e := by
      cases e with
      | false => exact bool_false hb (fun h => by simp at h)
      | true => exact hb.2 ⟨rfl, h⟩
    rw [this]
    exact hend
  · intro i _ hi h
    by_cases ho : ok i
    · refine .inr ⟨(), fun j hj => ?_, hyes i hi h ho⟩
      rcases Nat.lt_or_ge j i with h1 | h1
      · exact h j h1
      · obtain rfl : j = i := by omega
        exact ho
    · have : b = false := bool_false hb (fun h => ho (h.2 i hi))
      rw [this]
      exact .inl (hno i hi h ho)
theorem wrap_u64 {n : Int} (h0 : 0 ≤ n) (h1 : n ≤ 18446744073709551615) : IntKind.u64.wrap n = n := by
  have e : IntKind.u64.wrap n = n % 18446744073709551616 := by simp only [IntKind.wrap, IntKind.bits, IntKind.signed]; rfl
  rw [e]; omega
def Chain {α : Type} (E : α → Int → Int → Prop) : List α → Int → Int → Prop
  | [], c, d => c = d
  | x :: r, c, d => ∃ m, E x c m ∧ Chain E r m d
theorem Chain.snoc {α : Type} {E : α → Int → Int → Prop} : ∀ {l : List α} {c m d : Int} {x : α}, Chain E l c m → E x m d → Chain E (l ++ [x]) c d
  | [], _, _, _, _, h, k => by cases h; exact ⟨_, k, rfl⟩
  | _ :: _, _, _, _, _, ⟨q, h1, h2⟩, k => ⟨q, h1, Chain.snoc h2 k⟩
end Go.Proofs.YtndgkdnbacoenabO
