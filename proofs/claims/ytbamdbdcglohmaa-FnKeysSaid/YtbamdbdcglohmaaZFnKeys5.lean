/- Texts of a row. -/
import Derived.Test.YtbamdbdcglohmaaZFnKeys3
import Derived.Test.YtbamdbdcglohmaaZFnKeys4
import Derived.Test.YtbamdbdcglohmaaZFnKeys0
import Derived.SizedLaws
import Derived.ChangeArms
import Derived.OpenShut
import Derived.WideShapes
import Derived.WalkKit
import Derived.KernelRfl
import Derived.Laws.BitsLemmas
namespace Go.Proofs.Ytbamdbdcglohmaa.PFnKeys
open Go.RowKit Go.Proofs.YtbamdbdcglohmaaW.PrintWords Go.Proofs.YtbamdbdcglohmaaW.PrintLast Go.Proofs.YtbamdbdcglohmaaW.PrintMore
attribute [local go_sem] max2_int min2_int max_two min_two max_three min_three max_four min_four   -- for this text's walks alone
set_option linter.unusedVariables false
set_option linter.unusedSimpArgs false
mutual
def spec_l11Keys.j0 : Nat → List (S41) → Int → Bool → Option (Bool)
 | 0, _, _, _ => none
 | k + 1, x0, x1, x14 => if x14 = true then (some false) else (spec_l11Keys.l0 k x0 x1 x0 (x0.length : Int) 0)
def spec_l11Keys.l0 : Nat → List (S41) → Int → List (S41) → Int → Int → Option (Bool)
 | 0, _, _, _, _, _ => none
 | k + 1, x0, x1, x15, x16, x17 => if x17 < x16 then (if 0 ≤ x17 then (if x17 < (x15.length : Int) then ((spec_l1In.f ((rd_T41 x15 x17).f0) 0 (wrap64 (x1 - 1))).bind fun t292 => (if t292 = true then ((spec_l11Value.f ((rd_T41 x15 x17).f1)).bind fun t293 => (if t293 = true then (if x17 > 0 then (if 0 ≤ (wrap64 (x17 - 1)) then (if (wrap64 (x17 - 1)) < (x0.length : Int) then (if ((rd_T41 x0 (wrap64 (x17 - 1))).f0) ≥ ((rd_T41 x15 x17).f0) then (some false) else (spec_l11Keys.l0 k x0 x1 x15 x16 (wrap64 (x17 + 1)))) else (none)) else (none)) else (spec_l11Keys.l0 k x0 x1 x15 x16 (wrap64 (x17 + 1)))) else (some false))) else (some false))) else (none)) else (none)) else (some true)
end
def spec_l11Keys.f (k : Nat) (l0 : List (S41)) (a1 : Int) : Option (Bool) := if (l0.length : Int) < 1 then (spec_l11Keys.j0 k l0 a1 true) else (spec_l11Keys.j0 k l0 a1 (decide ((l0.length : Int) > 60)))
theorem spec_l11Keys.mono_l : ∀ k, (∀ y0 y1 y2, LeO (spec_l11Keys.j0 k y0 y1 y2) (spec_l11Keys.j0 (k + 1) y0 y1 y2)) ∧ (∀ y0 y1 y2 y3 y4, LeO (spec_l11Keys.l0 k y0 y1 y2 y3 y4) (spec_l11Keys.l0 (k + 1) y0 y1 y2 y3 y4))
 | 0 => ⟨fun _ _ _ r h => by simp [spec_l11Keys.j0] at h, fun _ _ _ _ _ r h => by simp [spec_l11Keys.l0] at h⟩
 | k + 1 => by
  obtain ⟨ih0, ih1⟩ := spec_l11Keys.mono_l k
  refine ⟨?_, ?_⟩
  ·intro y0 y1 y2
   unfold spec_l11Keys.j0
   repeat' first
   | (with_reducible exact ih0 _ _ _)
   | (with_reducible exact ih1 _ _ _ _ _)
   | (with_reducible first | exact LeO.refl _ | exact LeO.none _ | refine LeO.ite ?_ ?_ | refine LeO.bind ?_ (fun _ => ?_))
   | exact ih0 _ _ _
   | exact ih1 _ _ _ _ _ | exact LeO.none _ | refine LeO.ite ?_ ?_ | refine LeO.bind ?_ (fun _ => ?_)
  ·intro y0 y1 y2 y3 y4
   unfold spec_l11Keys.l0
   repeat' first
   | (with_reducible exact ih0 _ _ _)
   | (with_reducible exact ih1 _ _ _ _ _)
   | (with_reducible first | exact LeO.refl _ | exact LeO.none _ | refine LeO.ite ?_ ?_ | refine LeO.bind ?_ (fun _ => ?_))
   | exact ih0 _ _ _
   | exact ih1 _ _ _ _ _ | exact LeO.none _ | refine LeO.ite ?_ ?_ | refine LeO.bind ?_ (fun _ => ?_)
theorem spec_l11Keys.mono : ∀ a0 a1 k, LeO (spec_l11Keys.f k a0 a1) (spec_l11Keys.f (k + 1) a0 a1) := by
 intro a0 a1 k
 obtain ⟨ih0, ih1⟩ := spec_l11Keys.mono_l k
 unfold spec_l11Keys.f
 repeat' first
   | (with_reducible exact ih0 _ _ _)
   | (with_reducible exact ih1 _ _ _ _ _)
   | (with_reducible first | exact LeO.refl _ | exact LeO.none _ | refine LeO.ite ?_ ?_ | refine LeO.bind ?_ (fun _ => ?_))
   | exact ih0 _ _ _
   | exact ih1 _ _ _ _ _ | exact LeO.none _ | refine LeO.ite ?_ ?_ | refine LeO.bind ?_ (fun _ => ?_)
set_option maxHeartbeats 8000000 in
set_option maxRecDepth 100000 in
theorem spec_l11Keys.calls (k : Nat) (A0 : Option Addr) (c0 : Nat) (l0 : List (S41)) (a1 : Int) (r : Bool) (w : World) (hr0 : Kd.C k41 w A0 l0.length l0) (hc0 : l0.length ≤ c0) (h : spec_l11Keys.f k l0 a1 = some r) :
  Calls Try.prog 31 #[.slice A0 l0.length c0, .int .i64 a1] w fun e w' => e = .returned (.bool r) ∧ Below w.heap.size w w' := by
 have hu41 := Try.underlying41
 have HR0 := Aside0.mk hr0
 have HC0 := Aside0.mk hc0
 clear hr0 hc0
 have HB := Aside0.mk (Below.refl w.heap.size w)
 have H : (if (l0.length : Int) < 1 then (spec_l11Keys.j0 k l0 a1 true) else (spec_l11Keys.j0 k l0 a1 (decide ((l0.length : Int) > 60)))) = some r := h
 clear h
 have HC3 := Aside0.mk H
 clear H
 go_enter Try.func31, Try.ntmps31
 go_upto_region 1 with (fail)
 repeat (go_quiet (fail); go_upto_region 1 with (fail))
 go_cut [14] (fun v14 wc => ∃ (kq : Nat) (x14_2 : Bool), v14 = .bool x14_2 ∧ Aside0 (spec_l11Keys.j0 kq l0 a1 x14_2 = some r) ∧ Aside0 (kq ≤ k) ∧ Aside0 (Below w.heap.size w wc))
 case first =>
  have H := HC3.out
  clear HC3
  by_cases c4 : (l0.length : Int) < 1
  ·rw [if_pos c4] at H
   have c4b0 : decide ((l0.length : Int) < 1) = true := decide_eq_true c4
   have c4b1 : decide (l0.length < 1) = true := decide_eq_true (by omega)
   clear c4
   (first | rw [c4b0] | (simp only [i64_w, i32_w]; rw [c4b0]) | (rw [c4b2]; simp only [Bool.not_false, Bool.not_true]) | skip)
   have H' := Aside0.mk H
   clear H
   go_wp2
   repeat (go_quiet (fail); try go_wp2)
   go_meet
   case rel => exact ⟨_, (true), tE, H', ⟨by first | omega | exact Nat.le_refl _⟩, ⟨by repeat (first | (with_reducible first | exact HB.out | apply below_alloc | apply pw_below_drewN | apply below_drew1) | exact HB.out)⟩⟩
  ·rw [if_neg c4] at H
   have c4b0 : decide ((l0.length : Int) < 1) = false := decide_eq_false c4
   have c4b1 : decide (l0.length < 1) = false := decide_eq_false (by omega)
   clear c4
   (first | rw [c4b0] | (simp only [i64_w, i32_w]; rw [c4b0]) | (rw [c4b2]; simp only [Bool.not_false, Bool.not_true]) | skip)
   have H' := Aside0.mk H
   clear H
   go_wp2
   repeat (go_quiet (fail); try go_wp2)
   go_meet
   case rel => exact ⟨_, (decide ((l0.length : Int) > 60)), tE, H', ⟨by first | omega | exact Nat.le_refl _⟩, ⟨by repeat (first | (with_reducible first | exact HB.out | apply below_alloc | apply pw_below_drewN | apply below_drew1) | exact HB.out)⟩⟩
 case rest =>
  clear HC3
  try clear p2
  try clear c3
  try clear c4
  try clear c4b0
  try clear c4b1
  try clear c4b2
  obtain ⟨kq, x14_2, rfl, HA, HJ2, HB⟩ := hcut
  cases kq with
  | zero => exact absurd HA.out (by simp [spec_l11Keys.j0])
  | succ kj2 =>
   have H := HA.out
   clear HA
   simp only [spec_l11Keys.j0] at H
   by_cases c5 : x14_2 = true
   ·subst c5
    have H1 : (some false) = some r := by rw [if_pos rfl] at H; exact H
    clear H
    have H := H1
    clear H1
    obtain rfl := Option.some.inj H
    go_wp2
    repeat (go_quiet (fail); try go_wp2)
    go_ret
    exact ⟨eE, lU⟩
   ·replace c5 := Bool.eq_false_iff.mpr c5
    subst c5
    have H1 : (spec_l11Keys.l0 kj2 l0 a1 l0 (l0.length : Int) 0) = some r := by rw [if_neg (show ¬ (false = true) by decide)] at H; exact H
    clear H
    have H := H1
    clear H1
    have H' := Aside0.mk H
    clear H
    go_wp2
    repeat (go_quiet (fail); try go_wp2)
    go_loopg [17] kj2 (fun kq v17 w' => ∃ (x17_2 : Int), v17 = .int .i64 x17_2 ∧ Aside0 (spec_l11Keys.l0 kq l0 a1 l0 (l0.length : Int) x17_2 = some r) ∧ Aside0 (kq ≤ kj2) ∧ Aside0 (Below w.heap.size w w'))
    case atStart => exact ⟨(0), tE, H', ⟨Nat.le_refl _⟩, ⟨by repeat (first | (with_reducible first | exact HB.out | apply below_alloc | apply pw_below_drewN | apply below_drew1) | exact HB.out)⟩⟩
    case round =>
     clear H'
     try clear p2
     try clear c3
     try clear c4
     try clear c4b0
     try clear c4b1
     try clear c4b2
     try clear c5
     try clear p2
     obtain ⟨x17_2, rfl, HA, HK2, HB⟩ := hrel
     cases gk with
     | zero => exact absurd HA.out (by simp [spec_l11Keys.l0])
     | succ k2 =>
      have H := HA.out
      clear HA
      simp only [spec_l11Keys.l0] at H
      by_cases c6 : x17_2 < (l0.length : Int)
      ·rw [if_pos c6] at H
       have c6b0 : decide (x17_2 < (l0.length : Int)) = true := decide_eq_true c6
       clear c6
       by_cases c7 : 0 ≤ x17_2
       ·rw [if_pos c7] at H
        have c7b0 : decide (0 ≤ x17_2) = true := decide_eq_true c7
        clear c7
        by_cases c8 : x17_2 < (l0.length : Int)
        ·rw [if_pos c8] at H
         have c8b0 : decide (x17_2 < (l0.length : Int)) = true := decide_eq_true c8
         clear c8
         replace H := Option.bind_eq_some_iff.mp H
         obtain ⟨t292, A90, H⟩ := H
         replace H : (if t292 = true then ((spec_l11Value.f ((rd_T41 l0 x17_2).f1)).bind fun t293 => (if t293 = true then (if x17_2 > 0 then (if 0 ≤ (wrap64 (x17_2 - 1)) then (if (wrap64 (x17_2 - 1)) < (l0.length : Int) then (if ((rd_T41 l0 (wrap64 (x17_2 - 1))).f0) ≥ ((rd_T41 l0 x17_2).f0) then (some false) else (spec_l11Keys.l0 k2 l0 a1 l0 (l0.length : Int) (wrap64 (x17_2 + 1)))) else (none)) else (none)) else (spec_l11Keys.l0 k2 l0 a1 l0 (l0.length : Int) (wrap64 (x17_2 + 1)))) else (some false))) else (some false)) = some r := H
         have A9 := Aside0.mk A90
         clear A90
         by_cases c10 : t292 = true
         ·subst c10
          have H1 : ((spec_l11Value.f ((rd_T41 l0 x17_2).f1)).bind fun t293 => (if t293 = true then (if x17_2 > 0 then (if 0 ≤ (wrap64 (x17_2 - 1)) then (if (wrap64 (x17_2 - 1)) < (l0.length : Int) then (if ((rd_T41 l0 (wrap64 (x17_2 - 1))).f0) ≥ ((rd_T41 l0 x17_2).f0) then (some false) else (spec_l11Keys.l0 k2 l0 a1 l0 (l0.length : Int) (wrap64 (x17_2 + 1)))) else (none)) else (none)) else (spec_l11Keys.l0 k2 l0 a1 l0 (l0.length : Int) (wrap64 (x17_2 + 1)))) else (some false))) = some r := by rw [if_pos rfl] at H; exact H
          clear H
          have H := H1
          clear H1
          replace H := Option.bind_eq_some_iff.mp H
          obtain ⟨t293, A110, H⟩ := H
          replace H : (if t293 = true then (if x17_2 > 0 then (if 0 ≤ (wrap64 (x17_2 - 1)) then (if (wrap64 (x17_2 - 1)) < (l0.length : Int) then (if ((rd_T41 l0 (wrap64 (x17_2 - 1))).f0) ≥ ((rd_T41 l0 x17_2).f0) then (some false) else (spec_l11Keys.l0 k2 l0 a1 l0 (l0.length : Int) (wrap64 (x17_2 + 1)))) else (none)) else (none)) else (spec_l11Keys.l0 k2 l0 a1 l0 (l0.length : Int) (wrap64 (x17_2 + 1)))) else (some false)) = some r := H
          have A11 := Aside0.mk A110
          clear A110
          by_cases c12 : t293 = true
          ·subst c12
           have H1 : (if x17_2 > 0 then (if 0 ≤ (wrap64 (x17_2 - 1)) then (if (wrap64 (x17_2 - 1)) < (l0.length : Int) then (if ((rd_T41 l0 (wrap64 (x17_2 - 1))).f0) ≥ ((rd_T41 l0 x17_2).f0) then (some false) else (spec_l11Keys.l0 k2 l0 a1 l0 (l0.length : Int) (wrap64 (x17_2 + 1)))) else (none)) else (none)) else (spec_l11Keys.l0 k2 l0 a1 l0 (l0.length : Int) (wrap64 (x17_2 + 1)))) = some r := by rw [if_pos rfl] at H; exact H
           clear H
           have H := H1
           clear H1
           by_cases c13 : x17_2 > 0
           ·rw [if_pos c13] at H
            have c13b0 : decide (0 < x17_2) = true := decide_eq_true c13
            clear c13
            obtain ⟨ji14, hji14⟩ : ∃ j_ : Int, (wrap64 (x17_2 - 1)) = j_ := ⟨_, rfl⟩
            replace H : (if 0 ≤ (ji14) then (if (ji14) < (l0.length : Int) then (if ((rd_T41 l0 (ji14)).f0) ≥ ((rd_T41 l0 x17_2).f0) then (some false) else (spec_l11Keys.l0 k2 l0 a1 l0 (l0.length : Int) (wrap64 (x17_2 + 1)))) else (none)) else (none)) = some r := by first | (rw [hji14] at H; exact H) | (simp only [hji14] at H ⊢; exact H)
            (try rw [hji14] at A9)
            (try rw [hji14] at A11)
            have hji14w : (IntKind.i64.wrap (x17_2 - 1)) = ji14 := (i64_w _).trans hji14
            by_cases c15 : 0 ≤ (ji14)
            ·rw [if_pos c15] at H
             have c15b0 : decide (0 ≤ (ji14)) = true := decide_eq_true c15
             clear c15
             by_cases c16 : (ji14) < (l0.length : Int)
             ·rw [if_pos c16] at H
              have c16b0 : decide ((ji14) < (l0.length : Int)) = true := decide_eq_true c16
              clear c16
              by_cases c17 : ((rd_T41 l0 (ji14)).f0) ≥ ((rd_T41 l0 x17_2).f0)
              ·rw [if_pos c17] at H
               have c17b0 : decide (((rd_T41 l0 x17_2).f0) ≤ ((rd_T41 l0 (ji14)).f0)) = true := decide_eq_true c17
               clear c17
               obtain rfl := Option.some.inj H
               have p290 : 0 ≤ (x17_2 : Int) := of_decide_eq_true hE
               have q290 : x17_2 < (l0.length : Int) := of_decide_eq_true hE
               obtain ⟨ad290, e290, hx290_0, hx290_1⟩ := at_T41 HR0.out x17_2 p290 q290
               cases e290
               replace hx290_0 := (HB.out.cell (World.block_lt_of_cell? w _ hx290_0)).trans hx290_0
               replace hx290_1 := (HB.out.cell (World.block_lt_of_cell? w _ hx290_1)).trans hx290_1
               replace p290 := eq_true p290
               replace q290 := eq_true q290
               go_wp2_with (first | ((with_reducible refine gate_dst (N := 6) rfl ?_); (try (refine gate_guard (by rfl) ?_; dsimp only)); refine box_event rfl (N := 6) rfl (cs := #[.int .i64 0, .int .i64 0]) (t := 41) sE ?_; intro gb291 hg w18 hbox hb; have BK291 := Aside0.mk hbox; have GW291 := gS w hg (lU); have GE291 := gS w hg (lU); replace HB := bH (lU) hb; clear hb hbox hg; have hcz19_0 := cz BK291 0 (.int .i64 0); have hcz19_1 := cz BK291 1 (.int .i64 0); have hfz19_0 := fz BK291 0; have hfz19_1 := fz BK291 1) | ((with_reducible refine gate_store (t := 41) (p := 6) rfl ?_); (try (rw [drewN_self w18]; generalize hq_ : World.drewN w18 _ = w18; replace BK291 := Aside0.mk (blk_at hq_ BK291.out); replace HB := Aside0.mk (below_at hq_ HB.out); clear hq_)); refine store_event (t := 41) (p := 6) (v := ?vo_w20) (w1 := ((w18.setCell ⟨gb291, 0, none⟩ (.int .i64 ((rd_T41 l0 x17_2).f0))).setCell ⟨gb291, 1, none⟩ (.int .i64 ((rd_T41 l0 x17_2).f1)))) ?hg ?ho ?hn ?hr ?_; (case ho => rfl); (case hg => rfl); (case hn => rfl); (case hr => first | (go_simp; done) | (go_simp; rfl) | (have hq0_ := (blk_cell BK291.out 0).trans (show _ = some _ from rfl); have hf0_ := blk_frozen BK291.out 0; have hq1_ := (blk_cell BK291.out 1).trans (show _ = some _ from rfl); have hf1_ := blk_frozen BK291.out 1; first | (go_simp; done) | (go_simp; rfl))); intro w20 hw; replace BK291 : Aside0 (w20.heap[gb291]? = some (.cells #[.int .i64 ((rd_T41 l0 x17_2).f0), .int .i64 ((rd_T41 l0 x17_2).f1)] 41 (0, 0))) := ⟨(by rw [hw]; exact (by refine bU ?_; refine blk_put (cs := #[.int .i64 ((rd_T41 l0 x17_2).f0), .int .i64 0]) ?_ 1 _ rfl; refine bU ?_; refine blk_put (cs := #[.int .i64 0, .int .i64 0]) ?_ 0 _ rfl; refine bU ?_; exact BK291.out))⟩; replace HB : Aside0 (Below w.heap.size w w20) := ⟨(by rw [hw]; exact (lV1 GE291))⟩; clear hw; have hcz21_0 := cz BK291 0 (.int .i64 ((rd_T41 l0 x17_2).f0)); have hcz21_1 := cz BK291 1 (.int .i64 ((rd_T41 l0 x17_2).f1)); have hfz21_0 := fz BK291 0; have hfz21_1 := fz BK291 1) | (go_at_call 26; (with_reducible refine (spec_l1In.calls ((rd_T41 l0 x17_2).f0) 0 (wrap64 (a1 - 1)) true _ A9.out).mono ?_); rintro e w' ⟨rfl, ⟨nd, rfl⟩⟩; (try first | exact ⟨rfl, _, World.drewN_drewN _ _ _⟩ | exact ⟨rfl, _, Eq.trans (World.drewN_drewN _ _ _) (congrArg (World.drewN _) (Nat.add_assoc _ _ _))⟩)) | (go_at_call 41; (with_reducible refine (spec_l11Value.calls ((rd_T41 l0 x17_2).f1) true _ A11.out).mono ?_); rintro e w' ⟨rfl, ⟨nd, rfl⟩⟩; (try first | exact ⟨rfl, _, World.drewN_drewN _ _ _⟩ | exact ⟨rfl, _, Eq.trans (World.drewN_drewN _ _ _) (congrArg (World.drewN _) (Nat.add_assoc _ _ _))⟩); have p294 : 0 ≤ ((ji14) : Int) := of_decide_eq_true hE; have q294 : (ji14) < (l0.length : Int) := of_decide_eq_true hE; obtain ⟨ad294, e294, hx294_0, hx294_1⟩ := at_T41 HR0.out (ji14) p294 q294; obtain rfl : ad290 = ad294 := (by injection e294); replace hx294_0 := (HB.out.cell (World.block_lt_of_cell? w _ hx294_0)).trans hx294_0; replace hx294_1 := (HB.out.cell (World.block_lt_of_cell? w _ hx294_1)).trans hx294_1; replace p294 := eq_true p294; replace q294 := eq_true q294))
               have p294 : 0 ≤ ((ji14) : Int) := of_decide_eq_true hE
               have q294 : (ji14) < (l0.length : Int) := of_decide_eq_true hE
               obtain ⟨ad294, e294, hx294_0, hx294_1⟩ := at_T41 HR0.out (ji14) p294 q294
               obtain rfl : ad290 = ad294 := (by injection e294)
               replace hx294_0 := (HB.out.cell (World.block_lt_of_cell? w _ hx294_0)).trans hx294_0
               replace hx294_1 := (HB.out.cell (World.block_lt_of_cell? w _ hx294_1)).trans hx294_1
               replace p294 := eq_true p294
               replace q294 := eq_true q294
               repeat (go_quiet (first | ((with_reducible refine gate_dst (N := 6) rfl ?_); (try (refine gate_guard (by rfl) ?_; dsimp only)); refine box_event rfl (N := 6) rfl (cs := #[.int .i64 0, .int .i64 0]) (t := 41) sE ?_; intro gb291 hg w18 hbox hb; have BK291 := Aside0.mk hbox; have GW291 := gS w hg (lU); have GE291 := gS w hg (lU); replace HB := bH (lU) hb; clear hb hbox hg; have hcz19_0 := cz BK291 0 (.int .i64 0); have hcz19_1 := cz BK291 1 (.int .i64 0); have hfz19_0 := fz BK291 0; have hfz19_1 := fz BK291 1) | ((with_reducible refine gate_store (t := 41) (p := 6) rfl ?_); (try (rw [drewN_self w18]; generalize hq_ : World.drewN w18 _ = w18; replace BK291 := Aside0.mk (blk_at hq_ BK291.out); replace HB := Aside0.mk (below_at hq_ HB.out); clear hq_)); refine store_event (t := 41) (p := 6) (v := ?vo_w20) (w1 := ((w18.setCell ⟨gb291, 0, none⟩ (.int .i64 ((rd_T41 l0 x17_2).f0))).setCell ⟨gb291, 1, none⟩ (.int .i64 ((rd_T41 l0 x17_2).f1)))) ?hg ?ho ?hn ?hr ?_; (case ho => rfl); (case hg => rfl); (case hn => rfl); (case hr => first | (go_simp; done) | (go_simp; rfl) | (have hq0_ := (blk_cell BK291.out 0).trans (show _ = some _ from rfl); have hf0_ := blk_frozen BK291.out 0; have hq1_ := (blk_cell BK291.out 1).trans (show _ = some _ from rfl); have hf1_ := blk_frozen BK291.out 1; first | (go_simp; done) | (go_simp; rfl))); intro w20 hw; replace BK291 : Aside0 (w20.heap[gb291]? = some (.cells #[.int .i64 ((rd_T41 l0 x17_2).f0), .int .i64 ((rd_T41 l0 x17_2).f1)] 41 (0, 0))) := ⟨(by rw [hw]; exact (by refine bU ?_; refine blk_put (cs := #[.int .i64 ((rd_T41 l0 x17_2).f0), .int .i64 0]) ?_ 1 _ rfl; refine bU ?_; refine blk_put (cs := #[.int .i64 0, .int .i64 0]) ?_ 0 _ rfl; refine bU ?_; exact BK291.out))⟩; replace HB : Aside0 (Below w.heap.size w w20) := ⟨(by rw [hw]; exact (lV1 GE291))⟩; clear hw; have hcz21_0 := cz BK291 0 (.int .i64 ((rd_T41 l0 x17_2).f0)); have hcz21_1 := cz BK291 1 (.int .i64 ((rd_T41 l0 x17_2).f1)); have hfz21_0 := fz BK291 0; have hfz21_1 := fz BK291 1) | (go_at_call 26; (with_reducible refine (spec_l1In.calls ((rd_T41 l0 x17_2).f0) 0 (wrap64 (a1 - 1)) true _ A9.out).mono ?_); rintro e w' ⟨rfl, ⟨nd, rfl⟩⟩; (try first | exact ⟨rfl, _, World.drewN_drewN _ _ _⟩ | exact ⟨rfl, _, Eq.trans (World.drewN_drewN _ _ _) (congrArg (World.drewN _) (Nat.add_assoc _ _ _))⟩)) |(go_at_call 41; (with_reducible refine (spec_l11Value.calls ((rd_T41 l0 x17_2).f1) true _ A11.out).mono ?_); rintro e w' ⟨rfl, ⟨nd, rfl⟩⟩; (try first | exact ⟨rfl, _, World.drewN_drewN _ _ _⟩ | exact ⟨rfl, _, Eq.trans (World.drewN_drewN _ _ _) (congrArg (World.drewN _) (Nat.add_assoc _ _ _))⟩)) ); try go_wp2_with (first | ((with_reducible refine gate_dst (N := 6) rfl ?_); (try (refine gate_guard (by rfl) ?_; dsimp only)); refine box_event rfl (N := 6) rfl (cs := #[.int .i64 0, .int .i64 0]) (t := 41) sE ?_; intro gb291 hg w18 hbox hb; have BK291 := Aside0.mk hbox; have GW291 := gS w hg (lU); have GE291 := gS w hg (lU); replace HB := bH (lU) hb; clear hb hbox hg; have hcz19_0 := cz BK291 0 (.int .i64 0); have hcz19_1 := cz BK291 1 (.int .i64 0); have hfz19_0 := fz BK291 0; have hfz19_1 := fz BK291 1) | ((with_reducible refine gate_store (t := 41) (p := 6) rfl ?_); (try (rw [drewN_self w18]; generalize hq_ : World.drewN w18 _ = w18; replace BK291 := Aside0.mk (blk_at hq_ BK291.out); replace HB := Aside0.mk (below_at hq_ HB.out); clear hq_)); refine store_event (t := 41) (p := 6) (v := ?vo_w20) (w1 := ((w18.setCell ⟨gb291, 0, none⟩ (.int .i64 ((rd_T41 l0 x17_2).f0))).setCell ⟨gb291, 1, none⟩ (.int .i64 ((rd_T41 l0 x17_2).f1)))) ?hg ?ho ?hn ?hr ?_; (case ho => rfl); (case hg => rfl); (case hn => rfl); (case hr => first | (go_simp; done) | (go_simp; rfl) | (have hq0_ := (blk_cell BK291.out 0).trans (show _ = some _ from rfl); have hf0_ := blk_frozen BK291.out 0; have hq1_ := (blk_cell BK291.out 1).trans (show _ = some _ from rfl); have hf1_ := blk_frozen BK291.out 1; first | (go_simp; done) | (go_simp; rfl))); intro w20 hw; replace BK291 : Aside0 (w20.heap[gb291]? = some (.cells #[.int .i64 ((rd_T41 l0 x17_2).f0), .int .i64 ((rd_T41 l0 x17_2).f1)] 41 (0, 0))) := ⟨(by rw [hw]; exact (by refine bU ?_; refine blk_put (cs := #[.int .i64 ((rd_T41 l0 x17_2).f0), .int .i64 0]) ?_ 1 _ rfl; refine bU ?_; refine blk_put (cs := #[.int .i64 0, .int .i64 0]) ?_ 0 _ rfl; refine bU ?_; exact BK291.out))⟩; replace HB : Aside0 (Below w.heap.size w w20) := ⟨(by rw [hw]; exact (lV1 GE291))⟩; clear hw; have hcz21_0 := cz BK291 0 (.int .i64 ((rd_T41 l0 x17_2).f0)); have hcz21_1 := cz BK291 1 (.int .i64 ((rd_T41 l0 x17_2).f1)); have hfz21_0 := fz BK291 0; have hfz21_1 := fz BK291 1) | (go_at_call 26; (with_reducible refine (spec_l1In.calls ((rd_T41 l0 x17_2).f0) 0 (wrap64 (a1 - 1)) true _ A9.out).mono ?_); rintro e w' ⟨rfl, ⟨nd, rfl⟩⟩; (try first | exact ⟨rfl, _, World.drewN_drewN _ _ _⟩ | exact ⟨rfl, _, Eq.trans (World.drewN_drewN _ _ _) (congrArg (World.drewN _) (Nat.add_assoc _ _ _))⟩)) | (go_at_call 41; (with_reducible refine (spec_l11Value.calls ((rd_T41 l0 x17_2).f1) true _ A11.out).mono ?_); rintro e w' ⟨rfl, ⟨nd, rfl⟩⟩; (try first | exact ⟨rfl, _, World.drewN_drewN _ _ _⟩ | exact ⟨rfl, _, Eq.trans (World.drewN_drewN _ _ _) (congrArg (World.drewN _) (Nat.add_assoc _ _ _))⟩); have p294 : 0 ≤ ((ji14) : Int) := of_decide_eq_true hE; have q294 : (ji14) < (l0.length : Int) := of_decide_eq_true hE; obtain ⟨ad294, e294, hx294_0, hx294_1⟩ := at_T41 HR0.out (ji14) p294 q294; obtain rfl : ad290 = ad294 := (by injection e294); replace hx294_0 := (HB.out.cell (World.block_lt_of_cell? w _ hx294_0)).trans hx294_0; replace hx294_1 := (HB.out.cell (World.block_lt_of_cell? w _ hx294_1)).trans hx294_1; replace p294 := eq_true p294; replace q294 := eq_true q294)))
               go_ret
               exact ⟨by first | rfl | (simp [errW_none, errW_some] <;> rfl) | (simp only [← hji14]; first | rfl | (simp [errW_none, errW_some] <;> rfl)) | (simp [*, errW_none, errW_some] <;> rfl), lV1 GE291⟩
              ·rw [if_neg c17] at H
               have c17b0 : decide (((rd_T41 l0 x17_2).f0) ≤ ((rd_T41 l0 (ji14)).f0)) = false := decide_eq_false c17
               clear c17
               have H' := Aside0.mk H
               clear H
               have p290 : 0 ≤ (x17_2 : Int) := of_decide_eq_true hE
               have q290 : x17_2 < (l0.length : Int) := of_decide_eq_true hE
               obtain ⟨ad290, e290, hx290_0, hx290_1⟩ := at_T41 HR0.out x17_2 p290 q290
               cases e290
               replace hx290_0 := (HB.out.cell (World.block_lt_of_cell? w _ hx290_0)).trans hx290_0
               replace hx290_1 := (HB.out.cell (World.block_lt_of_cell? w _ hx290_1)).trans hx290_1
               replace p290 := eq_true p290
               replace q290 := eq_true q290
               go_wp2_with (first | ((with_reducible refine gate_dst (N := 6) rfl ?_); (try (refine gate_guard (by rfl) ?_; dsimp only)); refine box_event rfl (N := 6) rfl (cs := #[.int .i64 0, .int .i64 0]) (t := 41) sE ?_; intro gb291 hg w22 hbox hb; have BK291 := Aside0.mk hbox; have GW291 := gS w hg (lU); have GE291 := gS w hg (lU); replace HB := bH (lU) hb; clear hb hbox hg; have hcz23_0 := cz BK291 0 (.int .i64 0); have hcz23_1 := cz BK291 1 (.int .i64 0); have hfz23_0 := fz BK291 0; have hfz23_1 := fz BK291 1) | ((with_reducible refine gate_store (t := 41) (p := 6) rfl ?_); (try (rw [drewN_self w22]; generalize hq_ : World.drewN w22 _ = w22; replace BK291 := Aside0.mk (blk_at hq_ BK291.out); replace HB := Aside0.mk (below_at hq_ HB.out); clear hq_)); refine store_event (t := 41) (p := 6) (v := ?vo_w24) (w1 := ((w22.setCell ⟨gb291, 0, none⟩ (.int .i64 ((rd_T41 l0 x17_2).f0))).setCell ⟨gb291, 1, none⟩ (.int .i64 ((rd_T41 l0 x17_2).f1)))) ?hg ?ho ?hn ?hr ?_; (case ho => rfl); (case hg => rfl); (case hn => rfl); (case hr => first | (go_simp; done) | (go_simp; rfl) | (have hq0_ := (blk_cell BK291.out 0).trans (show _ = some _ from rfl); have hf0_ := blk_frozen BK291.out 0; have hq1_ := (blk_cell BK291.out 1).trans (show _ = some _ from rfl); have hf1_ := blk_frozen BK291.out 1; first | (go_simp; done) | (go_simp; rfl))); intro w24 hw; replace BK291 : Aside0 (w24.heap[gb291]? = some (.cells #[.int .i64 ((rd_T41 l0 x17_2).f0), .int .i64 ((rd_T41 l0 x17_2).f1)] 41 (0, 0))) := ⟨(by rw [hw]; exact (by refine bU ?_; refine blk_put (cs := #[.int .i64 ((rd_T41 l0 x17_2).f0), .int .i64 0]) ?_ 1 _ rfl; refine bU ?_; refine blk_put (cs := #[.int .i64 0, .int .i64 0]) ?_ 0 _ rfl; refine bU ?_; exact BK291.out))⟩; replace HB : Aside0 (Below w.heap.size w w24) := ⟨(by rw [hw]; exact (lV1 GE291))⟩; clear hw; have hcz25_0 := cz BK291 0 (.int .i64 ((rd_T41 l0 x17_2).f0)); have hcz25_1 := cz BK291 1 (.int .i64 ((rd_T41 l0 x17_2).f1)); have hfz25_0 := fz BK291 0; have hfz25_1 := fz BK291 1) | (go_at_call 26; (with_reducible refine (spec_l1In.calls ((rd_T41 l0 x17_2).f0) 0 (wrap64 (a1 - 1)) true _ A9.out).mono ?_); rintro e w' ⟨rfl, ⟨nd, rfl⟩⟩; (try first | exact ⟨rfl, _, World.drewN_drewN _ _ _⟩ | exact ⟨rfl, _, Eq.trans (World.drewN_drewN _ _ _) (congrArg (World.drewN _) (Nat.add_assoc _ _ _))⟩)) | (go_at_call 41; (with_reducible refine (spec_l11Value.calls ((rd_T41 l0 x17_2).f1) true _ A11.out).mono ?_); rintro e w' ⟨rfl, ⟨nd, rfl⟩⟩; (try first | exact ⟨rfl, _, World.drewN_drewN _ _ _⟩ | exact ⟨rfl, _, Eq.trans (World.drewN_drewN _ _ _) (congrArg (World.drewN _) (Nat.add_assoc _ _ _))⟩); have p294 : 0 ≤ ((ji14) : Int) := of_decide_eq_true hE; have q294 : (ji14) < (l0.length : Int) := of_decide_eq_true hE; obtain ⟨ad294, e294, hx294_0, hx294_1⟩ := at_T41 HR0.out (ji14) p294 q294; obtain rfl : ad290 = ad294 := (by injection e294); replace hx294_0 := (HB.out.cell (World.block_lt_of_cell? w _ hx294_0)).trans hx294_0; replace hx294_1 := (HB.out.cell (World.block_lt_of_cell? w _ hx294_1)).trans hx294_1; replace p294 := eq_true p294; replace q294 := eq_true q294))
               have p294 : 0 ≤ ((ji14) : Int) := of_decide_eq_true hE
               have q294 : (ji14) < (l0.length : Int) := of_decide_eq_true hE
               obtain ⟨ad294, e294, hx294_0, hx294_1⟩ := at_T41 HR0.out (ji14) p294 q294
               obtain rfl : ad290 = ad294 := (by injection e294)
               replace hx294_0 := (HB.out.cell (World.block_lt_of_cell? w _ hx294_0)).trans hx294_0
               replace hx294_1 := (HB.out.cell (World.block_lt_of_cell? w _ hx294_1)).trans hx294_1
               replace p294 := eq_true p294
               replace q294 := eq_true q294
               repeat (go_quiet (first | ((with_reducible refine gate_dst (N := 6) rfl ?_); (try (refine gate_guard (by rfl) ?_; dsimp only)); refine box_event rfl (N := 6) rfl (cs := #[.int .i64 0, .int .i64 0]) (t := 41) sE ?_; intro gb291 hg w22 hbox hb; have BK291 := Aside0.mk hbox; have GW291 := gS w hg (lU); have GE291 := gS w hg (lU); replace HB := bH (lU) hb; clear hb hbox hg; have hcz23_0 := cz BK291 0 (.int .i64 0); have hcz23_1 := cz BK291 1 (.int .i64 0); have hfz23_0 := fz BK291 0; have hfz23_1 := fz BK291 1) | ((with_reducible refine gate_store (t := 41) (p := 6) rfl ?_); (try (rw [drewN_self w22]; generalize hq_ : World.drewN w22 _ = w22; replace BK291 := Aside0.mk (blk_at hq_ BK291.out); replace HB := Aside0.mk (below_at hq_ HB.out); clear hq_)); refine store_event (t := 41) (p := 6) (v := ?vo_w24) (w1 := ((w22.setCell ⟨gb291, 0, none⟩ (.int .i64 ((rd_T41 l0 x17_2).f0))).setCell ⟨gb291, 1, none⟩ (.int .i64 ((rd_T41 l0 x17_2).f1)))) ?hg ?ho ?hn ?hr ?_; (case ho => rfl); (case hg => rfl); (case hn => rfl); (case hr => first | (go_simp; done) | (go_simp; rfl) | (have hq0_ := (blk_cell BK291.out 0).trans (show _ = some _ from rfl); have hf0_ := blk_frozen BK291.out 0; have hq1_ := (blk_cell BK291.out 1).trans (show _ = some _ from rfl); have hf1_ := blk_frozen BK291.out 1; first | (go_simp; done) | (go_simp; rfl))); intro w24 hw; replace BK291 : Aside0 (w24.heap[gb291]? = some (.cells #[.int .i64 ((rd_T41 l0 x17_2).f0), .int .i64 ((rd_T41 l0 x17_2).f1)] 41 (0, 0))) := ⟨(by rw [hw]; exact (by refine bU ?_; refine blk_put (cs := #[.int .i64 ((rd_T41 l0 x17_2).f0), .int .i64 0]) ?_ 1 _ rfl; refine bU ?_; refine blk_put (cs := #[.int .i64 0, .int .i64 0]) ?_ 0 _ rfl; refine bU ?_; exact BK291.out))⟩; replace HB : Aside0 (Below w.heap.size w w24) := ⟨(by rw [hw]; exact (lV1 GE291))⟩; clear hw; have hcz25_0 := cz BK291 0 (.int .i64 ((rd_T41 l0 x17_2).f0)); have hcz25_1 := cz BK291 1 (.int .i64 ((rd_T41 l0 x17_2).f1)); have hfz25_0 := fz BK291 0; have hfz25_1 := fz BK291 1) | (go_at_call 26; (with_reducible refine (spec_l1In.calls ((rd_T41 l0 x17_2).f0) 0 (wrap64 (a1 - 1)) true _ A9.out).mono ?_); rintro e w' ⟨rfl, ⟨nd, rfl⟩⟩; (try first | exact ⟨rfl, _, World.drewN_drewN _ _ _⟩ | exact ⟨rfl, _, Eq.trans (World.drewN_drewN _ _ _) (congrArg (World.drewN _) (Nat.add_assoc _ _ _))⟩)) |(go_at_call 41; (with_reducible refine (spec_l11Value.calls ((rd_T41 l0 x17_2).f1) true _ A11.out).mono ?_); rintro e w' ⟨rfl, ⟨nd, rfl⟩⟩; (try first | exact ⟨rfl, _, World.drewN_drewN _ _ _⟩ | exact ⟨rfl, _, Eq.trans (World.drewN_drewN _ _ _) (congrArg (World.drewN _) (Nat.add_assoc _ _ _))⟩)) ); try go_wp2_with (first | ((with_reducible refine gate_dst (N := 6) rfl ?_); (try (refine gate_guard (by rfl) ?_; dsimp only)); refine box_event rfl (N := 6) rfl (cs := #[.int .i64 0, .int .i64 0]) (t := 41) sE ?_; intro gb291 hg w22 hbox hb; have BK291 := Aside0.mk hbox; have GW291 := gS w hg (lU); have GE291 := gS w hg (lU); replace HB := bH (lU) hb; clear hb hbox hg; have hcz23_0 := cz BK291 0 (.int .i64 0); have hcz23_1 := cz BK291 1 (.int .i64 0); have hfz23_0 := fz BK291 0; have hfz23_1 := fz BK291 1) | ((with_reducible refine gate_store (t := 41) (p := 6) rfl ?_); (try (rw [drewN_self w22]; generalize hq_ : World.drewN w22 _ = w22; replace BK291 := Aside0.mk (blk_at hq_ BK291.out); replace HB := Aside0.mk (below_at hq_ HB.out); clear hq_)); refine store_event (t := 41) (p := 6) (v := ?vo_w24) (w1 := ((w22.setCell ⟨gb291, 0, none⟩ (.int .i64 ((rd_T41 l0 x17_2).f0))).setCell ⟨gb291, 1, none⟩ (.int .i64 ((rd_T41 l0 x17_2).f1)))) ?hg ?ho ?hn ?hr ?_; (case ho => rfl); (case hg => rfl); (case hn => rfl); (case hr => first | (go_simp; done) | (go_simp; rfl) | (have hq0_ := (blk_cell BK291.out 0).trans (show _ = some _ from rfl); have hf0_ := blk_frozen BK291.out 0; have hq1_ := (blk_cell BK291.out 1).trans (show _ = some _ from rfl); have hf1_ := blk_frozen BK291.out 1; first | (go_simp; done) | (go_simp; rfl))); intro w24 hw; replace BK291 : Aside0 (w24.heap[gb291]? = some (.cells #[.int .i64 ((rd_T41 l0 x17_2).f0), .int .i64 ((rd_T41 l0 x17_2).f1)] 41 (0, 0))) := ⟨(by rw [hw]; exact (by refine bU ?_; refine blk_put (cs := #[.int .i64 ((rd_T41 l0 x17_2).f0), .int .i64 0]) ?_ 1 _ rfl; refine bU ?_; refine blk_put (cs := #[.int .i64 0, .int .i64 0]) ?_ 0 _ rfl; refine bU ?_; exact BK291.out))⟩; replace HB : Aside0 (Below w.heap.size w w24) := ⟨(by rw [hw]; exact (lV1 GE291))⟩; clear hw; have hcz25_0 := cz BK291 0 (.int .i64 ((rd_T41 l0 x17_2).f0)); have hcz25_1 := cz BK291 1 (.int .i64 ((rd_T41 l0 x17_2).f1)); have hfz25_0 := fz BK291 0; have hfz25_1 := fz BK291 1) | (go_at_call 26; (with_reducible refine (spec_l1In.calls ((rd_T41 l0 x17_2).f0) 0 (wrap64 (a1 - 1)) true _ A9.out).mono ?_); rintro e w' ⟨rfl, ⟨nd, rfl⟩⟩; (try first | exact ⟨rfl, _, World.drewN_drewN _ _ _⟩ | exact ⟨rfl, _, Eq.trans (World.drewN_drewN _ _ _) (congrArg (World.drewN _) (Nat.add_assoc _ _ _))⟩)) | (go_at_call 41; (with_reducible refine (spec_l11Value.calls ((rd_T41 l0 x17_2).f1) true _ A11.out).mono ?_); rintro e w' ⟨rfl, ⟨nd, rfl⟩⟩; (try first | exact ⟨rfl, _, World.drewN_drewN _ _ _⟩ | exact ⟨rfl, _, Eq.trans (World.drewN_drewN _ _ _) (congrArg (World.drewN _) (Nat.add_assoc _ _ _))⟩); have p294 : 0 ≤ ((ji14) : Int) := of_decide_eq_true hE; have q294 : (ji14) < (l0.length : Int) := of_decide_eq_true hE; obtain ⟨ad294, e294, hx294_0, hx294_1⟩ := at_T41 HR0.out (ji14) p294 q294; obtain rfl : ad290 = ad294 := (by injection e294); replace hx294_0 := (HB.out.cell (World.block_lt_of_cell? w _ hx294_0)).trans hx294_0; replace hx294_1 := (HB.out.cell (World.block_lt_of_cell? w _ hx294_1)).trans hx294_1; replace p294 := eq_true p294; replace q294 := eq_true q294)))
               go_roundg k2
               case measure => have := HJ2.out; have := HK2.out; omega
               case rel => exact ⟨(wrap64 (x17_2 + 1)), tE, H', ⟨by have := HJ2.out; have := HK2.out; omega⟩, ⟨by repeat (first | (with_reducible first | exact HB.out | apply below_alloc | apply pw_below_drewN | apply below_drew1 | refine below_set ?_ GE291.out) | exact HB.out)⟩⟩
             ·rw [if_neg c16] at H
              exact absurd H (by simp)
            ·rw [if_neg c15] at H
             exact absurd H (by simp)
           ·rw [if_neg c13] at H
            have c13b0 : decide (0 < x17_2) = false := decide_eq_false c13
            clear c13
            have H' := Aside0.mk H
            clear H
            have p290 : 0 ≤ (x17_2 : Int) := of_decide_eq_true hE
            have q290 : x17_2 < (l0.length : Int) := of_decide_eq_true hE
            obtain ⟨ad290, e290, hx290_0, hx290_1⟩ := at_T41 HR0.out x17_2 p290 q290
            cases e290
            replace hx290_0 := (HB.out.cell (World.block_lt_of_cell? w _ hx290_0)).trans hx290_0
            replace hx290_1 := (HB.out.cell (World.block_lt_of_cell? w _ hx290_1)).trans hx290_1
            replace p290 := eq_true p290
            replace q290 := eq_true q290
            go_wp2_with (first | ((with_reducible refine gate_dst (N := 6) rfl ?_); (try (refine gate_guard (by rfl) ?_; dsimp only)); refine box_event rfl (N := 6) rfl (cs := #[.int .i64 0, .int .i64 0]) (t := 41) sE ?_; intro gb291 hg w26 hbox hb; have BK291 := Aside0.mk hbox; have GW291 := gS w hg (lU); have GE291 := gS w hg (lU); replace HB := bH (lU) hb; clear hb hbox hg; have hcz27_0 := cz BK291 0 (.int .i64 0); have hcz27_1 := cz BK291 1 (.int .i64 0); have hfz27_0 := fz BK291 0; have hfz27_1 := fz BK291 1) | ((with_reducible refine gate_store (t := 41) (p := 6) rfl ?_); (try (rw [drewN_self w26]; generalize hq_ : World.drewN w26 _ = w26; replace BK291 := Aside0.mk (blk_at hq_ BK291.out); replace HB := Aside0.mk (below_at hq_ HB.out); clear hq_)); refine store_event (t := 41) (p := 6) (v := ?vo_w28) (w1 := ((w26.setCell ⟨gb291, 0, none⟩ (.int .i64 ((rd_T41 l0 x17_2).f0))).setCell ⟨gb291, 1, none⟩ (.int .i64 ((rd_T41 l0 x17_2).f1)))) ?hg ?ho ?hn ?hr ?_; (case ho => rfl); (case hg => rfl); (case hn => rfl); (case hr => first | (go_simp; done) | (go_simp; rfl) | (have hq0_ := (blk_cell BK291.out 0).trans (show _ = some _ from rfl); have hf0_ := blk_frozen BK291.out 0; have hq1_ := (blk_cell BK291.out 1).trans (show _ = some _ from rfl); have hf1_ := blk_frozen BK291.out 1; first | (go_simp; done) | (go_simp; rfl))); intro w28 hw; replace BK291 : Aside0 (w28.heap[gb291]? = some (.cells #[.int .i64 ((rd_T41 l0 x17_2).f0), .int .i64 ((rd_T41 l0 x17_2).f1)] 41 (0, 0))) := ⟨(by rw [hw]; exact (by refine bU ?_; refine blk_put (cs := #[.int .i64 ((rd_T41 l0 x17_2).f0), .int .i64 0]) ?_ 1 _ rfl; refine bU ?_; refine blk_put (cs := #[.int .i64 0, .int .i64 0]) ?_ 0 _ rfl; refine bU ?_; exact BK291.out))⟩; replace HB : Aside0 (Below w.heap.size w w28) := ⟨(by rw [hw]; exact (lV1 GE291))⟩; clear hw; have hcz29_0 := cz BK291 0 (.int .i64 ((rd_T41 l0 x17_2).f0)); have hcz29_1 := cz BK291 1 (.int .i64 ((rd_T41 l0 x17_2).f1)); have hfz29_0 := fz BK291 0; have hfz29_1 := fz BK291 1) | (go_at_call 26; (with_reducible refine (spec_l1In.calls ((rd_T41 l0 x17_2).f0) 0 (wrap64 (a1 - 1)) true _ A9.out).mono ?_); rintro e w' ⟨rfl, ⟨nd, rfl⟩⟩; (try first | exact ⟨rfl, _, World.drewN_drewN _ _ _⟩ | exact ⟨rfl, _, Eq.trans (World.drewN_drewN _ _ _) (congrArg (World.drewN _) (Nat.add_assoc _ _ _))⟩)) | (go_at_call 41; (with_reducible refine (spec_l11Value.calls ((rd_T41 l0 x17_2).f1) true _ A11.out).mono ?_); rintro e w' ⟨rfl, ⟨nd, rfl⟩⟩; (try first | exact ⟨rfl, _, World.drewN_drewN _ _ _⟩ | exact ⟨rfl, _, Eq.trans (World.drewN_drewN _ _ _) (congrArg (World.drewN _) (Nat.add_assoc _ _ _))⟩)))
            repeat (go_quiet (first | ((with_reducible refine gate_dst (N := 6) rfl ?_); (try (refine gate_guard (by rfl) ?_; dsimp only)); refine box_event rfl (N := 6) rfl (cs := #[.int .i64 0, .int .i64 0]) (t := 41) sE ?_; intro gb291 hg w26 hbox hb; have BK291 := Aside0.mk hbox; have GW291 := gS w hg (lU); have GE291 := gS w hg (lU); replace HB := bH (lU) hb; clear hb hbox hg; have hcz27_0 := cz BK291 0 (.int .i64 0); have hcz27_1 := cz BK291 1 (.int .i64 0); have hfz27_0 := fz BK291 0; have hfz27_1 := fz BK291 1) | ((with_reducible refine gate_store (t := 41) (p := 6) rfl ?_); (try (rw [drewN_self w26]; generalize hq_ : World.drewN w26 _ = w26; replace BK291 := Aside0.mk (blk_at hq_ BK291.out); replace HB := Aside0.mk (below_at hq_ HB.out); clear hq_)); refine store_event (t := 41) (p := 6) (v := ?vo_w28) (w1 := ((w26.setCell ⟨gb291, 0, none⟩ (.int .i64 ((rd_T41 l0 x17_2).f0))).setCell ⟨gb291, 1, none⟩ (.int .i64 ((rd_T41 l0 x17_2).f1)))) ?hg ?ho ?hn ?hr ?_; (case ho => rfl); (case hg => rfl); (case hn => rfl); (case hr => first | (go_simp; done) | (go_simp; rfl) | (have hq0_ := (blk_cell BK291.out 0).trans (show _ = some _ from rfl); have hf0_ := blk_frozen BK291.out 0; have hq1_ := (blk_cell BK291.out 1).trans (show _ = some _ from rfl); have hf1_ := blk_frozen BK291.out 1; first | (go_simp; done) | (go_simp; rfl))); intro w28 hw; replace BK291 : Aside0 (w28.heap[gb291]? = some (.cells #[.int .i64 ((rd_T41 l0 x17_2).f0), .int .i64 ((rd_T41 l0 x17_2).f1)] 41 (0, 0))) := ⟨(by rw [hw]; exact (by refine bU ?_; refine blk_put (cs := #[.int .i64 ((rd_T41 l0 x17_2).f0), .int .i64 0]) ?_ 1 _ rfl; refine bU ?_; refine blk_put (cs := #[.int .i64 0, .int .i64 0]) ?_ 0 _ rfl; refine bU ?_; exact BK291.out))⟩; replace HB : Aside0 (Below w.heap.size w w28) := ⟨(by rw [hw]; exact (lV1 GE291))⟩; clear hw; have hcz29_0 := cz BK291 0 (.int .i64 ((rd_T41 l0 x17_2).f0)); have hcz29_1 := cz BK291 1 (.int .i64 ((rd_T41 l0 x17_2).f1)); have hfz29_0 := fz BK291 0; have hfz29_1 := fz BK291 1) | (go_at_call 26; (with_reducible refine (spec_l1In.calls ((rd_T41 l0 x17_2).f0) 0 (wrap64 (a1 - 1)) true _ A9.out).mono ?_); rintro e w' ⟨rfl, ⟨nd, rfl⟩⟩; (try first | exact ⟨rfl, _, World.drewN_drewN _ _ _⟩ | exact ⟨rfl, _, Eq.trans (World.drewN_drewN _ _ _) (congrArg (World.drewN _) (Nat.add_assoc _ _ _))⟩)) | (go_at_call 41; (with_reducible refine (spec_l11Value.calls ((rd_T41 l0 x17_2).f1) true _ A11.out).mono ?_); rintro e w' ⟨rfl, ⟨nd, rfl⟩⟩; (try first | exact ⟨rfl, _, World.drewN_drewN _ _ _⟩ | exact ⟨rfl, _, Eq.trans (World.drewN_drewN _ _ _) (congrArg (World.drewN _) (Nat.add_assoc _ _ _))⟩))); try go_wp2_with (first | ((with_reducible refine gate_dst (N := 6) rfl ?_); (try (refine gate_guard (by rfl) ?_; dsimp only)); refine box_event rfl (N := 6) rfl (cs := #[.int .i64 0, .int .i64 0]) (t := 41) sE ?_; intro gb291 hg w26 hbox hb; have BK291 := Aside0.mk hbox; have GW291 := gS w hg (lU); have GE291 := gS w hg (lU); replace HB := bH (lU) hb; clear hb hbox hg; have hcz27_0 := cz BK291 0 (.int .i64 0); have hcz27_1 := cz BK291 1 (.int .i64 0); have hfz27_0 := fz BK291 0; have hfz27_1 := fz BK291 1) | ((with_reducible refine gate_store (t := 41) (p := 6) rfl ?_); (try (rw [drewN_self w26]; generalize hq_ : World.drewN w26 _ = w26; replace BK291 := Aside0.mk (blk_at hq_ BK291.out); replace HB := Aside0.mk (below_at hq_ HB.out); clear hq_)); refine store_event (t := 41) (p := 6) (v := ?vo_w28) (w1 := ((w26.setCell ⟨gb291, 0, none⟩ (.int .i64 ((rd_T41 l0 x17_2).f0))).setCell ⟨gb291, 1, none⟩ (.int .i64 ((rd_T41 l0 x17_2).f1)))) ?hg ?ho ?hn ?hr ?_; (case ho => rfl); (case hg => rfl); (case hn => rfl); (case hr => first | (go_simp; done) | (go_simp; rfl) | (have hq0_ := (blk_cell BK291.out 0).trans (show _ = some _ from rfl); have hf0_ := blk_frozen BK291.out 0; have hq1_ := (blk_cell BK291.out 1).trans (show _ = some _ from rfl); have hf1_ := blk_frozen BK291.out 1; first | (go_simp; done) | (go_simp; rfl))); intro w28 hw; replace BK291 : Aside0 (w28.heap[gb291]? = some (.cells #[.int .i64 ((rd_T41 l0 x17_2).f0), .int .i64 ((rd_T41 l0 x17_2).f1)] 41 (0, 0))) := ⟨(by rw [hw]; exact (by refine bU ?_; refine blk_put (cs := #[.int .i64 ((rd_T41 l0 x17_2).f0), .int .i64 0]) ?_ 1 _ rfl; refine bU ?_; refine blk_put (cs := #[.int .i64 0, .int .i64 0]) ?_ 0 _ rfl; refine bU ?_; exact BK291.out))⟩; replace HB : Aside0 (Below w.heap.size w w28) := ⟨(by rw [hw]; exact (lV1 GE291))⟩; clear hw; have hcz29_0 := cz BK291 0 (.int .i64 ((rd_T41 l0 x17_2).f0)); have hcz29_1 := cz BK291 1 (.int .i64 ((rd_T41 l0 x17_2).f1)); have hfz29_0 := fz BK291 0; have hfz29_1 := fz BK291 1) | (go_at_call 26; (with_reducible refine (spec_l1In.calls ((rd_T41 l0 x17_2).f0) 0 (wrap64 (a1 - 1)) true _ A9.out).mono ?_); rintro e w' ⟨rfl, ⟨nd, rfl⟩⟩; (try first | exact ⟨rfl, _, World.drewN_drewN _ _ _⟩ | exact ⟨rfl, _, Eq.trans (World.drewN_drewN _ _ _) (congrArg (World.drewN _) (Nat.add_assoc _ _ _))⟩)) | (go_at_call 41; (with_reducible refine (spec_l11Value.calls ((rd_T41 l0 x17_2).f1) true _ A11.out).mono ?_); rintro e w' ⟨rfl, ⟨nd, rfl⟩⟩; (try first | exact ⟨rfl, _, World.drewN_drewN _ _ _⟩ | exact ⟨rfl, _, Eq.trans (World.drewN_drewN _ _ _) (congrArg (World.drewN _) (Nat.add_assoc _ _ _))⟩))))
            go_roundg k2
            case measure => have := HJ2.out; have := HK2.out; omega
            case rel => exact ⟨(wrap64 (x17_2 + 1)), tE, H', ⟨by have := HJ2.out; have := HK2.out; omega⟩, ⟨by repeat (first | (with_reducible first | exact HB.out | apply below_alloc | apply pw_below_drewN | apply below_drew1 | refine below_set ?_ GE291.out) | exact HB.out)⟩⟩
          ·replace c12 := Bool.eq_false_iff.mpr c12
           subst c12
           have H1 : (some false) = some r := by rw [if_neg (show ¬ (false = true) by decide)] at H; exact H
           clear H
           have H := H1
           clear H1
           obtain rfl := Option.some.inj H
           have p290 : 0 ≤ (x17_2 : Int) := of_decide_eq_true hE
           have q290 : x17_2 < (l0.length : Int) := of_decide_eq_true hE
           obtain ⟨ad290, e290, hx290_0, hx290_1⟩ := at_T41 HR0.out x17_2 p290 q290
           cases e290
           replace hx290_0 := (HB.out.cell (World.block_lt_of_cell? w _ hx290_0)).trans hx290_0
           replace hx290_1 := (HB.out.cell (World.block_lt_of_cell? w _ hx290_1)).trans hx290_1
           replace p290 := eq_true p290
           replace q290 := eq_true q290
           go_wp2_with (first | ((with_reducible refine gate_dst (N := 6) rfl ?_); (try (refine gate_guard (by rfl) ?_; dsimp only)); refine box_event rfl (N := 6) rfl (cs := #[.int .i64 0, .int .i64 0]) (t := 41) sE ?_; intro gb291 hg w30 hbox hb; have BK291 := Aside0.mk hbox; have GW291 := gS w hg (lU); have GE291 := gS w hg (lU); replace HB := bH (lU) hb; clear hb hbox hg; have hcz31_0 := cz BK291 0 (.int .i64 0); have hcz31_1 := cz BK291 1 (.int .i64 0); have hfz31_0 := fz BK291 0; have hfz31_1 := fz BK291 1) | ((with_reducible refine gate_store (t := 41) (p := 6) rfl ?_); (try (rw [drewN_self w30]; generalize hq_ : World.drewN w30 _ = w30; replace BK291 := Aside0.mk (blk_at hq_ BK291.out); replace HB := Aside0.mk (below_at hq_ HB.out); clear hq_)); refine store_event (t := 41) (p := 6) (v := ?vo_w32) (w1 := ((w30.setCell ⟨gb291, 0, none⟩ (.int .i64 ((rd_T41 l0 x17_2).f0))).setCell ⟨gb291, 1, none⟩ (.int .i64 ((rd_T41 l0 x17_2).f1)))) ?hg ?ho ?hn ?hr ?_; (case ho => rfl); (case hg => rfl); (case hn => rfl); (case hr => first | (go_simp; done) | (go_simp; rfl) | (have hq0_ := (blk_cell BK291.out 0).trans (show _ = some _ from rfl); have hf0_ := blk_frozen BK291.out 0; have hq1_ := (blk_cell BK291.out 1).trans (show _ = some _ from rfl); have hf1_ := blk_frozen BK291.out 1; first | (go_simp; done) | (go_simp; rfl))); intro w32 hw; replace BK291 : Aside0 (w32.heap[gb291]? = some (.cells #[.int .i64 ((rd_T41 l0 x17_2).f0), .int .i64 ((rd_T41 l0 x17_2).f1)] 41 (0, 0))) := ⟨(by rw [hw]; exact (by refine bU ?_; refine blk_put (cs := #[.int .i64 ((rd_T41 l0 x17_2).f0), .int .i64 0]) ?_ 1 _ rfl; refine bU ?_; refine blk_put (cs := #[.int .i64 0, .int .i64 0]) ?_ 0 _ rfl; refine bU ?_; exact BK291.out))⟩; replace HB : Aside0 (Below w.heap.size w w32) := ⟨(by rw [hw]; exact (lV1 GE291))⟩; clear hw; have hcz33_0 := cz BK291 0 (.int .i64 ((rd_T41 l0 x17_2).f0)); have hcz33_1 := cz BK291 1 (.int .i64 ((rd_T41 l0 x17_2).f1)); have hfz33_0 := fz BK291 0; have hfz33_1 := fz BK291 1) | (go_at_call 26; (with_reducible refine (spec_l1In.calls ((rd_T41 l0 x17_2).f0) 0 (wrap64 (a1 - 1)) true _ A9.out).mono ?_); rintro e w' ⟨rfl, ⟨nd, rfl⟩⟩; (try first | exact ⟨rfl, _, World.drewN_drewN _ _ _⟩ | exact ⟨rfl, _, Eq.trans (World.drewN_drewN _ _ _) (congrArg (World.drewN _) (Nat.add_assoc _ _ _))⟩)) | (go_at_call 41; (with_reducible refine (spec_l11Value.calls ((rd_T41 l0 x17_2).f1) false _ A11.out).mono ?_); rintro e w' ⟨rfl, ⟨nd, rfl⟩⟩; (try first | exact ⟨rfl, _, World.drewN_drewN _ _ _⟩ | exact ⟨rfl, _, Eq.trans (World.drewN_drewN _ _ _) (congrArg (World.drewN _) (Nat.add_assoc _ _ _))⟩)))
           repeat (go_quiet (first | ((with_reducible refine gate_dst (N := 6) rfl ?_); (try (refine gate_guard (by rfl) ?_; dsimp only)); refine box_event rfl (N := 6) rfl (cs := #[.int .i64 0, .int .i64 0]) (t := 41) sE ?_; intro gb291 hg w30 hbox hb; have BK291 := Aside0.mk hbox; have GW291 := gS w hg (lU); have GE291 := gS w hg (lU); replace HB := bH (lU) hb; clear hb hbox hg; have hcz31_0 := cz BK291 0 (.int .i64 0); have hcz31_1 := cz BK291 1 (.int .i64 0); have hfz31_0 := fz BK291 0; have hfz31_1 := fz BK291 1) | ((with_reducible refine gate_store (t := 41) (p := 6) rfl ?_); (try (rw [drewN_self w30]; generalize hq_ : World.drewN w30 _ = w30; replace BK291 := Aside0.mk (blk_at hq_ BK291.out); replace HB := Aside0.mk (below_at hq_ HB.out); clear hq_)); refine store_event (t := 41) (p := 6) (v := ?vo_w32) (w1 := ((w30.setCell ⟨gb291, 0, none⟩ (.int .i64 ((rd_T41 l0 x17_2).f0))).setCell ⟨gb291, 1, none⟩ (.int .i64 ((rd_T41 l0 x17_2).f1)))) ?hg ?ho ?hn ?hr ?_; (case ho => rfl); (case hg => rfl); (case hn => rfl); (case hr => first | (go_simp; done) | (go_simp; rfl) | (have hq0_ := (blk_cell BK291.out 0).trans (show _ = some _ from rfl); have hf0_ := blk_frozen BK291.out 0; have hq1_ := (blk_cell BK291.out 1).trans (show _ = some _ from rfl); have hf1_ := blk_frozen BK291.out 1; first | (go_simp; done) | (go_simp; rfl))); intro w32 hw; replace BK291 : Aside0 (w32.heap[gb291]? = some (.cells #[.int .i64 ((rd_T41 l0 x17_2).f0), .int .i64 ((rd_T41 l0 x17_2).f1)] 41 (0, 0))) := ⟨(by rw [hw]; exact (by refine bU ?_; refine blk_put (cs := #[.int .i64 ((rd_T41 l0 x17_2).f0), .int .i64 0]) ?_ 1 _ rfl; refine bU ?_; refine blk_put (cs := #[.int .i64 0, .int .i64 0]) ?_ 0 _ rfl; refine bU ?_; exact BK291.out))⟩; replace HB : Aside0 (Below w.heap.size w w32) := ⟨(by rw [hw]; exact (lV1 GE291))⟩; clear hw; have hcz33_0 := cz BK291 0 (.int .i64 ((rd_T41 l0 x17_2).f0)); have hcz33_1 := cz BK291 1 (.int .i64 ((rd_T41 l0 x17_2).f1)); have hfz33_0 := fz BK291 0; have hfz33_1 := fz BK291 1) | (go_at_call 26; (with_reducible refine (spec_l1In.calls ((rd_T41 l0 x17_2).f0) 0 (wrap64 (a1 - 1)) true _ A9.out).mono ?_); rintro e w' ⟨rfl, ⟨nd, rfl⟩⟩; (try first | exact ⟨rfl, _, World.drewN_drewN _ _ _⟩ | exact ⟨rfl, _, Eq.trans (World.drewN_drewN _ _ _) (congrArg (World.drewN _) (Nat.add_assoc _ _ _))⟩)) | (go_at_call 41; (with_reducible refine (spec_l11Value.calls ((rd_T41 l0 x17_2).f1) false _ A11.out).mono ?_); rintro e w' ⟨rfl, ⟨nd, rfl⟩⟩; (try first | exact ⟨rfl, _, World.drewN_drewN _ _ _⟩ | exact ⟨rfl, _, Eq.trans (World.drewN_drewN _ _ _) (congrArg (World.drewN _) (Nat.add_assoc _ _ _))⟩))); try go_wp2_with (first | ((with_reducible refine gate_dst (N := 6) rfl ?_); (try (refine gate_guard (by rfl) ?_; dsimp only)); refine box_event rfl (N := 6) rfl (cs := #[.int .i64 0, .int .i64 0]) (t := 41) sE ?_; intro gb291 hg w30 hbox hb; have BK291 := Aside0.mk hbox; have GW291 := gS w hg (lU); have GE291 := gS w hg (lU); replace HB := bH (lU) hb; clear hb hbox hg; have hcz31_0 := cz BK291 0 (.int .i64 0); have hcz31_1 := cz BK291 1 (.int .i64 0); have hfz31_0 := fz BK291 0; have hfz31_1 := fz BK291 1) | ((with_reducible refine gate_store (t := 41) (p := 6) rfl ?_); (try (rw [drewN_self w30]; generalize hq_ : World.drewN w30 _ = w30; replace BK291 := Aside0.mk (blk_at hq_ BK291.out); replace HB := Aside0.mk (below_at hq_ HB.out); clear hq_)); refine store_event (t := 41) (p := 6) (v := ?vo_w32) (w1 := ((w30.setCell ⟨gb291, 0, none⟩ (.int .i64 ((rd_T41 l0 x17_2).f0))).setCell ⟨gb291, 1, none⟩ (.int .i64 ((rd_T41 l0 x17_2).f1)))) ?hg ?ho ?hn ?hr ?_; (case ho => rfl); (case hg => rfl); (case hn => rfl); (case hr => first | (go_simp; done) | (go_simp; rfl) | (have hq0_ := (blk_cell BK291.out 0).trans (show _ = some _ from rfl); have hf0_ := blk_frozen BK291.out 0; have hq1_ := (blk_cell BK291.out 1).trans (show _ = some _ from rfl); have hf1_ := blk_frozen BK291.out 1; first | (go_simp; done) | (go_simp; rfl))); intro w32 hw; replace BK291 : Aside0 (w32.heap[gb291]? = some (.cells #[.int .i64 ((rd_T41 l0 x17_2).f0), .int .i64 ((rd_T41 l0 x17_2).f1)] 41 (0, 0))) := ⟨(by rw [hw]; exact (by refine bU ?_; refine blk_put (cs := #[.int .i64 ((rd_T41 l0 x17_2).f0), .int .i64 0]) ?_ 1 _ rfl; refine bU ?_; refine blk_put (cs := #[.int .i64 0, .int .i64 0]) ?_ 0 _ rfl; refine bU ?_; exact BK291.out))⟩; replace HB : Aside0 (Below w.heap.size w w32) := ⟨(by rw [hw]; exact (lV1 GE291))⟩; clear hw; have hcz33_0 := cz BK291 0 (.int .i64 ((rd_T41 l0 x17_2).f0)); have hcz33_1 := cz BK291 1 (.int .i64 ((rd_T41 l0 x17_2).f1)); have hfz33_0 := fz BK291 0; have hfz33_1 := fz BK291 1) | (go_at_call 26; (with_reducible refine (spec_l1In.calls ((rd_T41 l0 x17_2).f0) 0 (wrap64 (a1 - 1)) true _ A9.out).mono ?_); rintro e w' ⟨rfl, ⟨nd, rfl⟩⟩; (try first | exact ⟨rfl, _, World.drewN_drewN _ _ _⟩ | exact ⟨rfl, _, Eq.trans (World.drewN_drewN _ _ _) (congrArg (World.drewN _) (Nat.add_assoc _ _ _))⟩)) | (go_at_call 41; (with_reducible refine (spec_l11Value.calls ((rd_T41 l0 x17_2).f1) false _ A11.out).mono ?_); rintro e w' ⟨rfl, ⟨nd, rfl⟩⟩; (try first | exact ⟨rfl, _, World.drewN_drewN _ _ _⟩ | exact ⟨rfl, _, Eq.trans (World.drewN_drewN _ _ _) (congrArg (World.drewN _) (Nat.add_assoc _ _ _))⟩))))
           go_ret
           exact ⟨eE, lV1 GE291⟩
         ·replace c10 := Bool.eq_false_iff.mpr c10
          subst c10
          have H1 : (some false) = some r := by rw [if_neg (show ¬ (false = true) by decide)] at H; exact H
          clear H
          have H := H1
          clear H1
          obtain rfl := Option.some.inj H
          have p290 : 0 ≤ (x17_2 : Int) := of_decide_eq_true hE
          have q290 : x17_2 < (l0.length : Int) := of_decide_eq_true hE
          obtain ⟨ad290, e290, hx290_0, hx290_1⟩ := at_T41 HR0.out x17_2 p290 q290
          cases e290
          replace hx290_0 := (HB.out.cell (World.block_lt_of_cell? w _ hx290_0)).trans hx290_0
          replace hx290_1 := (HB.out.cell (World.block_lt_of_cell? w _ hx290_1)).trans hx290_1
          replace p290 := eq_true p290
          replace q290 := eq_true q290
          go_wp2_with (first | ((with_reducible refine gate_dst (N := 6) rfl ?_); (try (refine gate_guard (by rfl) ?_; dsimp only)); refine box_event rfl (N := 6) rfl (cs := #[.int .i64 0, .int .i64 0]) (t := 41) sE ?_; intro gb291 hg w34 hbox hb; have BK291 := Aside0.mk hbox; have GW291 := gS w hg (lU); have GE291 := gS w hg (lU); replace HB := bH (lU) hb; clear hb hbox hg; have hcz35_0 := cz BK291 0 (.int .i64 0); have hcz35_1 := cz BK291 1 (.int .i64 0); have hfz35_0 := fz BK291 0; have hfz35_1 := fz BK291 1) | ((with_reducible refine gate_store (t := 41) (p := 6) rfl ?_); (try (rw [drewN_self w34]; generalize hq_ : World.drewN w34 _ = w34; replace BK291 := Aside0.mk (blk_at hq_ BK291.out); replace HB := Aside0.mk (below_at hq_ HB.out); clear hq_)); refine store_event (t := 41) (p := 6) (v := ?vo_w36) (w1 := ((w34.setCell ⟨gb291, 0, none⟩ (.int .i64 ((rd_T41 l0 x17_2).f0))).setCell ⟨gb291, 1, none⟩ (.int .i64 ((rd_T41 l0 x17_2).f1)))) ?hg ?ho ?hn ?hr ?_; (case ho => rfl); (case hg => rfl); (case hn => rfl); (case hr => first | (go_simp; done) | (go_simp; rfl) | (have hq0_ := (blk_cell BK291.out 0).trans (show _ = some _ from rfl); have hf0_ := blk_frozen BK291.out 0; have hq1_ := (blk_cell BK291.out 1).trans (show _ = some _ from rfl); have hf1_ := blk_frozen BK291.out 1; first | (go_simp; done) | (go_simp; rfl))); intro w36 hw; replace BK291 : Aside0 (w36.heap[gb291]? = some (.cells #[.int .i64 ((rd_T41 l0 x17_2).f0), .int .i64 ((rd_T41 l0 x17_2).f1)] 41 (0, 0))) := ⟨(by rw [hw]; exact (by refine bU ?_; refine blk_put (cs := #[.int .i64 ((rd_T41 l0 x17_2).f0), .int .i64 0]) ?_ 1 _ rfl; refine bU ?_; refine blk_put (cs := #[.int .i64 0, .int .i64 0]) ?_ 0 _ rfl; refine bU ?_; exact BK291.out))⟩; replace HB : Aside0 (Below w.heap.size w w36) := ⟨(by rw [hw]; exact (lV1 GE291))⟩; clear hw; have hcz37_0 := cz BK291 0 (.int .i64 ((rd_T41 l0 x17_2).f0)); have hcz37_1 := cz BK291 1 (.int .i64 ((rd_T41 l0 x17_2).f1)); have hfz37_0 := fz BK291 0; have hfz37_1 := fz BK291 1) | (go_at_call 26; (with_reducible refine (spec_l1In.calls ((rd_T41 l0 x17_2).f0) 0 (wrap64 (a1 - 1)) false _ A9.out).mono ?_); rintro e w' ⟨rfl, ⟨nd, rfl⟩⟩; (try first | exact ⟨rfl, _, World.drewN_drewN _ _ _⟩ | exact ⟨rfl, _, Eq.trans (World.drewN_drewN _ _ _) (congrArg (World.drewN _) (Nat.add_assoc _ _ _))⟩)))
          repeat (go_quiet (first | ((with_reducible refine gate_dst (N := 6) rfl ?_); (try (refine gate_guard (by rfl) ?_; dsimp only)); refine box_event rfl (N := 6) rfl (cs := #[.int .i64 0, .int .i64 0]) (t := 41) sE ?_; intro gb291 hg w34 hbox hb; have BK291 := Aside0.mk hbox; have GW291 := gS w hg (lU); have GE291 := gS w hg (lU); replace HB := bH (lU) hb; clear hb hbox hg; have hcz35_0 := cz BK291 0 (.int .i64 0); have hcz35_1 := cz BK291 1 (.int .i64 0); have hfz35_0 := fz BK291 0; have hfz35_1 := fz BK291 1) | ((with_reducible refine gate_store (t := 41) (p := 6) rfl ?_); (try (rw [drewN_self w34]; generalize hq_ : World.drewN w34 _ = w34; replace BK291 := Aside0.mk (blk_at hq_ BK291.out); replace HB := Aside0.mk (below_at hq_ HB.out); clear hq_)); refine store_event (t := 41) (p := 6) (v := ?vo_w36) (w1 := ((w34.setCell ⟨gb291, 0, none⟩ (.int .i64 ((rd_T41 l0 x17_2).f0))).setCell ⟨gb291, 1, none⟩ (.int .i64 ((rd_T41 l0 x17_2).f1)))) ?hg ?ho ?hn ?hr ?_; (case ho => rfl); (case hg => rfl); (case hn => rfl); (case hr => first | (go_simp; done) | (go_simp; rfl) | (have hq0_ := (blk_cell BK291.out 0).trans (show _ = some _ from rfl); have hf0_ := blk_frozen BK291.out 0; have hq1_ := (blk_cell BK291.out 1).trans (show _ = some _ from rfl); have hf1_ := blk_frozen BK291.out 1; first | (go_simp; done) | (go_simp; rfl))); intro w36 hw; replace BK291 : Aside0 (w36.heap[gb291]? = some (.cells #[.int .i64 ((rd_T41 l0 x17_2).f0), .int .i64 ((rd_T41 l0 x17_2).f1)] 41 (0, 0))) := ⟨(by rw [hw]; exact (by refine bU ?_; refine blk_put (cs := #[.int .i64 ((rd_T41 l0 x17_2).f0), .int .i64 0]) ?_ 1 _ rfl; refine bU ?_; refine blk_put (cs := #[.int .i64 0, .int .i64 0]) ?_ 0 _ rfl; refine bU ?_; exact BK291.out))⟩; replace HB : Aside0 (Below w.heap.size w w36) := ⟨(by rw [hw]; exact (lV1 GE291))⟩; clear hw; have hcz37_0 := cz BK291 0 (.int .i64 ((rd_T41 l0 x17_2).f0)); have hcz37_1 := cz BK291 1 (.int .i64 ((rd_T41 l0 x17_2).f1)); have hfz37_0 := fz BK291 0; have hfz37_1 := fz BK291 1) | (go_at_call 26; (with_reducible refine (spec_l1In.calls ((rd_T41 l0 x17_2).f0) 0 (wrap64 (a1 - 1)) false _ A9.out).mono ?_); rintro e w' ⟨rfl, ⟨nd, rfl⟩⟩; (try first | exact ⟨rfl, _, World.drewN_drewN _ _ _⟩ | exact ⟨rfl, _, Eq.trans (World.drewN_drewN _ _ _) (congrArg (World.drewN _) (Nat.add_assoc _ _ _))⟩))); try go_wp2_with (first | ((with_reducible refine gate_dst (N := 6) rfl ?_); (try (refine gate_guard (by rfl) ?_; dsimp only)); refine box_event rfl (N := 6) rfl (cs := #[.int .i64 0, .int .i64 0]) (t := 41) sE ?_; intro gb291 hg w34 hbox hb; have BK291 := Aside0.mk hbox; have GW291 := gS w hg (lU); have GE291 := gS w hg (lU); replace HB := bH (lU) hb; clear hb hbox hg; have hcz35_0 := cz BK291 0 (.int .i64 0); have hcz35_1 := cz BK291 1 (.int .i64 0); have hfz35_0 := fz BK291 0; have hfz35_1 := fz BK291 1) | ((with_reducible refine gate_store (t := 41) (p := 6) rfl ?_); (try (rw [drewN_self w34]; generalize hq_ : World.drewN w34 _ = w34; replace BK291 := Aside0.mk (blk_at hq_ BK291.out); replace HB := Aside0.mk (below_at hq_ HB.out); clear hq_)); refine store_event (t := 41) (p := 6) (v := ?vo_w36) (w1 := ((w34.setCell ⟨gb291, 0, none⟩ (.int .i64 ((rd_T41 l0 x17_2).f0))).setCell ⟨gb291, 1, none⟩ (.int .i64 ((rd_T41 l0 x17_2).f1)))) ?hg ?ho ?hn ?hr ?_; (case ho => rfl); (case hg => rfl); (case hn => rfl); (case hr => first | (go_simp; done) | (go_simp; rfl) | (have hq0_ := (blk_cell BK291.out 0).trans (show _ = some _ from rfl); have hf0_ := blk_frozen BK291.out 0; have hq1_ := (blk_cell BK291.out 1).trans (show _ = some _ from rfl); have hf1_ := blk_frozen BK291.out 1; first | (go_simp; done) | (go_simp; rfl))); intro w36 hw; replace BK291 : Aside0 (w36.heap[gb291]? = some (.cells #[.int .i64 ((rd_T41 l0 x17_2).f0), .int .i64 ((rd_T41 l0 x17_2).f1)] 41 (0, 0))) := ⟨(by rw [hw]; exact (by refine bU ?_; refine blk_put (cs := #[.int .i64 ((rd_T41 l0 x17_2).f0), .int .i64 0]) ?_ 1 _ rfl; refine bU ?_; refine blk_put (cs := #[.int .i64 0, .int .i64 0]) ?_ 0 _ rfl; refine bU ?_; exact BK291.out))⟩; replace HB : Aside0 (Below w.heap.size w w36) := ⟨(by rw [hw]; exact (lV1 GE291))⟩; clear hw; have hcz37_0 := cz BK291 0 (.int .i64 ((rd_T41 l0 x17_2).f0)); have hcz37_1 := cz BK291 1 (.int .i64 ((rd_T41 l0 x17_2).f1)); have hfz37_0 := fz BK291 0; have hfz37_1 := fz BK291 1) | (go_at_call 26; (with_reducible refine (spec_l1In.calls ((rd_T41 l0 x17_2).f0) 0 (wrap64 (a1 - 1)) false _ A9.out).mono ?_); rintro e w' ⟨rfl, ⟨nd, rfl⟩⟩; (try first | exact ⟨rfl, _, World.drewN_drewN _ _ _⟩ | exact ⟨rfl, _, Eq.trans (World.drewN_drewN _ _ _) (congrArg (World.drewN _) (Nat.add_assoc _ _ _))⟩))))
          go_ret
          exact ⟨eE, lV1 GE291⟩
        ·rw [if_neg c8] at H
         exact absurd H (by simp)
       ·rw [if_neg c7] at H
        exact absurd H (by simp)
      ·rw [if_neg c6] at H
       have c6b0 : decide (x17_2 < (l0.length : Int)) = false := decide_eq_false c6
       clear c6
       obtain rfl := Option.some.inj H
       go_wp2
       repeat (go_quiet (fail); try go_wp2)
       go_ret
       exact ⟨eE, lU⟩
mutual
def spec_WorstOf.j0 : Nat → List Int → List (S41) → Bool → Option (Int × Bool)
 | 0, _, _, _ => none
 | k + 1, x0, x1, x17 => if x17 = true then (some (0, false)) else (spec_WorstOf.l0 k x1 0 x0 (x0.length : Int) 0)
def spec_WorstOf.l0 : Nat → List (S41) → Int → List Int → Int → Int → Option (Int × Bool)
 | 0, _, _, _, _, _ => none
 | k + 1, x1, x6, x18, x19, x20 => if x20 < x19 then (if 0 ≤ x20 then (if x20 < (x18.length : Int) then ((spec_l11At.f k x1 x20).bind fun t298 => ((spec_l1Abs.f (wrap64 (t298 - (rd x18 x20)))).bind fun t299 => (if t299 > x6 then (spec_WorstOf.l0 k x1 t299 x18 x19 (wrap64 (x20 + 1))) else (spec_WorstOf.l0 k x1 x6 x18 x19 (wrap64 (x20 + 1)))))) else (none)) else (none)) else (some (x6, true))
end
def spec_WorstOf.f (k : Nat) (l0 : List Int) (l1 : List (S41)) : Option (Int × Bool) := (spec_l11Values.f k l0).bind fun t295 => (if t295 = true then ((spec_l11Keys.f k l1 60).bind fun t296 => (spec_WorstOf.j0 k l0 l1 (!t296))) else (spec_WorstOf.j0 k l0 l1 true))
theorem spec_WorstOf.mono_l : ∀ k, (∀ y0 y1 y2, LeO (spec_WorstOf.j0 k y0 y1 y2) (spec_WorstOf.j0 (k + 1) y0 y1 y2)) ∧ (∀ y0 y1 y2 y3 y4, LeO (spec_WorstOf.l0 k y0 y1 y2 y3 y4) (spec_WorstOf.l0 (k + 1) y0 y1 y2 y3 y4))
 | 0 => ⟨fun _ _ _ r h => by simp [spec_WorstOf.j0] at h, fun _ _ _ _ _ r h => by simp [spec_WorstOf.l0] at h⟩
 | k + 1 => by
  obtain ⟨ih0, ih1⟩ := spec_WorstOf.mono_l k
  refine ⟨?_, ?_⟩
  ·intro y0 y1 y2
   unfold spec_WorstOf.j0
   repeat' first
   | (with_reducible exact ih0 _ _ _)
   | (with_reducible exact ih1 _ _ _ _ _)
   | (with_reducible exact spec_l11At.mono _ _ _)
   | (with_reducible exact spec_l11Keys.mono _ _ _)
   | (with_reducible exact spec_l11Values.mono _ _)
   | (with_reducible first | exact LeO.refl _ | exact LeO.none _ | refine LeO.ite ?_ ?_ | refine LeO.bind ?_ (fun _ => ?_))
   | exact ih0 _ _ _
   | exact ih1 _ _ _ _ _
   | exact spec_l11At.mono _ _ _
   | exact spec_l11Keys.mono _ _ _
   | exact spec_l11Values.mono _ _ | exact LeO.none _ | refine LeO.ite ?_ ?_ | refine LeO.bind ?_ (fun _ => ?_)
  ·intro y0 y1 y2 y3 y4
   unfold spec_WorstOf.l0
   repeat' first
   | (with_reducible exact ih0 _ _ _)
   | (with_reducible exact ih1 _ _ _ _ _)
   | (with_reducible exact spec_l11At.mono _ _ _)
   | (with_reducible exact spec_l11Keys.mono _ _ _)
   | (with_reducible exact spec_l11Values.mono _ _)
   | (with_reducible first | exact LeO.refl _ | exact LeO.none _ | refine LeO.ite ?_ ?_ | refine LeO.bind ?_ (fun _ => ?_))
   | exact ih0 _ _ _
   | exact ih1 _ _ _ _ _
   | exact spec_l11At.mono _ _ _
   | exact spec_l11Keys.mono _ _ _
   | exact spec_l11Values.mono _ _ | exact LeO.none _ | refine LeO.ite ?_ ?_ | refine LeO.bind ?_ (fun _ => ?_)
theorem spec_WorstOf.mono : ∀ a0 a1 k, LeO (spec_WorstOf.f k a0 a1) (spec_WorstOf.f (k + 1) a0 a1) := by
 intro a0 a1 k
 obtain ⟨ih0, ih1⟩ := spec_WorstOf.mono_l k
 unfold spec_WorstOf.f
 repeat' first
   | (with_reducible exact ih0 _ _ _)
   | (with_reducible exact ih1 _ _ _ _ _)
   | (with_reducible exact spec_l11At.mono _ _ _)
   | (with_reducible exact spec_l11Keys.mono _ _ _)
   | (with_reducible exact spec_l11Values.mono _ _)
   | (with_reducible first | exact LeO.refl _ | exact LeO.none _ | refine LeO.ite ?_ ?_ | refine LeO.bind ?_ (fun _ => ?_))
   | exact ih0 _ _ _
   | exact ih1 _ _ _ _ _
   | exact spec_l11At.mono _ _ _
   | exact spec_l11Keys.mono _ _ _
   | exact spec_l11Values.mono _ _ | exact LeO.none _ | refine LeO.ite ?_ ?_ | refine LeO.bind ?_ (fun _ => ?_)
set_option maxHeartbeats 8000000 in
set_option maxRecDepth 100000 in
theorem spec_WorstOf.calls (k : Nat) (A0 : Option Addr) (c0 : Nat) (l0 : List Int) (A1 : Option Addr) (c1 : Nat) (l1 : List (S41)) (r1 : Int) (r2 : Bool) (w : World) (hr0 : Kd.C (Kd.int .i64) w A0 l0.length l0) (hc0 : l0.length ≤ c0) (hr1 : Kd.C k41 w A1 l1.length l1) (hc1 : l1.length ≤ c1) (h : spec_WorstOf.f k l0 l1 = some (r1, r2)) :
  Calls Try.prog 14 #[.slice A0 l0.length c0, .slice A1 l1.length c1] w fun e w' => e = .returned (.tuple #[.int .i64 r1, .bool r2]) ∧ Below w.heap.size w w' := by
 have HR0 := Aside0.mk hr0
 have HC0 := Aside0.mk hc0
 clear hr0 hc0
 have HR1 := Aside0.mk hr1
 have HC1 := Aside0.mk hc1
 clear hr1 hc1
 have HB := Aside0.mk (Below.refl w.heap.size w)
 have H : ((spec_l11Values.f k l0).bind fun t295 => (if t295 = true then ((spec_l11Keys.f k l1 60).bind fun t296 => (spec_WorstOf.j0 k l0 l1 (!t296))) else (spec_WorstOf.j0 k l0 l1 true))) = some (r1, r2) := h
 clear h
 have HC3 := Aside0.mk H
 clear H
 go_enter Try.func14, Try.ntmps14
 go_upto_region 1 with (fail)
 go_cut [17] (fun v17 wc => ∃ (kq : Nat) (x17_2 : Bool), v17 = .bool x17_2 ∧ Aside0 (spec_WorstOf.j0 kq l0 l1 x17_2 = some (r1, r2)) ∧ Aside0 (kq ≤ k) ∧ Aside0 (Below w.heap.size w wc))
 case first =>
  have H := HC3.out
  clear HC3
  replace H := Option.bind_eq_some_iff.mp H
  obtain ⟨t295, A40, H⟩ := H
  replace H : (if t295 = true then ((spec_l11Keys.f k l1 60).bind fun t296 => (spec_WorstOf.j0 k l0 l1 (!t296))) else (spec_WorstOf.j0 k l0 l1 true)) = some (r1, r2) := H
  have A4 := Aside0.mk A40
  clear A40
  by_cases c5 : t295 = true
  ·subst c5
   have H1 : ((spec_l11Keys.f k l1 60).bind fun t296 => (spec_WorstOf.j0 k l0 l1 (!t296))) = some (r1, r2) := by rw [if_pos rfl] at H; exact H
   clear H
   have H := H1
   clear H1
   replace H := Option.bind_eq_some_iff.mp H
   obtain ⟨t296, A60, H⟩ := H
   replace H : (spec_WorstOf.j0 k l0 l1 (!t296)) = some (r1, r2) := H
   have A6 := Aside0.mk A60
   clear A60
   have H' := Aside0.mk H
   clear H
   go_wp2_with (first | ((with_reducible refine gate_callee (f := 25) rfl ?_); refine goesL_ (some 11) rfl rfl Try.func25 (by kernel_rfl) rfl #[.slice A0 l0.length c0] rfl aE ?_; (with_reducible refine (spec_l11Values.calls k _ _ l0 true _ ?side1 ?side2 A4.out).mono ?_); (case side1 => exact cU (Kd.C_below HR0.out HB.out)); (case side2 => exact HC0.out); rintro e w' ⟨rfl, ⟨nd, rfl⟩⟩; refine ⟨_, rfl, ?_⟩) | (go_at_call 31; (with_reducible refine (spec_l11Keys.calls k _ _ l1 60 t296 _ ?side1 ?side2 A6.out).mono ?_); (case side1 => exact cU (Kd.C_below HR1.out (lU))); (case side2 => exact HC1.out); rintro e w7 ⟨rfl, hb⟩; replace HB := bH (lU) hb; (try clear hb)))
   go_meet
   case rel => exact ⟨_, (!t296), tE, H', ⟨by first | omega | exact Nat.le_refl _⟩, ⟨by repeat (first | (with_reducible first | exact HB.out | apply below_alloc | apply pw_below_drewN | apply below_drew1) | exact HB.out)⟩⟩
  ·replace c5 := Bool.eq_false_iff.mpr c5
   subst c5
   have H1 : (spec_WorstOf.j0 k l0 l1 true) = some (r1, r2) := by rw [if_neg (show ¬ (false = true) by decide)] at H; exact H
   clear H
   have H := H1
   clear H1
   have H' := Aside0.mk H
   clear H
   go_wp2_with (first | ((with_reducible refine gate_callee (f := 25) rfl ?_); refine goesL_ (some 11) rfl rfl Try.func25 (by kernel_rfl) rfl #[.slice A0 l0.length c0] rfl aE ?_; (with_reducible refine (spec_l11Values.calls k _ _ l0 false _ ?side1 ?side2 A4.out).mono ?_); (case side1 => exact cU (Kd.C_below HR0.out HB.out)); (case side2 => exact HC0.out); rintro e w' ⟨rfl, ⟨nd, rfl⟩⟩; refine ⟨_, rfl, ?_⟩))
   go_meet
   case rel => exact ⟨_, (true), tE, H', ⟨by first | omega | exact Nat.le_refl _⟩, ⟨by repeat (first | (with_reducible first | exact HB.out | apply below_alloc | apply pw_below_drewN | apply below_drew1) | exact HB.out)⟩⟩
 case rest =>
  clear HC3
  try clear c1
  try clear c2
  try clear p2
  try clear c5
  obtain ⟨kq, x17_2, rfl, HA, HJ2, HB⟩ := hcut
  cases kq with
  | zero => exact absurd HA.out (by simp [spec_WorstOf.j0])
  | succ kj2 =>
   have H := HA.out
   clear HA
   simp only [spec_WorstOf.j0] at H
   by_cases c8 : x17_2 = true
   ·subst c8
    have H1 : (some (0, false)) = some (r1, r2) := by rw [if_pos rfl] at H; exact H
    clear H
    have H := H1
    clear H1
    simp only [Option.some.injEq, Prod.mk.injEq] at H
    obtain ⟨rfl, rfl⟩ := H
    go_wp2
    go_ret2
    exact ⟨eE, lU⟩
   ·replace c8 := Bool.eq_false_iff.mpr c8
    subst c8
    have H1 : (spec_WorstOf.l0 kj2 l1 0 l0 (l0.length : Int) 0) = some (r1, r2) := by rw [if_neg (show ¬ (false = true) by decide)] at H; exact H
    clear H
    have H := H1
    clear H1
    have H' := Aside0.mk H
    clear H
    go_wp2
    go_loopg [6, 20] kj2 (fun kq v6 v20 w' => ∃ (x6_2 : Int) (x20_2 : Int), v6 = .int .i64 x6_2 ∧ v20 = .int .i64 x20_2 ∧ Aside0 (spec_WorstOf.l0 kq l1 x6_2 l0 (l0.length : Int) x20_2 = some (r1, r2)) ∧ Aside0 (kq ≤ kj2) ∧ Aside0 (Below w.heap.size w w'))
    case atStart => exact ⟨(0), (0), tE, tE, H', ⟨Nat.le_refl _⟩, ⟨by repeat (first | (with_reducible first | exact HB.out | apply below_alloc | apply pw_below_drewN | apply below_drew1) | exact HB.out)⟩⟩
    case round =>
     clear H'
     try clear c1
     try clear c2
     try clear p2
     try clear c5
     try clear c8
     try clear p2
     obtain ⟨x6_2, x20_2, rfl, rfl, HA, HK2, HB⟩ := hrel
     cases gk with
     | zero => exact absurd HA.out (by simp [spec_WorstOf.l0])
     | succ k2 =>
      have H := HA.out
      clear HA
      simp only [spec_WorstOf.l0] at H
      by_cases c9 : x20_2 < (l0.length : Int)
      ·rw [if_pos c9] at H
       have c9b0 : decide (x20_2 < (l0.length : Int)) = true := decide_eq_true c9
       clear c9
       by_cases c10 : 0 ≤ x20_2
       ·rw [if_pos c10] at H
        have c10b0 : decide (0 ≤ x20_2) = true := decide_eq_true c10
        clear c10
        by_cases c11 : x20_2 < (l0.length : Int)
        ·rw [if_pos c11] at H
         have c11b0 : decide (x20_2 < (l0.length : Int)) = true := decide_eq_true c11
         clear c11
         replace H := Option.bind_eq_some_iff.mp H
         obtain ⟨t298, A120, H⟩ := H
         replace H : ((spec_l1Abs.f (wrap64 (t298 - (rd l0 x20_2)))).bind fun t299 => (if t299 > x6_2 then (spec_WorstOf.l0 k2 l1 t299 l0 (l0.length : Int) (wrap64 (x20_2 + 1))) else (spec_WorstOf.l0 k2 l1 x6_2 l0 (l0.length : Int) (wrap64 (x20_2 + 1))))) = some (r1, r2) := H
         have A12 := Aside0.mk A120
         clear A120
         replace H := Option.bind_eq_some_iff.mp H
         obtain ⟨t299, A130, H⟩ := H
         replace H : (if t299 > x6_2 then (spec_WorstOf.l0 k2 l1 t299 l0 (l0.length : Int) (wrap64 (x20_2 + 1))) else (spec_WorstOf.l0 k2 l1 x6_2 l0 (l0.length : Int) (wrap64 (x20_2 + 1)))) = some (r1, r2) := H
         have A13 := Aside0.mk A130
         clear A130
         by_cases c14 : t299 > x6_2
         ·rw [if_pos c14] at H
          have c14b0 : decide (x6_2 < t299) = true := decide_eq_true c14
          clear c14
          have H' := Aside0.mk H
          clear H
          have p297 : 0 ≤ (x20_2 : Int) := of_decide_eq_true hE
          have q297 : x20_2 < (l0.length : Int) := of_decide_eq_true hE
          obtain ⟨ad297, e297, hx297_0⟩ := Kd.at_int HR0.out x20_2 p297 q297
          cases e297
          replace hx297_0 := (HB.out.cell (World.block_lt_of_cell? w _ hx297_0)).trans hx297_0
          replace p297 := eq_true p297
          replace q297 := eq_true q297
          go_wp2_with (first | ((with_reducible refine gate_callee (f := 33) rfl ?_); refine goesL_ (some 27) rfl rfl Try.func33 (by kernel_rfl) rfl #[.slice A1 l1.length c1, .int .i64 x20_2] rfl aE ?_; (with_reducible refine (spec_l11At.calls k2 _ _ l1 x20_2 t298 _ ?side1 ?side2 A12.out).mono ?_); (case side1 => exact cU (Kd.C_below HR1.out HB.out)); (case side2 => exact HC1.out); rintro e w15 ⟨rfl, hb⟩; refine ⟨_, rfl, ?_⟩; replace HB := bH (lU) hb; (try clear hb)) | ((with_reducible refine gate_callee (f := 32) rfl ?_); refine goesL_ (some 30) rfl rfl Try.func32 (by kernel_rfl) rfl #[.int .i64 (wrap64 (t298 - (rd l0 x20_2)))] rfl aE ?_; (with_reducible refine (spec_l1Abs.calls (wrap64 (t298 - (rd l0 x20_2))) t299 _ A13.out).mono ?_); rintro e w' ⟨rfl, ⟨nd, rfl⟩⟩; refine ⟨_, rfl, ?_⟩))
          go_roundg k2
          case measure => have := HJ2.out; have := HK2.out; omega
          case rel => exact ⟨(t299), (wrap64 (x20_2 + 1)), tE, tE, H', ⟨by have := HJ2.out; have := HK2.out; omega⟩, ⟨by repeat (first | (with_reducible first | exact HB.out | apply below_alloc | apply pw_below_drewN | apply below_drew1) | exact HB.out)⟩⟩
         ·rw [if_neg c14] at H
          have c14b0 : decide (x6_2 < t299) = false := decide_eq_false c14
          clear c14
          have H' := Aside0.mk H
          clear H
          have p297 : 0 ≤ (x20_2 : Int) := of_decide_eq_true hE
          have q297 : x20_2 < (l0.length : Int) := of_decide_eq_true hE
          obtain ⟨ad297, e297, hx297_0⟩ := Kd.at_int HR0.out x20_2 p297 q297
          cases e297
          replace hx297_0 := (HB.out.cell (World.block_lt_of_cell? w _ hx297_0)).trans hx297_0
          replace p297 := eq_true p297
          replace q297 := eq_true q297
          go_wp2_with (first | ((with_reducible refine gate_callee (f := 33) rfl ?_); refine goesL_ (some 27) rfl rfl Try.func33 (by kernel_rfl) rfl #[.slice A1 l1.length c1, .int .i64 x20_2] rfl aE ?_; (with_reducible refine (spec_l11At.calls k2 _ _ l1 x20_2 t298 _ ?side1 ?side2 A12.out).mono ?_); (case side1 => exact cU (Kd.C_below HR1.out HB.out)); (case side2 => exact HC1.out); rintro e w16 ⟨rfl, hb⟩; refine ⟨_, rfl, ?_⟩; replace HB := bH (lU) hb; (try clear hb)) | ((with_reducible refine gate_callee (f := 32) rfl ?_); refine goesL_ (some 30) rfl rfl Try.func32 (by kernel_rfl) rfl #[.int .i64 (wrap64 (t298 - (rd l0 x20_2)))] rfl aE ?_; (with_reducible refine (spec_l1Abs.calls (wrap64 (t298 - (rd l0 x20_2))) t299 _ A13.out).mono ?_); rintro e w' ⟨rfl, ⟨nd, rfl⟩⟩; refine ⟨_, rfl, ?_⟩))
          go_roundg k2
          case measure => have := HJ2.out; have := HK2.out; omega
          case rel => exact ⟨(x6_2), (wrap64 (x20_2 + 1)), tE, tE, H', ⟨by have := HJ2.out; have := HK2.out; omega⟩, ⟨by repeat (first | (with_reducible first | exact HB.out | apply below_alloc | apply pw_below_drewN | apply below_drew1) | exact HB.out)⟩⟩
        ·rw [if_neg c11] at H
         exact absurd H (by simp)
       ·rw [if_neg c10] at H
        exact absurd H (by simp)
      ·rw [if_neg c9] at H
       have c9b0 : decide (x20_2 < (l0.length : Int)) = false := decide_eq_false c9
       clear c9
       simp only [Option.some.injEq, Prod.mk.injEq] at H
       obtain ⟨rfl, rfl⟩ := H
       go_wp2
       go_ret2
       exact ⟨eE, lU⟩
end Go.Proofs.Ytbamdbdcglohmaa.PFnKeys
namespace Go.Proofs.Ytbamdbdcglohmaa.PFnKeys
open Go.RowKit Go.Proofs.YtbamdbdcglohmaaW.PrintWords Go.Proofs.YtbamdbdcglohmaaW.PrintLast Go.Proofs.YtbamdbdcglohmaaW.PrintMore
attribute [local go_sem] max2_int min2_int max_two min_two max_three min_three max_four min_four   -- for this text's walks alone
set_option linter.unusedVariables false
set_option linter.unusedSimpArgs false
mutual
def laws_FnKeys.j0 : Nat → List Int → Int → List (S41) → Bool → Bool → Option (Bool)
 | 0, _, _, _, _, _ => none
 | k + 1, x3, x4, x5, x6, x47 => if x47 = true then (some false) else (if x6 = true then ((impl_WorstOf.f k x3 x5).bind fun bt312 => (if bt312.2 = true then (if bt312.1 > x4 then (laws_FnKeys.j1 k x3 x4 x5 true) else (if 0 < (x5.length : Int) then (if ((rd_T41 x5 0).f0) = 0 then (if 0 ≤ (wrap64 ((x5.length : Int) - 1)) then (if (wrap64 ((x5.length : Int) - 1)) < (x5.length : Int) then (laws_FnKeys.j1 k x3 x4 x5 (((rd_T41 x5 (wrap64 ((x5.length : Int) - 1))).f0) != (wrap64 ((x3.length : Int) - 1)))) else (none)) else (none)) else (laws_FnKeys.j1 k x3 x4 x5 true)) else (none))) else (laws_FnKeys.j1 k x3 x4 x5 true))) else (some true))
def laws_FnKeys.j1 : Nat → List Int → Int → List (S41) → Bool → Option (Bool)
 | 0, _, _, _, _ => none
 | k + 1, x3, x4, x5, x82 => if x82 = true then (some false) else (laws_FnKeys.l0 k x3 x4 x5 x5 (x5.length : Int) 0)
def laws_FnKeys.l0 : Nat → List Int → Int → List (S41) → List (S41) → Int → Int → Option (Bool)
 | 0, _, _, _, _, _, _ => none
 | k + 1, x3, x4, x5, x83, x84, x85 => if x85 < x84 then (if 0 ≤ x85 then (if x85 < (x83.length : Int) then (if 0 ≤ ((rd_T41 x83 x85).f0) then (if ((rd_T41 x83 x85).f0) < (x3.length : Int) then (if (rd x3 ((rd_T41 x83 x85).f0)) = ((rd_T41 x83 x85).f1) then (laws_FnKeys.l0 k x3 x4 x5 x83 x84 (wrap64 (x85 + 1))) else (some false)) else (none)) else (none)) else (none)) else (none)) else (if (x3.length : Int) > 9 then (laws_FnKeys.j3 k x3 x4 x5 true) else (laws_FnKeys.j3 k x3 x4 x5 (decide ((x3.length : Int) < 3))))
def laws_FnKeys.j3 : Nat → List Int → Int → List (S41) → Bool → Option (Bool)
 | 0, _, _, _, _ => none
 | k + 1, x3, x4, x5, x105 => if x105 = true then (some true) else (laws_FnKeys.l1 k x3 x4 x5 0)
def laws_FnKeys.l1 : Nat → List Int → Int → List (S41) → Int → Option (Bool)
 | 0, _, _, _, _ => none
 | k + 1, x3, x4, x5, x13 => if 0 ≤ (IntKind.u64.wrap (wrap64 ((x3.length : Int) - 2))) then (if x13 < (shl .i64 1 (IntKind.u64.wrap (wrap64 ((x3.length : Int) - 2)))) then (if 0 < (x3.length : Int) then (laws_FnKeys.l2 k x3 x4 x5 x13 (([(⟨0, rd x3 0⟩ : S41)] : List (S41))) 1) else (none)) else (some true)) else (none)
def laws_FnKeys.l2 : Nat → List Int → Int → List (S41) → Int → List (S41) → Int → Option (Bool)
 | 0, _, _, _, _, _, _ => none
 | k + 1, x3, x4, x5, x13, x14, x15 => if x15 < (wrap64 ((x3.length : Int) - 1)) then (if 0 ≤ (IntKind.u64.wrap (wrap64 (x15 - 1))) then (if (Go.bits .and .i64 (shr .i64 x13 (IntKind.u64.wrap (wrap64 (x15 - 1)))) 1) = 1 then (if 0 ≤ x15 then (if x15 < (x3.length : Int) then (if x14.length < 8796093022208 then (laws_FnKeys.l2 k x3 x4 x5 x13 (x14 ++ [(⟨x15, rd x3 x15⟩ : S41)]) (wrap64 (x15 + 1))) else (none)) else (none)) else (none)) else (laws_FnKeys.l2 k x3 x4 x5 x13 x14 (wrap64 (x15 + 1)))) else (none)) else (if 0 ≤ (wrap64 ((x3.length : Int) - 1)) then (if (wrap64 ((x3.length : Int) - 1)) < (x3.length : Int) then (if x14.length < 8796093022208 then ((some (x14 ++ [(⟨wrap64 ((x3.length : Int) - 1), rd x3 (wrap64 ((x3.length : Int) - 1))⟩ : S41)] : List (S41))).bind fun y328 => ((spec_WorstOf.f k x3 y328).bind fun bt331 => (if bt331.1 ≤ x4 then (if (y328.length : Int) < (x5.length : Int) then (some false) else (laws_FnKeys.l1 k x3 x4 x5 (wrap64 (x13 + 1)))) else (laws_FnKeys.l1 k x3 x4 x5 (wrap64 (x13 + 1)))))) else (none)) else (none)) else (none))
end
def laws_FnKeys.f (k : Nat) (l0 : List Int) : Option (Bool) := if (l0.length : Int) > 1048576 then (some true) else ((spec_DrawFewestKeys.f k l0).bind fun bt300 => ((impl_FewestKeys.f k bt300.1 bt300.2).bind fun bt304 => ((spec_FewestKeys.f k bt300.1 bt300.2).bind fun bt308 => (if (bt304.2 != bt308.2) = true then (laws_FnKeys.j0 k bt300.1 bt300.2 bt304.1 bt304.2 true) else (laws_FnKeys.j0 k bt300.1 bt300.2 bt304.1 bt304.2 ((bt304.1.length : Int) != (bt308.1.length : Int)))))))
theorem laws_FnKeys.mono_l : ∀ k, (∀ y0 y1 y2 y3 y4, LeO (laws_FnKeys.j0 k y0 y1 y2 y3 y4) (laws_FnKeys.j0 (k + 1) y0 y1 y2 y3 y4)) ∧ (∀ y0 y1 y2 y3, LeO (laws_FnKeys.j1 k y0 y1 y2 y3) (laws_FnKeys.j1 (k + 1) y0 y1 y2 y3)) ∧ (∀ y0 y1 y2 y3 y4 y5, LeO (laws_FnKeys.l0 k y0 y1 y2 y3 y4 y5) (laws_FnKeys.l0 (k + 1) y0 y1 y2 y3 y4 y5)) ∧ (∀ y0 y1 y2 y3, LeO (laws_FnKeys.j3 k y0 y1 y2 y3) (laws_FnKeys.j3 (k + 1) y0 y1 y2 y3)) ∧ (∀ y0 y1 y2 y3, LeO (laws_FnKeys.l1 k y0 y1 y2 y3) (laws_FnKeys.l1 (k + 1) y0 y1 y2 y3)) ∧ (∀ y0 y1 y2 y3 y4 y5, LeO (laws_FnKeys.l2 k y0 y1 y2 y3 y4 y5) (laws_FnKeys.l2 (k + 1) y0 y1 y2 y3 y4 y5))
 | 0 => ⟨fun _ _ _ _ _ r h => by simp [laws_FnKeys.j0] at h, fun _ _ _ _ r h => by simp [laws_FnKeys.j1] at h, fun _ _ _ _ _ _ r h => by simp [laws_FnKeys.l0] at h, fun _ _ _ _ r h => by simp [laws_FnKeys.j3] at h, fun _ _ _ _ r h => by simp [laws_FnKeys.l1] at h, fun _ _ _ _ _ _ r h => by simp [laws_FnKeys.l2] at h⟩
 | k + 1 => by
  obtain ⟨ih0, ih1, ih2, ih3, ih4, ih5⟩ := laws_FnKeys.mono_l k
  refine ⟨?_, ?_, ?_, ?_, ?_, ?_⟩
  ·intro y0 y1 y2 y3 y4
   unfold laws_FnKeys.j0
   repeat' first
   | (with_reducible exact ih0 _ _ _ _ _)
   | (with_reducible exact ih1 _ _ _ _)
   | (with_reducible exact ih2 _ _ _ _ _ _)
   | (with_reducible exact ih3 _ _ _ _)
   | (with_reducible exact ih4 _ _ _ _)
   | (with_reducible exact ih5 _ _ _ _ _ _)
   | (with_reducible exact impl_FewestKeys.mono _ _ _)
   | (with_reducible exact impl_WorstOf.mono _ _ _)
   | (with_reducible exact spec_DrawFewestKeys.mono _ _)
   | (with_reducible exact spec_FewestKeys.mono _ _ _)
   | (with_reducible exact spec_WorstOf.mono _ _ _)
   | (with_reducible first | exact LeO.refl _ | exact LeO.none _ | refine LeO.ite ?_ ?_ | refine LeO.bind ?_ (fun _ => ?_))
   | exact ih0 _ _ _ _ _
   | exact ih1 _ _ _ _
   | exact ih2 _ _ _ _ _ _
   | exact ih3 _ _ _ _
   | exact ih4 _ _ _ _
   | exact ih5 _ _ _ _ _ _
   | exact impl_FewestKeys.mono _ _ _
   | exact impl_WorstOf.mono _ _ _
   | exact spec_DrawFewestKeys.mono _ _
   | exact spec_FewestKeys.mono _ _ _
   | exact spec_WorstOf.mono _ _ _ | exact LeO.none _ | refine LeO.ite ?_ ?_ | refine LeO.bind ?_ (fun _ => ?_)
  ·intro y0 y1 y2 y3
   unfold laws_FnKeys.j1
   repeat' first
   | (with_reducible exact ih0 _ _ _ _ _)
   | (with_reducible exact ih1 _ _ _ _)
   | (with_reducible exact ih2 _ _ _ _ _ _)
   | (with_reducible exact ih3 _ _ _ _)
   | (with_reducible exact ih4 _ _ _ _)
   | (with_reducible exact ih5 _ _ _ _ _ _)
   | (with_reducible exact impl_FewestKeys.mono _ _ _)
   | (with_reducible exact impl_WorstOf.mono _ _ _)
   | (with_reducible exact spec_DrawFewestKeys.mono _ _)
   | (with_reducible exact spec_FewestKeys.mono _ _ _)
   | (with_reducible exact spec_WorstOf.mono _ _ _)
   | (with_reducible first | exact LeO.refl _ | exact LeO.none _ | refine LeO.ite ?_ ?_ | refine LeO.bind ?_ (fun _ => ?_))
   | exact ih0 _ _ _ _ _
   | exact ih1 _ _ _ _
   | exact ih2 _ _ _ _ _ _
   | exact ih3 _ _ _ _
   | exact ih4 _ _ _ _
   | exact ih5 _ _ _ _ _ _
   | exact impl_FewestKeys.mono _ _ _
   | exact impl_WorstOf.mono _ _ _
   | exact spec_DrawFewestKeys.mono _ _
   | exact spec_FewestKeys.mono _ _ _
   | exact spec_WorstOf.mono _ _ _ | exact LeO.none _ | refine LeO.ite ?_ ?_ | refine LeO.bind ?_ (fun _ => ?_)
  ·intro y0 y1 y2 y3 y4 y5
   unfold laws_FnKeys.l0
   repeat' first
   | (with_reducible exact ih0 _ _ _ _ _)
   | (with_reducible exact ih1 _ _ _ _)
   | (with_reducible exact ih2 _ _ _ _ _ _)
   | (with_reducible exact ih3 _ _ _ _)
   | (with_reducible exact ih4 _ _ _ _)
   | (with_reducible exact ih5 _ _ _ _ _ _)
   | (with_reducible exact impl_FewestKeys.mono _ _ _)
   | (with_reducible exact impl_WorstOf.mono _ _ _)
   | (with_reducible exact spec_DrawFewestKeys.mono _ _)
   | (with_reducible exact spec_FewestKeys.mono _ _ _)
   | (with_reducible exact spec_WorstOf.mono _ _ _)
   | (with_reducible first | exact LeO.refl _ | exact LeO.none _ | refine LeO.ite ?_ ?_ | refine LeO.bind ?_ (fun _ => ?_))
   | exact ih0 _ _ _ _ _
   | exact ih1 _ _ _ _
   | exact ih2 _ _ _ _ _ _
   | exact ih3 _ _ _ _
   | exact ih4 _ _ _ _
   | exact ih5 _ _ _ _ _ _
   | exact impl_FewestKeys.mono _ _ _
   | exact impl_WorstOf.mono _ _ _
   | exact spec_DrawFewestKeys.mono _ _
   | exact spec_FewestKeys.mono _ _ _
   | exact spec_WorstOf.mono _ _ _ | exact LeO.none _ | refine LeO.ite ?_ ?_ | refine LeO.bind ?_ (fun _ => ?_)
  ·intro y0 y1 y2 y3
   unfold laws_FnKeys.j3
   repeat' first
   | (with_reducible exact ih0 _ _ _ _ _)
   | (with_reducible exact ih1 _ _ _ _)
   | (with_reducible exact ih2 _ _ _ _ _ _)
   | (with_reducible exact ih3 _ _ _ _)
   | (with_reducible exact ih4 _ _ _ _)
   | (with_reducible exact ih5 _ _ _ _ _ _)
   | (with_reducible exact impl_FewestKeys.mono _ _ _)
   | (with_reducible exact impl_WorstOf.mono _ _ _)
   | (with_reducible exact spec_DrawFewestKeys.mono _ _)
   | (with_reducible exact spec_FewestKeys.mono _ _ _)
   | (with_reducible exact spec_WorstOf.mono _ _ _)
   | (with_reducible first | exact LeO.refl _ | exact LeO.none _ | refine LeO.ite ?_ ?_ | refine LeO.bind ?_ (fun _ => ?_))
   | exact ih0 _ _ _ _ _
   | exact ih1 _ _ _ _
   | exact ih2 _ _ _ _ _ _
   | exact ih3 _ _ _ _
   | exact ih4 _ _ _ _
   | exact ih5 _ _ _ _ _ _
   | exact impl_FewestKeys.mono _ _ _
   | exact impl_WorstOf.mono _ _ _
   | exact spec_DrawFewestKeys.mono _ _
   | exact spec_FewestKeys.mono _ _ _
   | exact spec_WorstOf.mono _ _ _ | exact LeO.none _ | refine LeO.ite ?_ ?_ | refine LeO.bind ?_ (fun _ => ?_)
  ·intro y0 y1 y2 y3
   unfold laws_FnKeys.l1
   repeat' first
   | (with_reducible exact ih0 _ _ _ _ _)
   | (with_reducible exact ih1 _ _ _ _)
   | (with_reducible exact ih2 _ _ _ _ _ _)
   | (with_reducible exact ih3 _ _ _ _)
   | (with_reducible exact ih4 _ _ _ _)
   | (with_reducible exact ih5 _ _ _ _ _ _)
   | (with_reducible exact impl_FewestKeys.mono _ _ _)
   | (with_reducible exact impl_WorstOf.mono _ _ _)
   | (with_reducible exact spec_DrawFewestKeys.mono _ _)
   | (with_reducible exact spec_FewestKeys.mono _ _ _)
   | (with_reducible exact spec_WorstOf.mono _ _ _)
   | (with_reducible first | exact LeO.refl _ | exact LeO.none _ | refine LeO.ite ?_ ?_ | refine LeO.bind ?_ (fun _ => ?_))
   | exact ih0 _ _ _ _ _
   | exact ih1 _ _ _ _
   | exact ih2 _ _ _ _ _ _
   | exact ih3 _ _ _ _
   | exact ih4 _ _ _ _
   | exact ih5 _ _ _ _ _ _
   | exact impl_FewestKeys.mono _ _ _
   | exact impl_WorstOf.mono _ _ _
   | exact spec_DrawFewestKeys.mono _ _
   | exact spec_FewestKeys.mono _ _ _
   | exact spec_WorstOf.mono _ _ _ | exact LeO.none _ | refine LeO.ite ?_ ?_ | refine LeO.bind ?_ (fun _ => ?_)
  ·intro y0 y1 y2 y3 y4 y5
   unfold laws_FnKeys.l2
   repeat' first
   | (with_reducible exact ih0 _ _ _ _ _)
   | (with_reducible exact ih1 _ _ _ _)
   | (with_reducible exact ih2 _ _ _ _ _ _)
   | (with_reducible exact ih3 _ _ _ _)
   | (with_reducible exact ih4 _ _ _ _)
   | (with_reducible exact ih5 _ _ _ _ _ _)
   | (with_reducible exact impl_FewestKeys.mono _ _ _)
   | (with_reducible exact impl_WorstOf.mono _ _ _)
   | (with_reducible exact spec_DrawFewestKeys.mono _ _)
   | (with_reducible exact spec_FewestKeys.mono _ _ _)
   | (with_reducible exact spec_WorstOf.mono _ _ _)
   | (with_reducible first | exact LeO.refl _ | exact LeO.none _ | refine LeO.ite ?_ ?_ | refine LeO.bind ?_ (fun _ => ?_))
   | exact ih0 _ _ _ _ _
   | exact ih1 _ _ _ _
   | exact ih2 _ _ _ _ _ _
   | exact ih3 _ _ _ _
   | exact ih4 _ _ _ _
   | exact ih5 _ _ _ _ _ _
   | exact impl_FewestKeys.mono _ _ _
   | exact impl_WorstOf.mono _ _ _
   | exact spec_DrawFewestKeys.mono _ _
   | exact spec_FewestKeys.mono _ _ _
   | exact spec_WorstOf.mono _ _ _ | exact LeO.none _ | refine LeO.ite ?_ ?_ | refine LeO.bind ?_ (fun _ => ?_)
theorem laws_FnKeys.mono : ∀ a0 k, LeO (laws_FnKeys.f k a0) (laws_FnKeys.f (k + 1) a0) := by
 intro a0 k
 obtain ⟨ih0, ih1, ih2, ih3, ih4, ih5⟩ := laws_FnKeys.mono_l k
 unfold laws_FnKeys.f
 repeat' first
   | (with_reducible exact ih0 _ _ _ _ _)
   | (with_reducible exact ih1 _ _ _ _)
   | (with_reducible exact ih2 _ _ _ _ _ _)
   | (with_reducible exact ih3 _ _ _ _)
   | (with_reducible exact ih4 _ _ _ _)
   | (with_reducible exact ih5 _ _ _ _ _ _)
   | (with_reducible exact impl_FewestKeys.mono _ _ _)
   | (with_reducible exact impl_WorstOf.mono _ _ _)
   | (with_reducible exact spec_DrawFewestKeys.mono _ _)
   | (with_reducible exact spec_FewestKeys.mono _ _ _)
   | (with_reducible exact spec_WorstOf.mono _ _ _)
   | (with_reducible first | exact LeO.refl _ | exact LeO.none _ | refine LeO.ite ?_ ?_ | refine LeO.bind ?_ (fun _ => ?_))
   | exact ih0 _ _ _ _ _
   | exact ih1 _ _ _ _
   | exact ih2 _ _ _ _ _ _
   | exact ih3 _ _ _ _
   | exact ih4 _ _ _ _
   | exact ih5 _ _ _ _ _ _
   | exact impl_FewestKeys.mono _ _ _
   | exact impl_WorstOf.mono _ _ _
   | exact spec_DrawFewestKeys.mono _ _
   | exact spec_FewestKeys.mono _ _ _
   | exact spec_WorstOf.mono _ _ _ | exact LeO.none _ | refine LeO.ite ?_ ?_ | refine LeO.bind ?_ (fun _ => ?_)
set_option maxHeartbeats 8000000 in
set_option maxRecDepth 100000 in
theorem laws_FnKeys.calls (k : Nat) (A0 : Option Addr) (c0 : Nat) (l0 : List Int) (r : Bool) (w : World) (hr0 : Kd.C (Kd.int .u8) w A0 l0.length l0) (hc0 : l0.length ≤ c0) (h : laws_FnKeys.f k l0 = some r) :
  Calls Try.prog 4 #[.slice A0 l0.length c0] w fun e w' => e = .returned (.bool r) ∧ Below w.heap.size w w' := by
 have hu41 := Try.underlying41
 have HR0 := Aside0.mk hr0
 have HC0 := Aside0.mk hc0
 clear hr0 hc0
 have HB := Aside0.mk (Below.refl w.heap.size w)
 have H : (if (l0.length : Int) > 1048576 then (some true) else ((spec_DrawFewestKeys.f k l0).bind fun bt300 => ((impl_FewestKeys.f k bt300.1 bt300.2).bind fun bt304 => ((spec_FewestKeys.f k bt300.1 bt300.2).bind fun bt308 => (if (bt304.2 != bt308.2) = true then (laws_FnKeys.j0 k bt300.1 bt300.2 bt304.1 bt304.2 true) else (laws_FnKeys.j0 k bt300.1 bt300.2 bt304.1 bt304.2 ((bt304.1.length : Int) != (bt308.1.length : Int)))))))) = some r := h
 clear h
 by_cases c2 : (l0.length : Int) > 1048576
 ·rw [if_pos c2] at H
  have c2b0 : decide (1048576 < (l0.length : Int)) = true := decide_eq_true c2
  have c2b1 : decide (1048576 < l0.length) = true := decide_eq_true (by omega)
  clear c2
  obtain rfl := Option.some.inj H
  go_enter Try.func4, Try.ntmps4
  go_wp2
  repeat (go_quiet (fail); try go_wp2)
  go_ret
  exact ⟨eE, lU⟩
 ·rw [if_neg c2] at H
  have c2b0 : decide (1048576 < (l0.length : Int)) = false := decide_eq_false c2
  have c2b1 : decide (1048576 < l0.length) = false := decide_eq_false (by omega)
  clear c2
  replace H := Option.bind_eq_some_iff.mp H
  obtain ⟨⟨t300, t301⟩, A30, H⟩ := H
  replace H : ((impl_FewestKeys.f k t300 t301).bind fun bt304 => ((spec_FewestKeys.f k t300 t301).bind fun bt308 => (if (bt304.2 != bt308.2) = true then (laws_FnKeys.j0 k t300 t301 bt304.1 bt304.2 true) else (laws_FnKeys.j0 k t300 t301 bt304.1 bt304.2 ((bt304.1.length : Int) != (bt308.1.length : Int)))))) = some r := H
  have A3 := Aside0.mk A30
  clear A30
  replace H := Option.bind_eq_some_iff.mp H
  obtain ⟨⟨t304, t305⟩, A40, H⟩ := H
  replace H : ((spec_FewestKeys.f k t300 t301).bind fun bt308 => (if (t305 != bt308.2) = true then (laws_FnKeys.j0 k t300 t301 t304 t305 true) else (laws_FnKeys.j0 k t300 t301 t304 t305 ((t304.length : Int) != (bt308.1.length : Int))))) = some r := H
  have A4 := Aside0.mk A40
  clear A40
  replace H := Option.bind_eq_some_iff.mp H
  obtain ⟨⟨t308, t309⟩, A50, H⟩ := H
  replace H : (if (t305 != t309) = true then (laws_FnKeys.j0 k t300 t301 t304 t305 true) else (laws_FnKeys.j0 k t300 t301 t304 t305 ((t304.length : Int) != (t308.length : Int)))) = some r := H
  have A5 := Aside0.mk A50
  clear A50
  have HC6 := Aside0.mk H
  clear H
  go_enter Try.func4, Try.ntmps4
  go_upto_region 6 with (first | (go_at_call 10; (with_reducible refine (spec_DrawFewestKeys.calls k _ _ l0 t300 t301 _ ?side1 ?side2 A3.out).mono ?_); (case side1 => repeat (first | exact HR0.out | (with_reducible refine Kd.C_alloc ?_ _) | (with_reducible refine Kd.C_drewN ?_ _) | (with_reducible refine Kd.C_drew ?_))); (case side2 => exact HC0.out); rintro e w7 ⟨v302, rfl, ho0, hb⟩; have HO303 := Aside0.mk (Kd.R_lower ho0 (below_size (lU))); replace HB := bH (lU) hb; (try clear hb); (try clear ho0); obtain ⟨Ao8, co8, eo8⟩ := Kd.R_slice HO303.out; subst eo8) | (go_at_call 11; (with_reducible refine (impl_FewestKeys.calls k _ _ t300 t301 t304 t305 _ ?side1 ?side2 A4.out).mono ?_); (case side1 => exact cU (Kd.R_reads' HO303.out).2.2); (case side2 => exact (Kd.R_reads' HO303.out).2.1); rintro e w9 ⟨v306, rfl, ho0, hb⟩; replace HO303 := Aside0.mk (Kd.R_below (rU HO303.out) hb); have HO307 := Aside0.mk (Kd.R_lower ho0 (below_size (lU))); replace HB := bH (lU) hb; (try clear hb); (try clear ho0)) | (go_at_call 12; (with_reducible refine (spec_FewestKeys.calls k _ _ t300 t301 t308 t309 _ ?side1 ?side2 A5.out).mono ?_); (case side1 => exact cU (Kd.R_reads' HO303.out).2.2); (case side2 => exact (Kd.R_reads' HO303.out).2.1); rintro e w10 ⟨v310, rfl, ho0, hb⟩; replace HO303 := Aside0.mk (Kd.R_below (rU HO303.out) hb); have HO311 := Aside0.mk (Kd.R_lower (Kd.R_new' ho0 (Kd.R_lt (rU HO307.out))) (below_size (lU))); replace HO307 := Aside0.mk (Kd.R_elder' (rU HO307.out) (Kd.R_base ho0) hb); replace HB := bH (lU) hb; (try clear hb); (try clear ho0)))
  repeat (go_quiet (first | (go_at_call 10; (with_reducible refine (spec_DrawFewestKeys.calls k _ _ l0 t300 t301 _ ?side1 ?side2 A3.out).mono ?_); (case side1 => repeat (first | exact HR0.out | (with_reducible refine Kd.C_alloc ?_ _) | (with_reducible refine Kd.C_drewN ?_ _) | (with_reducible refine Kd.C_drew ?_))); (case side2 => exact HC0.out); rintro e w7 ⟨v302, rfl, ho0, hb⟩; have HO303 := Aside0.mk (Kd.R_lower ho0 (below_size (lU))); replace HB := bH (lU) hb; (try clear hb); (try clear ho0); obtain ⟨Ao8, co8, eo8⟩ := Kd.R_slice HO303.out; subst eo8) | (go_at_call 11; (with_reducible refine (impl_FewestKeys.calls k _ _ t300 t301 t304 t305 _ ?side1 ?side2 A4.out).mono ?_); (case side1 => exact cU (Kd.R_reads' HO303.out).2.2); (case side2 => exact (Kd.R_reads' HO303.out).2.1); rintro e w9 ⟨v306, rfl, ho0, hb⟩; replace HO303 := Aside0.mk (Kd.R_below (rU HO303.out) hb); have HO307 := Aside0.mk (Kd.R_lower ho0 (below_size (lU))); replace HB := bH (lU) hb; (try clear hb); (try clear ho0)) | (go_at_call 12; (with_reducible refine (spec_FewestKeys.calls k _ _ t300 t301 t308 t309 _ ?side1 ?side2 A5.out).mono ?_); (case side1 => exact cU (Kd.R_reads' HO303.out).2.2); (case side2 => exact (Kd.R_reads' HO303.out).2.1); rintro e w10 ⟨v310, rfl, ho0, hb⟩; replace HO303 := Aside0.mk (Kd.R_below (rU HO303.out) hb); have HO311 := Aside0.mk (Kd.R_lower (Kd.R_new' ho0 (Kd.R_lt (rU HO307.out))) (below_size (lU))); replace HO307 := Aside0.mk (Kd.R_elder' (rU HO307.out) (Kd.R_base ho0) hb); replace HB := bH (lU) hb; (try clear hb); (try clear ho0))); go_upto_region 6 with (first | (go_at_call 10; (with_reducible refine (spec_DrawFewestKeys.calls k _ _ l0 t300 t301 _ ?side1 ?side2 A3.out).mono ?_); (case side1 => repeat (first | exact HR0.out | (with_reducible refine Kd.C_alloc ?_ _) | (with_reducible refine Kd.C_drewN ?_ _) | (with_reducible refine Kd.C_drew ?_))); (case side2 => exact HC0.out); rintro e w7 ⟨v302, rfl, ho0, hb⟩; have HO303 := Aside0.mk (Kd.R_lower ho0 (below_size (lU))); replace HB := bH (lU) hb; (try clear hb); (try clear ho0); obtain ⟨Ao8, co8, eo8⟩ := Kd.R_slice HO303.out; subst eo8) | (go_at_call 11; (with_reducible refine (impl_FewestKeys.calls k _ _ t300 t301 t304 t305 _ ?side1 ?side2 A4.out).mono ?_); (case side1 => exact cU (Kd.R_reads' HO303.out).2.2); (case side2 => exact (Kd.R_reads' HO303.out).2.1); rintro e w9 ⟨v306, rfl, ho0, hb⟩; replace HO303 := Aside0.mk (Kd.R_below (rU HO303.out) hb); have HO307 := Aside0.mk (Kd.R_lower ho0 (below_size (lU))); replace HB := bH (lU) hb; (try clear hb); (try clear ho0)) | (go_at_call 12; (with_reducible refine (spec_FewestKeys.calls k _ _ t300 t301 t308 t309 _ ?side1 ?side2 A5.out).mono ?_); (case side1 => exact cU (Kd.R_reads' HO303.out).2.2); (case side2 => exact (Kd.R_reads' HO303.out).2.1); rintro e w10 ⟨v310, rfl, ho0, hb⟩; replace HO303 := Aside0.mk (Kd.R_below (rU HO303.out) hb); have HO311 := Aside0.mk (Kd.R_lower (Kd.R_new' ho0 (Kd.R_lt (rU HO307.out))) (below_size (lU))); replace HO307 := Aside0.mk (Kd.R_elder' (rU HO307.out) (Kd.R_base ho0) hb); replace HB := bH (lU) hb; (try clear hb); (try clear ho0))))
  (try simp only [Act.put, List.setIfInBounds_toArray, List.set_cons_zero, List.set_cons_succ])
  go_cut [47] (fun v47 wc => ∃ (kq : Nat) (x47_5 : Bool), v47 = .bool x47_5 ∧ Aside0 (laws_FnKeys.j0 kq t300 t301 t304 t305 x47_5 = some r) ∧ Aside0 (kq ≤ k) ∧ Aside0 (Kd.R (Kd.int .i64) 3 wc w.heap.size (fun _ => True) (.slice Ao8 t300.length co8) t300) ∧ Aside0 (Kd.R k41 41 wc w.heap.size (fun _ => True) v306 t304) ∧ Aside0 (Below w.heap.size w wc))
  case first =>
   have H := HC6.out
   clear HC6
   by_cases c11 : (t305 != t309) = true
   ·rw [if_pos c11] at H
    have c11b0 : (t305 != t309) = true := c11
    (try (have c11b1 : decide (t305 = t309) = false := by simpa using c11))
    (try (have c11b2 : (t305 == t309) = false := by simpa using c11))
    (try (have c11b3 : ¬ (t305 = t309) := by simpa using c11))
    clear c11
    (first | rw [c11b0] | (simp only [i64_w, i32_w]; rw [c11b0]) | (rw [c11b2]; simp only [Bool.not_false, Bool.not_true]) | skip)
    have H' := Aside0.mk H
    clear H
    go_wp2
    repeat (go_quiet (fail); try go_wp2)
    go_meet
    case rel => exact ⟨_, (true), tE, H', ⟨by first | omega | exact Nat.le_refl _⟩, ⟨by (with_reducible repeat (first | apply Kd.R_alloc | apply Kd.R_drewN | apply Kd.R_drew)); exact HO303.out⟩, ⟨by (with_reducible repeat (first | apply Kd.R_alloc | apply Kd.R_drewN | apply Kd.R_drew)); exact Kd.R_mono HO307.out (fun _ hk => trivial)⟩, ⟨by repeat (first | (with_reducible first | exact HB.out | apply below_alloc | apply pw_below_drewN | apply below_drew1) | exact HB.out)⟩⟩
   ·rw [if_neg c11] at H
    have c11b0 : (t305 != t309) = false := by simpa using c11
    (try (have c11b1 : decide (t305 = t309) = true := by simpa using c11))
    (try (have c11b2 : (t305 == t309) = true := by simpa using c11))
    clear c11
    (first | rw [c11b0] | (simp only [i64_w, i32_w]; rw [c11b0]) | (rw [c11b2]; simp only [Bool.not_false, Bool.not_true]) | skip)
    have H' := Aside0.mk H
    clear H
    obtain ⟨Ao12, co12, eo12⟩ := Kd.R_slice HO307.out
    subst eo12
    obtain ⟨Ao13, co13, eo13⟩ := Kd.R_slice HO311.out
    subst eo13
    go_wp2
    repeat (go_quiet (fail); try go_wp2)
    go_meet
    case rel => exact ⟨_, (((t304.length : Int) != (t308.length : Int))), tE, H', ⟨by first | omega | exact Nat.le_refl _⟩, ⟨by (with_reducible repeat (first | apply Kd.R_alloc | apply Kd.R_drewN | apply Kd.R_drew)); exact HO303.out⟩, ⟨by (with_reducible repeat (first | apply Kd.R_alloc | apply Kd.R_drewN | apply Kd.R_drew)); exact Kd.R_mono HO307.out (fun _ hk => trivial)⟩, ⟨by repeat (first | (with_reducible first | exact HB.out | apply below_alloc | apply pw_below_drewN | apply below_drew1) | exact HB.out)⟩⟩
  case rest =>
   clear HC6
   try clear c1
   try clear c2
   try clear c2b0
   try clear c2b1
   try clear p2
   try clear c4
   try clear c11
   try clear c11b0
   try clear c11b1
   try clear c11b2
   obtain ⟨kq, x47_5, rfl, HA, HJ5, HO_3, HO_5, HB⟩ := hcut
   cases kq with
   | zero => exact absurd HA.out (by simp [laws_FnKeys.j0])
   | succ kj5 =>
    have H := HA.out
    clear HA
    simp only [laws_FnKeys.j0] at H
    by_cases c14 : x47_5 = true
    ·subst c14
     have H1 : (some false) = some r := by rw [if_pos rfl] at H; exact H
     clear H
     have H := H1
     clear H1
     obtain rfl := Option.some.inj H
     go_wp2
     repeat (go_quiet (fail); try go_wp2)
     go_ret
     exact ⟨eE, lU⟩
    ·replace c14 := Bool.eq_false_iff.mpr c14
     subst c14
     have H1 : (if t305 = true then ((impl_WorstOf.f kj5 t300 t304).bind fun bt312 => (if bt312.2 = true then (if bt312.1 > t301 then (laws_FnKeys.j1 kj5 t300 t301 t304 true) else (if 0 < (t304.length : Int) then (if ((rd_T41 t304 0).f0) = 0 then (if 0 ≤ (wrap64 ((t304.length : Int) - 1)) then (if (wrap64 ((t304.length : Int) - 1)) < (t304.length : Int) then (laws_FnKeys.j1 kj5 t300 t301 t304 (((rd_T41 t304 (wrap64 ((t304.length : Int) - 1))).f0) != (wrap64 ((t300.length : Int) - 1)))) else (none)) else (none)) else (laws_FnKeys.j1 kj5 t300 t301 t304 true)) else (none))) else (laws_FnKeys.j1 kj5 t300 t301 t304 true))) else (some true)) = some r := by rw [if_neg (show ¬ (false = true) by decide)] at H; exact H
     clear H
     have H := H1
     clear H1
     by_cases c15 : t305 = true
     ·subst c15
      have H1 : ((impl_WorstOf.f kj5 t300 t304).bind fun bt312 => (if bt312.2 = true then (if bt312.1 > t301 then (laws_FnKeys.j1 kj5 t300 t301 t304 true) else (if 0 < (t304.length : Int) then (if ((rd_T41 t304 0).f0) = 0 then (if 0 ≤ (wrap64 ((t304.length : Int) - 1)) then (if (wrap64 ((t304.length : Int) - 1)) < (t304.length : Int) then (laws_FnKeys.j1 kj5 t300 t301 t304 (((rd_T41 t304 (wrap64 ((t304.length : Int) - 1))).f0) != (wrap64 ((t300.length : Int) - 1)))) else (none)) else (none)) else (laws_FnKeys.j1 kj5 t300 t301 t304 true)) else (none))) else (laws_FnKeys.j1 kj5 t300 t301 t304 true))) = some r := by rw [if_pos rfl] at H; exact H
      clear H
      have H := H1
      clear H1
      replace H := Option.bind_eq_some_iff.mp H
      obtain ⟨⟨t312, t313⟩, A160, H⟩ := H
      replace H : (if t313 = true then (if t312 > t301 then (laws_FnKeys.j1 kj5 t300 t301 t304 true) else (if 0 < (t304.length : Int) then (if ((rd_T41 t304 0).f0) = 0 then (if 0 ≤ (wrap64 ((t304.length : Int) - 1)) then (if (wrap64 ((t304.length : Int) - 1)) < (t304.length : Int) then (laws_FnKeys.j1 kj5 t300 t301 t304 (((rd_T41 t304 (wrap64 ((t304.length : Int) - 1))).f0) != (wrap64 ((t300.length : Int) - 1)))) else (none)) else (none)) else (laws_FnKeys.j1 kj5 t300 t301 t304 true)) else (none))) else (laws_FnKeys.j1 kj5 t300 t301 t304 true)) = some r := H
      have A16 := Aside0.mk A160
      clear A160
      have HC17 := Aside0.mk H
      clear H
      obtain ⟨Ao18, co18, eo18⟩ := Kd.R_slice HO_5.out
      subst eo18
      go_upto_region 11 with (first | (go_at_call 13; (with_reducible refine (impl_WorstOf.calls kj5 _ _ t300 _ _ t304 t312 t313 _ ?side1 ?side2 ?side3 ?side4 A16.out).mono ?_); (case side1 => exact cU (Kd.R_reads' HO_3.out).2.2); (case side2 => exact (Kd.R_reads' HO_3.out).2.1); (case side3 => exact cU (Kd.R_reads' HO_5.out).2.2); (case side4 => exact (Kd.R_reads' HO_5.out).2.1); rintro e w19 ⟨rfl, hb⟩; replace HO_3 := Aside0.mk (Kd.R_below (rU HO_3.out) hb); replace HO_5 := Aside0.mk (Kd.R_below (rU HO_5.out) hb); replace HB := bH (lU) hb; (try clear hb)))
      repeat (go_quiet (first | (go_at_call 13; (with_reducible refine (impl_WorstOf.calls kj5 _ _ t300 _ _ t304 t312 t313 _ ?side1 ?side2 ?side3 ?side4 A16.out).mono ?_); (case side1 => exact cU (Kd.R_reads' HO_3.out).2.2); (case side2 => exact (Kd.R_reads' HO_3.out).2.1); (case side3 => exact cU (Kd.R_reads' HO_5.out).2.2); (case side4 => exact (Kd.R_reads' HO_5.out).2.1); rintro e w19 ⟨rfl, hb⟩; replace HO_3 := Aside0.mk (Kd.R_below (rU HO_3.out) hb); replace HO_5 := Aside0.mk (Kd.R_below (rU HO_5.out) hb); replace HB := bH (lU) hb; (try clear hb))); go_upto_region 11 with (first | (go_at_call 13; (with_reducible refine (impl_WorstOf.calls kj5 _ _ t300 _ _ t304 t312 t313 _ ?side1 ?side2 ?side3 ?side4 A16.out).mono ?_); (case side1 => exact cU (Kd.R_reads' HO_3.out).2.2); (case side2 => exact (Kd.R_reads' HO_3.out).2.1); (case side3 => exact cU (Kd.R_reads' HO_5.out).2.2); (case side4 => exact (Kd.R_reads' HO_5.out).2.1); rintro e w19 ⟨rfl, hb⟩; replace HO_3 := Aside0.mk (Kd.R_below (rU HO_3.out) hb); replace HO_5 := Aside0.mk (Kd.R_below (rU HO_5.out) hb); replace HB := bH (lU) hb; (try clear hb))))
      (try simp only [Act.put, List.setIfInBounds_toArray, List.set_cons_zero, List.set_cons_succ])
      go_cut [82] (fun v82 wc => ∃ (kq : Nat) (x82_16 : Bool), v82 = .bool x82_16 ∧ Aside0 (laws_FnKeys.j1 kq t300 t301 t304 x82_16 = some r) ∧ Aside0 (kq ≤ kj5) ∧ Aside0 (Kd.R (Kd.int .i64) 3 wc w.heap.size (fun _ => True) (.slice Ao8 t300.length co8) t300) ∧ Aside0 (Kd.R k41 41 wc w.heap.size (fun _ => True) (.slice Ao18 t304.length co18) t304) ∧ Aside0 (Below w.heap.size w wc))
      case first =>
       have H := HC17.out
       clear HC17
       by_cases c20 : t313 = true
       ·subst c20
        have H1 : (if t312 > t301 then (laws_FnKeys.j1 kj5 t300 t301 t304 true) else (if 0 < (t304.length : Int) then (if ((rd_T41 t304 0).f0) = 0 then (if 0 ≤ (wrap64 ((t304.length : Int) - 1)) then (if (wrap64 ((t304.length : Int) - 1)) < (t304.length : Int) then (laws_FnKeys.j1 kj5 t300 t301 t304 (((rd_T41 t304 (wrap64 ((t304.length : Int) - 1))).f0) != (wrap64 ((t300.length : Int) - 1)))) else (none)) else (none)) else (laws_FnKeys.j1 kj5 t300 t301 t304 true)) else (none))) = some r := by rw [if_pos rfl] at H; exact H
        clear H
        have H := H1
        clear H1
        by_cases c21 : t312 > t301
        ·rw [if_pos c21] at H
         have c21b0 : decide (t301 < t312) = true := decide_eq_true c21
         clear c21
         (first | rw [c21b0] | (simp only [i64_w, i32_w]; rw [c21b0]) | (rw [c21b2]; simp only [Bool.not_false, Bool.not_true]) | skip)
         have H' := Aside0.mk H
         clear H
         go_wp2
         repeat (go_quiet (fail); try go_wp2)
         go_meet
         case rel => exact ⟨_, (true), tE, H', ⟨by have := HJ5.out; first | omega | exact Nat.le_refl _⟩, ⟨by (with_reducible repeat (first | apply Kd.R_alloc | apply Kd.R_drewN | apply Kd.R_drew)); exact HO_3.out⟩, ⟨by (with_reducible repeat (first | apply Kd.R_alloc | apply Kd.R_drewN | apply Kd.R_drew)); exact HO_5.out⟩, ⟨by repeat (first | (with_reducible first | exact HB.out | apply below_alloc | apply pw_below_drewN | apply below_drew1) | exact HB.out)⟩⟩
        ·rw [if_neg c21] at H
         have c21b0 : decide (t301 < t312) = false := decide_eq_false c21
         clear c21
         (first | rw [c21b0] | (simp only [i64_w, i32_w]; rw [c21b0]) | (rw [c21b2]; simp only [Bool.not_false, Bool.not_true]) | skip)
         by_cases c22 : 0 < (t304.length : Int)
         ·rw [if_pos c22] at H
          have c22b0 : decide (0 < (t304.length : Int)) = true := decide_eq_true c22
          have c22b1 : decide (0 < t304.length) = true := decide_eq_true (by omega)
          clear c22
          by_cases c23 : ((rd_T41 t304 0).f0) = 0
          ·rw [if_pos c23] at H
           have c23b0 : (((rd_T41 t304 0).f0) == 0) = true := beq_iff_eq.mpr c23
           have c23b1 : (((rd_T41 t304 0).f0) != 0) = false := bne_eq_false_iff_eq.mpr c23
           clear c23
           obtain ⟨ji24, hji24⟩ : ∃ j_ : Int, (wrap64 ((t304.length : Int) - 1)) = j_ := ⟨_, rfl⟩
           replace H : (if 0 ≤ (ji24) then (if (ji24) < (t304.length : Int) then (laws_FnKeys.j1 kj5 t300 t301 t304 (((rd_T41 t304 (ji24)).f0) != (wrap64 ((t300.length : Int) - 1)))) else (none)) else (none)) = some r := by first | (rw [hji24] at H; exact H) | (simp only [hji24] at H ⊢; exact H)
           have hji24w : (IntKind.i64.wrap ((t304.length : Int) - 1)) = ji24 := (i64_w _).trans hji24
           by_cases c25 : 0 ≤ (ji24)
           ·rw [if_pos c25] at H
            have c25b0 : decide (0 ≤ (ji24)) = true := decide_eq_true c25
            clear c25
            by_cases c26 : (ji24) < (t304.length : Int)
            ·rw [if_pos c26] at H
             have c26b0 : decide ((ji24) < (t304.length : Int)) = true := decide_eq_true c26
             clear c26
             have H' := Aside0.mk H
             clear H
             have p314 : 0 ≤ (0 : Int) := (by omega)
             have q314 : 0 < (t304.length : Int) := of_decide_eq_true hE
             obtain ⟨ad314, e314, hx314_0, hx314_1⟩ := at_T41 (Kd.R_reads' HO_5.out).2.2 0 p314 q314
             cases e314
             have qi314 : (0 < t304.length) = True := eq_true (by omega)
             (try rw [show ((0 : Int)).toNat = 0 from rfl] at hx314_0)
             (try rw [show 0 * 2 = 0 from rfl] at hx314_0)
             (try rw [Addr.add_zero'] at hx314_0)
             (try rw [show ((0 : Int)).toNat = 0 from rfl] at hx314_1)
             (try rw [show 0 * 2 = 0 from rfl] at hx314_1)
             (try rw [Addr.add_zero'] at hx314_1)
             replace p314 := eq_true p314
             replace q314 := eq_true q314
             have p315 : 0 ≤ ((ji24) : Int) := of_decide_eq_true hE
             have q315 : (ji24) < (t304.length : Int) := of_decide_eq_true hE
             obtain ⟨ad315, e315, hx315_0, hx315_1⟩ := at_T41 (Kd.R_reads' HO_5.out).2.2 (ji24) p315 q315
             obtain rfl : ad314 = ad315 := (by injection e315)
             replace p315 := eq_true p315
             replace q315 := eq_true q315
             go_wp2
             repeat (go_quiet (fail); try go_wp2)
             go_meet
             case rel => exact ⟨_, ((((rd_T41 t304 (ji24)).f0) != (wrap64 ((t300.length : Int) - 1)))), (by first | rfl | (simp; done) | (simp only [← hji24] <;> (first | rfl | simp)) | (simp [*]; done) | exact not_isEmpty _ | exact (not_isEmpty _).symm | exact is_empty _ | exact (is_empty _).symm), H', ⟨by have := HJ5.out; first | omega | exact Nat.le_refl _⟩, ⟨by (with_reducible repeat (first | apply Kd.R_alloc | apply Kd.R_drewN | apply Kd.R_drew)); exact HO_3.out⟩, ⟨by (with_reducible repeat (first | apply Kd.R_alloc | apply Kd.R_drewN | apply Kd.R_drew)); exact HO_5.out⟩, ⟨by repeat (first | (with_reducible first | exact HB.out | apply below_alloc | apply pw_below_drewN | apply below_drew1) | exact HB.out)⟩⟩
            ·rw [if_neg c26] at H
             exact absurd H (by simp)
           ·rw [if_neg c25] at H
            exact absurd H (by simp)
          ·rw [if_neg c23] at H
           have c23b0 : (((rd_T41 t304 0).f0) == 0) = false := beq_eq_false_iff_ne.mpr c23
           have c23b1 : (((rd_T41 t304 0).f0) != 0) = true := bne_iff_ne.mpr c23
           have H' := Aside0.mk H
           clear H
           have p314 : 0 ≤ (0 : Int) := (by omega)
           have q314 : 0 < (t304.length : Int) := of_decide_eq_true hE
           obtain ⟨ad314, e314, hx314_0, hx314_1⟩ := at_T41 (Kd.R_reads' HO_5.out).2.2 0 p314 q314
           cases e314
           have qi314 : (0 < t304.length) = True := eq_true (by omega)
           (try rw [show ((0 : Int)).toNat = 0 from rfl] at hx314_0)
           (try rw [show 0 * 2 = 0 from rfl] at hx314_0)
           (try rw [Addr.add_zero'] at hx314_0)
           (try rw [show ((0 : Int)).toNat = 0 from rfl] at hx314_1)
           (try rw [show 0 * 2 = 0 from rfl] at hx314_1)
           (try rw [Addr.add_zero'] at hx314_1)
           replace p314 := eq_true p314
           replace q314 := eq_true q314
           go_wp2
           repeat (go_quiet (fail); try go_wp2)
           go_meet
           case rel => exact ⟨_, (true), tE, H', ⟨by have := HJ5.out; first | omega | exact Nat.le_refl _⟩, ⟨by (with_reducible repeat (first | apply Kd.R_alloc | apply Kd.R_drewN | apply Kd.R_drew)); exact HO_3.out⟩, ⟨by (with_reducible repeat (first | apply Kd.R_alloc | apply Kd.R_drewN | apply Kd.R_drew)); exact HO_5.out⟩, ⟨by repeat (first | (with_reducible first | exact HB.out | apply below_alloc | apply pw_below_drewN | apply below_drew1) | exact HB.out)⟩⟩
         ·rw [if_neg c22] at H
          exact absurd H (by simp)
       ·replace c20 := Bool.eq_false_iff.mpr c20
        subst c20
        have H1 : (laws_FnKeys.j1 kj5 t300 t301 t304 true) = some r := by rw [if_neg (show ¬ (false = true) by decide)] at H; exact H
        clear H
        have H := H1
        clear H1
        have H' := Aside0.mk H
        clear H
        go_wp2
        repeat (go_quiet (fail); try go_wp2)
        go_meet
        case rel => exact ⟨_, (true), tE, H', ⟨by have := HJ5.out; first | omega | exact Nat.le_refl _⟩, ⟨by (with_reducible repeat (first | apply Kd.R_alloc | apply Kd.R_drewN | apply Kd.R_drew)); exact HO_3.out⟩, ⟨by (with_reducible repeat (first | apply Kd.R_alloc | apply Kd.R_drewN | apply Kd.R_drew)); exact HO_5.out⟩, ⟨by repeat (first | (with_reducible first | exact HB.out | apply below_alloc | apply pw_below_drewN | apply below_drew1) | exact HB.out)⟩⟩
      case rest =>
       clear HC17
       try clear c1
       try clear c2
       try clear c2b0
       try clear c2b1
       try clear p2
       try clear p3
       try clear q3
       try clear hx3
       try clear qi3
       try clear c4
       try clear p6
       try clear c11
       try clear c11b0
       try clear c11b1
       try clear c11b2
       try clear c14
       try clear c15
       try clear c20
       try clear c21
       try clear c21b0
       try clear c21b2
       try clear c22
       try clear c22b0
       try clear c22b1
       try clear c23
       try clear c23b0
       try clear c23b1
       try clear c25
       try clear c25b0
       try clear c26
       try clear c26b0
       try clear hx314_0
       try clear hx314_1
       try clear hx315_0
       try clear hx315_1
       try clear p2
       try clear p314
       try clear p315
       try clear q314
       try clear q315
       obtain ⟨kq, x82_16, rfl, HA, HJ16, HO_3, HO_5, HB⟩ := hcut
       cases kq with
       | zero => exact absurd HA.out (by simp [laws_FnKeys.j1])
       | succ kj16 =>
        have H := HA.out
        clear HA
        simp only [laws_FnKeys.j1] at H
        by_cases c27 : x82_16 = true
        ·subst c27
         have H1 : (some false) = some r := by rw [if_pos rfl] at H; exact H
         clear H
         have H := H1
         clear H1
         obtain rfl := Option.some.inj H
         go_wp2
         repeat (go_quiet (fail); try go_wp2)
         go_ret
         exact ⟨eE, lU⟩
        ·replace c27 := Bool.eq_false_iff.mpr c27
         subst c27
         have H1 : (laws_FnKeys.l0 kj16 t300 t301 t304 t304 (t304.length : Int) 0) = some r := by rw [if_neg (show ¬ (false = true) by decide)] at H; exact H
         clear H
         have H := H1
         clear H1
         have H' := Aside0.mk H
         clear H
         go_wp2
         repeat (go_quiet (fail); try go_wp2)
         go_loopg [85] kj16 (fun kq v85 w' => ∃ (x85_3 : Int), v85 = .int .i64 x85_3 ∧ Aside0 (laws_FnKeys.l0 kq t300 t301 t304 t304 (t304.length : Int) x85_3 = some r) ∧ Aside0 (kq ≤ kj16) ∧ Aside0 (Kd.R (Kd.int .i64) 3 w' w.heap.size (fun _ => True) (.slice Ao8 t300.length co8) t300) ∧ Aside0 (Kd.R k41 41 w' w.heap.size (fun _ => True) (.slice Ao18 t304.length co18) t304) ∧ Aside0 (Kd.R k41 41 w' w.heap.size (fun _ => True) (.slice Ao18 t304.length co18) t304) ∧ Aside0 (Below w.heap.size w w'))
         case atStart => exact ⟨(0), tE, H', ⟨Nat.le_refl _⟩, ⟨by (with_reducible repeat (first | apply Kd.R_alloc | apply Kd.R_drewN | apply Kd.R_drew)); exact HO_3.out⟩, ⟨by (with_reducible repeat (first | apply Kd.R_alloc | apply Kd.R_drewN | apply Kd.R_drew)); exact HO_5.out⟩, ⟨by (with_reducible repeat (first | apply Kd.R_alloc | apply Kd.R_drewN | apply Kd.R_drew)); exact HO_5.out⟩, ⟨by repeat (first | (with_reducible first | exact HB.out | apply below_alloc | apply pw_below_drewN | apply below_drew1) | exact HB.out)⟩⟩
         case round =>
          clear H'
          try clear c1
          try clear c2
          try clear c2b0
          try clear c2b1
          try clear p2
          try clear p3
          try clear q3
          try clear hx3
          try clear qi3
          try clear c4
          try clear p6
          try clear c11
          try clear c11b0
          try clear c11b1
          try clear c11b2
          try clear c14
          try clear c15
          try clear c20
          try clear c21
          try clear c21b0
          try clear c21b2
          try clear c22
          try clear c22b0
          try clear c22b1
          try clear c23
          try clear c23b0
          try clear c23b1
          try clear c25
          try clear c25b0
          try clear c26
          try clear c26b0
          try clear c27
          try clear hx314_0
          try clear hx314_1
          try clear hx315_0
          try clear hx315_1
          try clear p2
          try clear p3
          try clear p314
          try clear p315
          try clear p6
          try clear q3
          try clear q314
          try clear q315
          obtain ⟨x85_3, rfl, HA, HK3, HO_3, HO_5, HO_83, HB⟩ := hrel
          cases gk with
          | zero => exact absurd HA.out (by simp [laws_FnKeys.l0])
          | succ k3 =>
           have H := HA.out
           clear HA
           simp only [laws_FnKeys.l0] at H
           by_cases c28 : x85_3 < (t304.length : Int)
           ·rw [if_pos c28] at H
            have c28b0 : decide (x85_3 < (t304.length : Int)) = true := decide_eq_true c28
            clear c28
            by_cases c29 : 0 ≤ x85_3
            ·rw [if_pos c29] at H
             have c29b0 : decide (0 ≤ x85_3) = true := decide_eq_true c29
             clear c29
             by_cases c30 : x85_3 < (t304.length : Int)
             ·rw [if_pos c30] at H
              have c30b0 : decide (x85_3 < (t304.length : Int)) = true := decide_eq_true c30
              clear c30
              by_cases c31 : 0 ≤ ((rd_T41 t304 x85_3).f0)
              ·rw [if_pos c31] at H
               have c31b0 : decide (0 ≤ ((rd_T41 t304 x85_3).f0)) = true := decide_eq_true c31
               clear c31
               by_cases c32 : ((rd_T41 t304 x85_3).f0) < (t300.length : Int)
               ·rw [if_pos c32] at H
                have c32b0 : decide (((rd_T41 t304 x85_3).f0) < (t300.length : Int)) = true := decide_eq_true c32
                clear c32
                by_cases c33 : (rd t300 ((rd_T41 t304 x85_3).f0)) = ((rd_T41 t304 x85_3).f1)
                ·rw [if_pos c33] at H
                 have c33b0 : ((rd t300 ((rd_T41 t304 x85_3).f0)) == ((rd_T41 t304 x85_3).f1)) = true := beq_iff_eq.mpr c33
                 have c33b1 : ((rd t300 ((rd_T41 t304 x85_3).f0)) != ((rd_T41 t304 x85_3).f1)) = false := bne_eq_false_iff_eq.mpr c33
                 clear c33
                 have H' := Aside0.mk H
                 clear H
                 have p316 : 0 ≤ (x85_3 : Int) := of_decide_eq_true hE
                 have q316 : x85_3 < (t304.length : Int) := of_decide_eq_true hE
                 obtain ⟨ad316, e316, hx316_0, hx316_1⟩ := at_T41 (Kd.R_reads' HO_83.out).2.2 x85_3 p316 q316
                 cases e316
                 replace p316 := eq_true p316
                 replace q316 := eq_true q316
                 go_wp2_with (first | ((with_reducible refine gate_dst (N := 12) rfl ?_); (try (refine gate_guard (by rfl) ?_; dsimp only)); refine box_event rfl (N := 12) rfl (cs := #[.int .i64 0, .int .i64 0]) (t := 41) sE ?_; intro gb317 hg w34 hbox hb; replace HO_3 := Aside0.mk (Kd.R_below (rU HO_3.out) hb); replace HO_5 := Aside0.mk (Kd.R_below (Kd.R_elderB (rU HO_5.out) gb317 (Nat.le_of_eq hg.symm)) hb); replace HO_83 := Aside0.mk (Kd.R_below (Kd.R_elderB (rU HO_83.out) gb317 (Nat.le_of_eq hg.symm)) hb); have BK317 := Aside0.mk hbox; have GW317 := gS w hg (lU); have GE317 := gS w hg (lU); replace HB := bH (lU) hb; clear hb hbox hg; have hcz35_0 := cz BK317 0 (.int .i64 0); have hcz35_1 := cz BK317 1 (.int .i64 0); have hfz35_0 := fz BK317 0; have hfz35_1 := fz BK317 1) | ((with_reducible refine gate_store (t := 41) (p := 12) rfl ?_); (try (rw [drewN_self w34]; generalize hq_ : World.drewN w34 _ = w34; replace HO_3 := Aside0.mk (Kd.R_at hq_ HO_3.out); replace HO_5 := Aside0.mk (Kd.R_at hq_ HO_5.out); replace HO_83 := Aside0.mk (Kd.R_at hq_ HO_83.out); replace BK317 := Aside0.mk (blk_at hq_ BK317.out); replace HB := Aside0.mk (below_at hq_ HB.out); clear hq_)); refine store_event (t := 41) (p := 12) (v := ?vo_w36) (w1 := ((w34.setCell ⟨gb317, 0, none⟩ (.int .i64 ((rd_T41 t304 x85_3).f0))).setCell ⟨gb317, 1, none⟩ (.int .i64 ((rd_T41 t304 x85_3).f1)))) ?hg ?ho ?hn ?hr ?_; (case ho => rfl); (case hg => rfl); (case hn => rfl); (case hr => first | (go_simp; done) | (go_simp; rfl) | (have hq0_ := (blk_cell BK317.out 0).trans (show _ = some _ from rfl); have hf0_ := blk_frozen BK317.out 0; have hq1_ := (blk_cell BK317.out 1).trans (show _ = some _ from rfl); have hf1_ := blk_frozen BK317.out 1; first | (go_simp; done) | (go_simp; rfl))); intro w36 hw; replace HO_3 : Aside0 (Kd.R (Kd.int .i64) 3 w36 w.heap.size (fun _ => True) (.slice Ao8 t300.length co8) t300) := ⟨(by rw [hw]; exact (by (with_reducible repeat (first | apply Kd.R_alloc | apply Kd.R_drewN | apply Kd.R_drew)); exact Kd.R_mono (Kd.R_far (p := ⟨gb317, 1, none⟩) (Kd.R_far (p := ⟨gb317, 0, none⟩) (Kd.R_types HO_3.out BK317.out (by decide)) (fun _ hk => hk.2) (.int .i64 ((rd_T41 t304 x85_3).f0))) (fun _ hk => hk.2) (.int .i64 ((rd_T41 t304 x85_3).f1))) (fun _ hk => trivial)))⟩; replace HO_5 : Aside0 (Kd.R k41 41 w36 w.heap.size (fun k_ => k_ ≠ gb317) (.slice (some ad316) t304.length co18) t304) := ⟨(by rw [hw]; exact (by (with_reducible repeat (first | apply Kd.R_alloc | apply Kd.R_drewN | apply Kd.R_drew)); exact Kd.R_mono (Kd.R_far (p := ⟨gb317, 1, none⟩) (Kd.R_far (p := ⟨gb317, 0, none⟩) (Kd.R_mono HO_5.out (fun k_ hk => (⟨hk, hk.2⟩ : _ ∧ k_ ≠ gb317))) (fun _ hk => hk.2) (.int .i64 ((rd_T41 t304 x85_3).f0))) (fun _ hk => hk.2) (.int .i64 ((rd_T41 t304 x85_3).f1))) (fun _ hk => hk.1.2)))⟩; replace HO_83 : Aside0 (Kd.R k41 41 w36 w.heap.size (fun k_ => k_ ≠ gb317) (.slice (some ad316) t304.length co18) t304) := ⟨(by rw [hw]; exact (by (with_reducible repeat (first | apply Kd.R_alloc | apply Kd.R_drewN | apply Kd.R_drew)); exact Kd.R_mono (Kd.R_far (p := ⟨gb317, 1, none⟩) (Kd.R_far (p := ⟨gb317, 0, none⟩) (Kd.R_mono HO_83.out (fun k_ hk => (⟨hk, hk.2⟩ : _ ∧ k_ ≠ gb317))) (fun _ hk => hk.2) (.int .i64 ((rd_T41 t304 x85_3).f0))) (fun _ hk => hk.2) (.int .i64 ((rd_T41 t304 x85_3).f1))) (fun _ hk => hk.1.2)))⟩; replace BK317 : Aside0 (w36.heap[gb317]? = some (.cells #[.int .i64 ((rd_T41 t304 x85_3).f0), .int .i64 ((rd_T41 t304 x85_3).f1)] 41 (0, 0))) := ⟨(by rw [hw]; exact (by refine bU ?_; refine blk_put (cs := #[.int .i64 ((rd_T41 t304 x85_3).f0), .int .i64 0]) ?_ 1 _ rfl; refine bU ?_; refine blk_put (cs := #[.int .i64 0, .int .i64 0]) ?_ 0 _ rfl; refine bU ?_; exact BK317.out))⟩; replace HB : Aside0 (Below w.heap.size w w36) := ⟨(by rw [hw]; exact (lV1 GE317))⟩; clear hw; have hcz37_0 := cz BK317 0 (.int .i64 ((rd_T41 t304 x85_3).f0)); have hcz37_1 := cz BK317 1 (.int .i64 ((rd_T41 t304 x85_3).f1)); have hfz37_0 := fz BK317 0; have hfz37_1 := fz BK317 1; have p318 : 0 ≤ (((rd_T41 t304 x85_3).f0) : Int) := of_decide_eq_true hE; have q318 : ((rd_T41 t304 x85_3).f0) < (t300.length : Int) := of_decide_eq_true hE; obtain ⟨ad318, e318, hx318_0⟩ := Kd.at_int (Kd.R_reads' HO_3.out).2.2 ((rd_T41 t304 x85_3).f0) p318 q318; cases e318; replace p318 := eq_true p318; replace q318 := eq_true q318))
                 repeat (go_quiet (first | ((with_reducible refine gate_dst (N := 12) rfl ?_); (try (refine gate_guard (by rfl) ?_; dsimp only)); refine box_event rfl (N := 12) rfl (cs := #[.int .i64 0, .int .i64 0]) (t := 41) sE ?_; intro gb317 hg w34 hbox hb; replace HO_3 := Aside0.mk (Kd.R_below (rU HO_3.out) hb); replace HO_5 := Aside0.mk (Kd.R_below (Kd.R_elderB (rU HO_5.out) gb317 (Nat.le_of_eq hg.symm)) hb); replace HO_83 := Aside0.mk (Kd.R_below (Kd.R_elderB (rU HO_83.out) gb317 (Nat.le_of_eq hg.symm)) hb); have BK317 := Aside0.mk hbox; have GW317 := gS w hg (lU); have GE317 := gS w hg (lU); replace HB := bH (lU) hb; clear hb hbox hg; have hcz35_0 := cz BK317 0 (.int .i64 0); have hcz35_1 := cz BK317 1 (.int .i64 0); have hfz35_0 := fz BK317 0; have hfz35_1 := fz BK317 1) | ((with_reducible refine gate_store (t := 41) (p := 12) rfl ?_); (try (rw [drewN_self w34]; generalize hq_ : World.drewN w34 _ = w34; replace HO_3 := Aside0.mk (Kd.R_at hq_ HO_3.out); replace HO_5 := Aside0.mk (Kd.R_at hq_ HO_5.out); replace HO_83 := Aside0.mk (Kd.R_at hq_ HO_83.out); replace BK317 := Aside0.mk (blk_at hq_ BK317.out); replace HB := Aside0.mk (below_at hq_ HB.out); clear hq_)); refine store_event (t := 41) (p := 12) (v := ?vo_w36) (w1 := ((w34.setCell ⟨gb317, 0, none⟩ (.int .i64 ((rd_T41 t304 x85_3).f0))).setCell ⟨gb317, 1, none⟩ (.int .i64 ((rd_T41 t304 x85_3).f1)))) ?hg ?ho ?hn ?hr ?_; (case ho => rfl); (case hg => rfl); (case hn => rfl); (case hr => first | (go_simp; done) | (go_simp; rfl) | (have hq0_ := (blk_cell BK317.out 0).trans (show _ = some _ from rfl); have hf0_ := blk_frozen BK317.out 0; have hq1_ := (blk_cell BK317.out 1).trans (show _ = some _ from rfl); have hf1_ := blk_frozen BK317.out 1; first | (go_simp; done) | (go_simp; rfl))); intro w36 hw; replace HO_3 : Aside0 (Kd.R (Kd.int .i64) 3 w36 w.heap.size (fun _ => True) (.slice Ao8 t300.length co8) t300) := ⟨(by rw [hw]; exact (by (with_reducible repeat (first | apply Kd.R_alloc | apply Kd.R_drewN | apply Kd.R_drew)); exact Kd.R_mono (Kd.R_far (p := ⟨gb317, 1, none⟩) (Kd.R_far (p := ⟨gb317, 0, none⟩) (Kd.R_types HO_3.out BK317.out (by decide)) (fun _ hk => hk.2) (.int .i64 ((rd_T41 t304 x85_3).f0))) (fun _ hk => hk.2) (.int .i64 ((rd_T41 t304 x85_3).f1))) (fun _ hk => trivial)))⟩; replace HO_5 : Aside0 (Kd.R k41 41 w36 w.heap.size (fun k_ => k_ ≠ gb317) (.slice (some ad316) t304.length co18) t304) := ⟨(by rw [hw]; exact (by (with_reducible repeat (first | apply Kd.R_alloc | apply Kd.R_drewN | apply Kd.R_drew)); exact Kd.R_mono (Kd.R_far (p := ⟨gb317, 1, none⟩) (Kd.R_far (p := ⟨gb317, 0, none⟩) (Kd.R_mono HO_5.out (fun k_ hk => (⟨hk, hk.2⟩ : _ ∧ k_ ≠ gb317))) (fun _ hk => hk.2) (.int .i64 ((rd_T41 t304 x85_3).f0))) (fun _ hk => hk.2) (.int .i64 ((rd_T41 t304 x85_3).f1))) (fun _ hk => hk.1.2)))⟩; replace HO_83 : Aside0 (Kd.R k41 41 w36 w.heap.size (fun k_ => k_ ≠ gb317) (.slice (some ad316) t304.length co18) t304) := ⟨(by rw [hw]; exact (by (with_reducible repeat (first | apply Kd.R_alloc | apply Kd.R_drewN | apply Kd.R_drew)); exact Kd.R_mono (Kd.R_far (p := ⟨gb317, 1, none⟩) (Kd.R_far (p := ⟨gb317, 0, none⟩) (Kd.R_mono HO_83.out (fun k_ hk => (⟨hk, hk.2⟩ : _ ∧ k_ ≠ gb317))) (fun _ hk => hk.2) (.int .i64 ((rd_T41 t304 x85_3).f0))) (fun _ hk => hk.2) (.int .i64 ((rd_T41 t304 x85_3).f1))) (fun _ hk => hk.1.2)))⟩; replace BK317 : Aside0 (w36.heap[gb317]? = some (.cells #[.int .i64 ((rd_T41 t304 x85_3).f0), .int .i64 ((rd_T41 t304 x85_3).f1)] 41 (0, 0))) := ⟨(by rw [hw]; exact (by refine bU ?_; refine blk_put (cs := #[.int .i64 ((rd_T41 t304 x85_3).f0), .int .i64 0]) ?_ 1 _ rfl; refine bU ?_; refine blk_put (cs := #[.int .i64 0, .int .i64 0]) ?_ 0 _ rfl; refine bU ?_; exact BK317.out))⟩; replace HB : Aside0 (Below w.heap.size w w36) := ⟨(by rw [hw]; exact (lV1 GE317))⟩; clear hw; have hcz37_0 := cz BK317 0 (.int .i64 ((rd_T41 t304 x85_3).f0)); have hcz37_1 := cz BK317 1 (.int .i64 ((rd_T41 t304 x85_3).f1)); have hfz37_0 := fz BK317 0; have hfz37_1 := fz BK317 1; have p318 : 0 ≤ (((rd_T41 t304 x85_3).f0) : Int) := of_decide_eq_true hE; have q318 : ((rd_T41 t304 x85_3).f0) < (t300.length : Int) := of_decide_eq_true hE; obtain ⟨ad318, e318, hx318_0⟩ := Kd.at_int (Kd.R_reads' HO_3.out).2.2 ((rd_T41 t304 x85_3).f0) p318 q318; cases e318; replace p318 := eq_true p318; replace q318 := eq_true q318)); try go_wp2_with (first | ((with_reducible refine gate_dst (N := 12) rfl ?_); (try (refine gate_guard (by rfl) ?_; dsimp only)); refine box_event rfl (N := 12) rfl (cs := #[.int .i64 0, .int .i64 0]) (t := 41) sE ?_; intro gb317 hg w34 hbox hb; replace HO_3 := Aside0.mk (Kd.R_below (rU HO_3.out) hb); replace HO_5 := Aside0.mk (Kd.R_below (Kd.R_elderB (rU HO_5.out) gb317 (Nat.le_of_eq hg.symm)) hb); replace HO_83 := Aside0.mk (Kd.R_below (Kd.R_elderB (rU HO_83.out) gb317 (Nat.le_of_eq hg.symm)) hb); have BK317 := Aside0.mk hbox; have GW317 := gS w hg (lU); have GE317 := gS w hg (lU); replace HB := bH (lU) hb; clear hb hbox hg; have hcz35_0 := cz BK317 0 (.int .i64 0); have hcz35_1 := cz BK317 1 (.int .i64 0); have hfz35_0 := fz BK317 0; have hfz35_1 := fz BK317 1) | ((with_reducible refine gate_store (t := 41) (p := 12) rfl ?_); (try (rw [drewN_self w34]; generalize hq_ : World.drewN w34 _ = w34; replace HO_3 := Aside0.mk (Kd.R_at hq_ HO_3.out); replace HO_5 := Aside0.mk (Kd.R_at hq_ HO_5.out); replace HO_83 := Aside0.mk (Kd.R_at hq_ HO_83.out); replace BK317 := Aside0.mk (blk_at hq_ BK317.out); replace HB := Aside0.mk (below_at hq_ HB.out); clear hq_)); refine store_event (t := 41) (p := 12) (v := ?vo_w36) (w1 := ((w34.setCell ⟨gb317, 0, none⟩ (.int .i64 ((rd_T41 t304 x85_3).f0))).setCell ⟨gb317, 1, none⟩ (.int .i64 ((rd_T41 t304 x85_3).f1)))) ?hg ?ho ?hn ?hr ?_; (case ho => rfl); (case hg => rfl); (case hn => rfl); (case hr => first | (go_simp; done) | (go_simp; rfl) | (have hq0_ := (blk_cell BK317.out 0).trans (show _ = some _ from rfl); have hf0_ := blk_frozen BK317.out 0; have hq1_ := (blk_cell BK317.out 1).trans (show _ = some _ from rfl); have hf1_ := blk_frozen BK317.out 1; first | (go_simp; done) | (go_simp; rfl))); intro w36 hw; replace HO_3 : Aside0 (Kd.R (Kd.int .i64) 3 w36 w.heap.size (fun _ => True) (.slice Ao8 t300.length co8) t300) := ⟨(by rw [hw]; exact (by (with_reducible repeat (first | apply Kd.R_alloc | apply Kd.R_drewN | apply Kd.R_drew)); exact Kd.R_mono (Kd.R_far (p := ⟨gb317, 1, none⟩) (Kd.R_far (p := ⟨gb317, 0, none⟩) (Kd.R_types HO_3.out BK317.out (by decide)) (fun _ hk => hk.2) (.int .i64 ((rd_T41 t304 x85_3).f0))) (fun _ hk => hk.2) (.int .i64 ((rd_T41 t304 x85_3).f1))) (fun _ hk => trivial)))⟩; replace HO_5 : Aside0 (Kd.R k41 41 w36 w.heap.size (fun k_ => k_ ≠ gb317) (.slice (some ad316) t304.length co18) t304) := ⟨(by rw [hw]; exact (by (with_reducible repeat (first | apply Kd.R_alloc | apply Kd.R_drewN | apply Kd.R_drew)); exact Kd.R_mono (Kd.R_far (p := ⟨gb317, 1, none⟩) (Kd.R_far (p := ⟨gb317, 0, none⟩) (Kd.R_mono HO_5.out (fun k_ hk => (⟨hk, hk.2⟩ : _ ∧ k_ ≠ gb317))) (fun _ hk => hk.2) (.int .i64 ((rd_T41 t304 x85_3).f0))) (fun _ hk => hk.2) (.int .i64 ((rd_T41 t304 x85_3).f1))) (fun _ hk => hk.1.2)))⟩; replace HO_83 : Aside0 (Kd.R k41 41 w36 w.heap.size (fun k_ => k_ ≠ gb317) (.slice (some ad316) t304.length co18) t304) := ⟨(by rw [hw]; exact (by (with_reducible repeat (first | apply Kd.R_alloc | apply Kd.R_drewN | apply Kd.R_drew)); exact Kd.R_mono (Kd.R_far (p := ⟨gb317, 1, none⟩) (Kd.R_far (p := ⟨gb317, 0, none⟩) (Kd.R_mono HO_83.out (fun k_ hk => (⟨hk, hk.2⟩ : _ ∧ k_ ≠ gb317))) (fun _ hk => hk.2) (.int .i64 ((rd_T41 t304 x85_3).f0))) (fun _ hk => hk.2) (.int .i64 ((rd_T41 t304 x85_3).f1))) (fun _ hk => hk.1.2)))⟩; replace BK317 : Aside0 (w36.heap[gb317]? = some (.cells #[.int .i64 ((rd_T41 t304 x85_3).f0), .int .i64 ((rd_T41 t304 x85_3).f1)] 41 (0, 0))) := ⟨(by rw [hw]; exact (by refine bU ?_; refine blk_put (cs := #[.int .i64 ((rd_T41 t304 x85_3).f0), .int .i64 0]) ?_ 1 _ rfl; refine bU ?_; refine blk_put (cs := #[.int .i64 0, .int .i64 0]) ?_ 0 _ rfl; refine bU ?_; exact BK317.out))⟩; replace HB : Aside0 (Below w.heap.size w w36) := ⟨(by rw [hw]; exact (lV1 GE317))⟩; clear hw; have hcz37_0 := cz BK317 0 (.int .i64 ((rd_T41 t304 x85_3).f0)); have hcz37_1 := cz BK317 1 (.int .i64 ((rd_T41 t304 x85_3).f1)); have hfz37_0 := fz BK317 0; have hfz37_1 := fz BK317 1; have p318 : 0 ≤ (((rd_T41 t304 x85_3).f0) : Int) := of_decide_eq_true hE; have q318 : ((rd_T41 t304 x85_3).f0) < (t300.length : Int) := of_decide_eq_true hE; obtain ⟨ad318, e318, hx318_0⟩ := Kd.at_int (Kd.R_reads' HO_3.out).2.2 ((rd_T41 t304 x85_3).f0) p318 q318; cases e318; replace p318 := eq_true p318; replace q318 := eq_true q318)))
                 go_roundg k3
                 case measure => have := HJ5.out; have := HJ16.out; have := HK3.out; omega
                 case rel => exact ⟨(wrap64 (x85_3 + 1)), tE, H', ⟨by have := HJ5.out; have := HJ16.out; have := HK3.out; omega⟩, ⟨by (with_reducible repeat (first | apply Kd.R_alloc | apply Kd.R_drewN | apply Kd.R_drew)); exact HO_3.out⟩, ⟨by (with_reducible repeat (first | apply Kd.R_alloc | apply Kd.R_drewN | apply Kd.R_drew)); exact Kd.R_mono HO_5.out (fun _ hk => trivial)⟩, ⟨by (with_reducible repeat (first | apply Kd.R_alloc | apply Kd.R_drewN | apply Kd.R_drew)); exact Kd.R_mono HO_83.out (fun _ hk => trivial)⟩, ⟨by repeat (first | (with_reducible first | exact HB.out | apply below_alloc | apply pw_below_drewN | apply below_drew1 | refine below_set ?_ GE317.out) | exact HB.out)⟩⟩
                ·rw [if_neg c33] at H
                 have c33b0 : ((rd t300 ((rd_T41 t304 x85_3).f0)) == ((rd_T41 t304 x85_3).f1)) = false := beq_eq_false_iff_ne.mpr c33
                 have c33b1 : ((rd t300 ((rd_T41 t304 x85_3).f0)) != ((rd_T41 t304 x85_3).f1)) = true := bne_iff_ne.mpr c33
                 obtain rfl := Option.some.inj H
                 have p316 : 0 ≤ (x85_3 : Int) := of_decide_eq_true hE
                 have q316 : x85_3 < (t304.length : Int) := of_decide_eq_true hE
                 obtain ⟨ad316, e316, hx316_0, hx316_1⟩ := at_T41 (Kd.R_reads' HO_83.out).2.2 x85_3 p316 q316
                 cases e316
                 replace p316 := eq_true p316
                 replace q316 := eq_true q316
                 go_wp2_with (first | ((with_reducible refine gate_dst (N := 12) rfl ?_); (try (refine gate_guard (by rfl) ?_; dsimp only)); refine box_event rfl (N := 12) rfl (cs := #[.int .i64 0, .int .i64 0]) (t := 41) sE ?_; intro gb317 hg w38 hbox hb; replace HO_3 := Aside0.mk (Kd.R_below (rU HO_3.out) hb); replace HO_5 := Aside0.mk (Kd.R_below (Kd.R_elderB (rU HO_5.out) gb317 (Nat.le_of_eq hg.symm)) hb); replace HO_83 := Aside0.mk (Kd.R_below (Kd.R_elderB (rU HO_83.out) gb317 (Nat.le_of_eq hg.symm)) hb); have BK317 := Aside0.mk hbox; have GW317 := gS w hg (lU); have GE317 := gS w hg (lU); replace HB := bH (lU) hb; clear hb hbox hg; have hcz39_0 := cz BK317 0 (.int .i64 0); have hcz39_1 := cz BK317 1 (.int .i64 0); have hfz39_0 := fz BK317 0; have hfz39_1 := fz BK317 1) | ((with_reducible refine gate_store (t := 41) (p := 12) rfl ?_); (try (rw [drewN_self w38]; generalize hq_ : World.drewN w38 _ = w38; replace HO_3 := Aside0.mk (Kd.R_at hq_ HO_3.out); replace HO_5 := Aside0.mk (Kd.R_at hq_ HO_5.out); replace HO_83 := Aside0.mk (Kd.R_at hq_ HO_83.out); replace BK317 := Aside0.mk (blk_at hq_ BK317.out); replace HB := Aside0.mk (below_at hq_ HB.out); clear hq_)); refine store_event (t := 41) (p := 12) (v := ?vo_w40) (w1 := ((w38.setCell ⟨gb317, 0, none⟩ (.int .i64 ((rd_T41 t304 x85_3).f0))).setCell ⟨gb317, 1, none⟩ (.int .i64 ((rd_T41 t304 x85_3).f1)))) ?hg ?ho ?hn ?hr ?_; (case ho => rfl); (case hg => rfl); (case hn => rfl); (case hr => first | (go_simp; done) | (go_simp; rfl) | (have hq0_ := (blk_cell BK317.out 0).trans (show _ = some _ from rfl); have hf0_ := blk_frozen BK317.out 0; have hq1_ := (blk_cell BK317.out 1).trans (show _ = some _ from rfl); have hf1_ := blk_frozen BK317.out 1; first | (go_simp; done) | (go_simp; rfl))); intro w40 hw; replace HO_3 : Aside0 (Kd.R (Kd.int .i64) 3 w40 w.heap.size (fun _ => True) (.slice Ao8 t300.length co8) t300) := ⟨(by rw [hw]; exact (by (with_reducible repeat (first | apply Kd.R_alloc | apply Kd.R_drewN | apply Kd.R_drew)); exact Kd.R_mono (Kd.R_far (p := ⟨gb317, 1, none⟩) (Kd.R_far (p := ⟨gb317, 0, none⟩) (Kd.R_types HO_3.out BK317.out (by decide)) (fun _ hk => hk.2) (.int .i64 ((rd_T41 t304 x85_3).f0))) (fun _ hk => hk.2) (.int .i64 ((rd_T41 t304 x85_3).f1))) (fun _ hk => trivial)))⟩; replace HO_5 : Aside0 (Kd.R k41 41 w40 w.heap.size (fun k_ => k_ ≠ gb317) (.slice (some ad316) t304.length co18) t304) := ⟨(by rw [hw]; exact (by (with_reducible repeat (first | apply Kd.R_alloc | apply Kd.R_drewN | apply Kd.R_drew)); exact Kd.R_mono (Kd.R_far (p := ⟨gb317, 1, none⟩) (Kd.R_far (p := ⟨gb317, 0, none⟩) (Kd.R_mono HO_5.out (fun k_ hk => (⟨hk, hk.2⟩ : _ ∧ k_ ≠ gb317))) (fun _ hk => hk.2) (.int .i64 ((rd_T41 t304 x85_3).f0))) (fun _ hk => hk.2) (.int .i64 ((rd_T41 t304 x85_3).f1))) (fun _ hk => hk.1.2)))⟩; replace HO_83 : Aside0 (Kd.R k41 41 w40 w.heap.size (fun k_ => k_ ≠ gb317) (.slice (some ad316) t304.length co18) t304) := ⟨(by rw [hw]; exact (by (with_reducible repeat (first | apply Kd.R_alloc | apply Kd.R_drewN | apply Kd.R_drew)); exact Kd.R_mono (Kd.R_far (p := ⟨gb317, 1, none⟩) (Kd.R_far (p := ⟨gb317, 0, none⟩) (Kd.R_mono HO_83.out (fun k_ hk => (⟨hk, hk.2⟩ : _ ∧ k_ ≠ gb317))) (fun _ hk => hk.2) (.int .i64 ((rd_T41 t304 x85_3).f0))) (fun _ hk => hk.2) (.int .i64 ((rd_T41 t304 x85_3).f1))) (fun _ hk => hk.1.2)))⟩; replace BK317 : Aside0 (w40.heap[gb317]? = some (.cells #[.int .i64 ((rd_T41 t304 x85_3).f0), .int .i64 ((rd_T41 t304 x85_3).f1)] 41 (0, 0))) := ⟨(by rw [hw]; exact (by refine bU ?_; refine blk_put (cs := #[.int .i64 ((rd_T41 t304 x85_3).f0), .int .i64 0]) ?_ 1 _ rfl; refine bU ?_; refine blk_put (cs := #[.int .i64 0, .int .i64 0]) ?_ 0 _ rfl; refine bU ?_; exact BK317.out))⟩; replace HB : Aside0 (Below w.heap.size w w40) := ⟨(by rw [hw]; exact (lV1 GE317))⟩; clear hw; have hcz41_0 := cz BK317 0 (.int .i64 ((rd_T41 t304 x85_3).f0)); have hcz41_1 := cz BK317 1 (.int .i64 ((rd_T41 t304 x85_3).f1)); have hfz41_0 := fz BK317 0; have hfz41_1 := fz BK317 1; have p318 : 0 ≤ (((rd_T41 t304 x85_3).f0) : Int) := of_decide_eq_true hE; have q318 : ((rd_T41 t304 x85_3).f0) < (t300.length : Int) := of_decide_eq_true hE; obtain ⟨ad318, e318, hx318_0⟩ := Kd.at_int (Kd.R_reads' HO_3.out).2.2 ((rd_T41 t304 x85_3).f0) p318 q318; cases e318; replace p318 := eq_true p318; replace q318 := eq_true q318))
                 repeat (go_quiet (first | ((with_reducible refine gate_dst (N := 12) rfl ?_); (try (refine gate_guard (by rfl) ?_; dsimp only)); refine box_event rfl (N := 12) rfl (cs := #[.int .i64 0, .int .i64 0]) (t := 41) sE ?_; intro gb317 hg w38 hbox hb; replace HO_3 := Aside0.mk (Kd.R_below (rU HO_3.out) hb); replace HO_5 := Aside0.mk (Kd.R_below (Kd.R_elderB (rU HO_5.out) gb317 (Nat.le_of_eq hg.symm)) hb); replace HO_83 := Aside0.mk (Kd.R_below (Kd.R_elderB (rU HO_83.out) gb317 (Nat.le_of_eq hg.symm)) hb); have BK317 := Aside0.mk hbox; have GW317 := gS w hg (lU); have GE317 := gS w hg (lU); replace HB := bH (lU) hb; clear hb hbox hg; have hcz39_0 := cz BK317 0 (.int .i64 0); have hcz39_1 := cz BK317 1 (.int .i64 0); have hfz39_0 := fz BK317 0; have hfz39_1 := fz BK317 1) | ((with_reducible refine gate_store (t := 41) (p := 12) rfl ?_); (try (rw [drewN_self w38]; generalize hq_ : World.drewN w38 _ = w38; replace HO_3 := Aside0.mk (Kd.R_at hq_ HO_3.out); replace HO_5 := Aside0.mk (Kd.R_at hq_ HO_5.out); replace HO_83 := Aside0.mk (Kd.R_at hq_ HO_83.out); replace BK317 := Aside0.mk (blk_at hq_ BK317.out); replace HB := Aside0.mk (below_at hq_ HB.out); clear hq_)); refine store_event (t := 41) (p := 12) (v := ?vo_w40) (w1 := ((w38.setCell ⟨gb317, 0, none⟩ (.int .i64 ((rd_T41 t304 x85_3).f0))).setCell ⟨gb317, 1, none⟩ (.int .i64 ((rd_T41 t304 x85_3).f1)))) ?hg ?ho ?hn ?hr ?_; (case ho => rfl); (case hg => rfl); (case hn => rfl); (case hr => first | (go_simp; done) | (go_simp; rfl) | (have hq0_ := (blk_cell BK317.out 0).trans (show _ = some _ from rfl); have hf0_ := blk_frozen BK317.out 0; have hq1_ := (blk_cell BK317.out 1).trans (show _ = some _ from rfl); have hf1_ := blk_frozen BK317.out 1; first | (go_simp; done) | (go_simp; rfl))); intro w40 hw; replace HO_3 : Aside0 (Kd.R (Kd.int .i64) 3 w40 w.heap.size (fun _ => True) (.slice Ao8 t300.length co8) t300) := ⟨(by rw [hw]; exact (by (with_reducible repeat (first | apply Kd.R_alloc | apply Kd.R_drewN | apply Kd.R_drew)); exact Kd.R_mono (Kd.R_far (p := ⟨gb317, 1, none⟩) (Kd.R_far (p := ⟨gb317, 0, none⟩) (Kd.R_types HO_3.out BK317.out (by decide)) (fun _ hk => hk.2) (.int .i64 ((rd_T41 t304 x85_3).f0))) (fun _ hk => hk.2) (.int .i64 ((rd_T41 t304 x85_3).f1))) (fun _ hk => trivial)))⟩; replace HO_5 : Aside0 (Kd.R k41 41 w40 w.heap.size (fun k_ => k_ ≠ gb317) (.slice (some ad316) t304.length co18) t304) := ⟨(by rw [hw]; exact (by (with_reducible repeat (first | apply Kd.R_alloc | apply Kd.R_drewN | apply Kd.R_drew)); exact Kd.R_mono (Kd.R_far (p := ⟨gb317, 1, none⟩) (Kd.R_far (p := ⟨gb317, 0, none⟩) (Kd.R_mono HO_5.out (fun k_ hk => (⟨hk, hk.2⟩ : _ ∧ k_ ≠ gb317))) (fun _ hk => hk.2) (.int .i64 ((rd_T41 t304 x85_3).f0))) (fun _ hk => hk.2) (.int .i64 ((rd_T41 t304 x85_3).f1))) (fun _ hk => hk.1.2)))⟩; replace HO_83 : Aside0 (Kd.R k41 41 w40 w.heap.size (fun k_ => k_ ≠ gb317) (.slice (some ad316) t304.length co18) t304) := ⟨(by rw [hw]; exact (by (with_reducible repeat (first | apply Kd.R_alloc | apply Kd.R_drewN | apply Kd.R_drew)); exact Kd.R_mono (Kd.R_far (p := ⟨gb317, 1, none⟩) (Kd.R_far (p := ⟨gb317, 0, none⟩) (Kd.R_mono HO_83.out (fun k_ hk => (⟨hk, hk.2⟩ : _ ∧ k_ ≠ gb317))) (fun _ hk => hk.2) (.int .i64 ((rd_T41 t304 x85_3).f0))) (fun _ hk => hk.2) (.int .i64 ((rd_T41 t304 x85_3).f1))) (fun _ hk => hk.1.2)))⟩; replace BK317 : Aside0 (w40.heap[gb317]? = some (.cells #[.int .i64 ((rd_T41 t304 x85_3).f0), .int .i64 ((rd_T41 t304 x85_3).f1)] 41 (0, 0))) := ⟨(by rw [hw]; exact (by refine bU ?_; refine blk_put (cs := #[.int .i64 ((rd_T41 t304 x85_3).f0), .int .i64 0]) ?_ 1 _ rfl; refine bU ?_; refine blk_put (cs := #[.int .i64 0, .int .i64 0]) ?_ 0 _ rfl; refine bU ?_; exact BK317.out))⟩; replace HB : Aside0 (Below w.heap.size w w40) := ⟨(by rw [hw]; exact (lV1 GE317))⟩; clear hw; have hcz41_0 := cz BK317 0 (.int .i64 ((rd_T41 t304 x85_3).f0)); have hcz41_1 := cz BK317 1 (.int .i64 ((rd_T41 t304 x85_3).f1)); have hfz41_0 := fz BK317 0; have hfz41_1 := fz BK317 1; have p318 : 0 ≤ (((rd_T41 t304 x85_3).f0) : Int) := of_decide_eq_true hE; have q318 : ((rd_T41 t304 x85_3).f0) < (t300.length : Int) := of_decide_eq_true hE; obtain ⟨ad318, e318, hx318_0⟩ := Kd.at_int (Kd.R_reads' HO_3.out).2.2 ((rd_T41 t304 x85_3).f0) p318 q318; cases e318; replace p318 := eq_true p318; replace q318 := eq_true q318)); try go_wp2_with (first | ((with_reducible refine gate_dst (N := 12) rfl ?_); (try (refine gate_guard (by rfl) ?_; dsimp only)); refine box_event rfl (N := 12) rfl (cs := #[.int .i64 0, .int .i64 0]) (t := 41) sE ?_; intro gb317 hg w38 hbox hb; replace HO_3 := Aside0.mk (Kd.R_below (rU HO_3.out) hb); replace HO_5 := Aside0.mk (Kd.R_below (Kd.R_elderB (rU HO_5.out) gb317 (Nat.le_of_eq hg.symm)) hb); replace HO_83 := Aside0.mk (Kd.R_below (Kd.R_elderB (rU HO_83.out) gb317 (Nat.le_of_eq hg.symm)) hb); have BK317 := Aside0.mk hbox; have GW317 := gS w hg (lU); have GE317 := gS w hg (lU); replace HB := bH (lU) hb; clear hb hbox hg; have hcz39_0 := cz BK317 0 (.int .i64 0); have hcz39_1 := cz BK317 1 (.int .i64 0); have hfz39_0 := fz BK317 0; have hfz39_1 := fz BK317 1) | ((with_reducible refine gate_store (t := 41) (p := 12) rfl ?_); (try (rw [drewN_self w38]; generalize hq_ : World.drewN w38 _ = w38; replace HO_3 := Aside0.mk (Kd.R_at hq_ HO_3.out); replace HO_5 := Aside0.mk (Kd.R_at hq_ HO_5.out); replace HO_83 := Aside0.mk (Kd.R_at hq_ HO_83.out); replace BK317 := Aside0.mk (blk_at hq_ BK317.out); replace HB := Aside0.mk (below_at hq_ HB.out); clear hq_)); refine store_event (t := 41) (p := 12) (v := ?vo_w40) (w1 := ((w38.setCell ⟨gb317, 0, none⟩ (.int .i64 ((rd_T41 t304 x85_3).f0))).setCell ⟨gb317, 1, none⟩ (.int .i64 ((rd_T41 t304 x85_3).f1)))) ?hg ?ho ?hn ?hr ?_; (case ho => rfl); (case hg => rfl); (case hn => rfl); (case hr => first | (go_simp; done) | (go_simp; rfl) | (have hq0_ := (blk_cell BK317.out 0).trans (show _ = some _ from rfl); have hf0_ := blk_frozen BK317.out 0; have hq1_ := (blk_cell BK317.out 1).trans (show _ = some _ from rfl); have hf1_ := blk_frozen BK317.out 1; first | (go_simp; done) | (go_simp; rfl))); intro w40 hw; replace HO_3 : Aside0 (Kd.R (Kd.int .i64) 3 w40 w.heap.size (fun _ => True) (.slice Ao8 t300.length co8) t300) := ⟨(by rw [hw]; exact (by (with_reducible repeat (first | apply Kd.R_alloc | apply Kd.R_drewN | apply Kd.R_drew)); exact Kd.R_mono (Kd.R_far (p := ⟨gb317, 1, none⟩) (Kd.R_far (p := ⟨gb317, 0, none⟩) (Kd.R_types HO_3.out BK317.out (by decide)) (fun _ hk => hk.2) (.int .i64 ((rd_T41 t304 x85_3).f0))) (fun _ hk => hk.2) (.int .i64 ((rd_T41 t304 x85_3).f1))) (fun _ hk => trivial)))⟩; replace HO_5 : Aside0 (Kd.R k41 41 w40 w.heap.size (fun k_ => k_ ≠ gb317) (.slice (some ad316) t304.length co18) t304) := ⟨(by rw [hw]; exact (by (with_reducible repeat (first | apply Kd.R_alloc | apply Kd.R_drewN | apply Kd.R_drew)); exact Kd.R_mono (Kd.R_far (p := ⟨gb317, 1, none⟩) (Kd.R_far (p := ⟨gb317, 0, none⟩) (Kd.R_mono HO_5.out (fun k_ hk => (⟨hk, hk.2⟩ : _ ∧ k_ ≠ gb317))) (fun _ hk => hk.2) (.int .i64 ((rd_T41 t304 x85_3).f0))) (fun _ hk => hk.2) (.int .i64 ((rd_T41 t304 x85_3).f1))) (fun _ hk => hk.1.2)))⟩; replace HO_83 : Aside0 (Kd.R k41 41 w40 w.heap.size (fun k_ => k_ ≠ gb317) (.slice (some ad316) t304.length co18) t304) := ⟨(by rw [hw]; exact (by (with_reducible repeat (first | apply Kd.R_alloc | apply Kd.R_drewN | apply Kd.R_drew)); exact Kd.R_mono (Kd.R_far (p := ⟨gb317, 1, none⟩) (Kd.R_far (p := ⟨gb317, 0, none⟩) (Kd.R_mono HO_83.out (fun k_ hk => (⟨hk, hk.2⟩ : _ ∧ k_ ≠ gb317))) (fun _ hk => hk.2) (.int .i64 ((rd_T41 t304 x85_3).f0))) (fun _ hk => hk.2) (.int .i64 ((rd_T41 t304 x85_3).f1))) (fun _ hk => hk.1.2)))⟩; replace BK317 : Aside0 (w40.heap[gb317]? = some (.cells #[.int .i64 ((rd_T41 t304 x85_3).f0), .int .i64 ((rd_T41 t304 x85_3).f1)] 41 (0, 0))) := ⟨(by rw [hw]; exact (by refine bU ?_; refine blk_put (cs := #[.int .i64 ((rd_T41 t304 x85_3).f0), .int .i64 0]) ?_ 1 _ rfl; refine bU ?_; refine blk_put (cs := #[.int .i64 0, .int .i64 0]) ?_ 0 _ rfl; refine bU ?_; exact BK317.out))⟩; replace HB : Aside0 (Below w.heap.size w w40) := ⟨(by rw [hw]; exact (lV1 GE317))⟩; clear hw; have hcz41_0 := cz BK317 0 (.int .i64 ((rd_T41 t304 x85_3).f0)); have hcz41_1 := cz BK317 1 (.int .i64 ((rd_T41 t304 x85_3).f1)); have hfz41_0 := fz BK317 0; have hfz41_1 := fz BK317 1; have p318 : 0 ≤ (((rd_T41 t304 x85_3).f0) : Int) := of_decide_eq_true hE; have q318 : ((rd_T41 t304 x85_3).f0) < (t300.length : Int) := of_decide_eq_true hE; obtain ⟨ad318, e318, hx318_0⟩ := Kd.at_int (Kd.R_reads' HO_3.out).2.2 ((rd_T41 t304 x85_3).f0) p318 q318; cases e318; replace p318 := eq_true p318; replace q318 := eq_true q318)))
                 go_ret
                 exact ⟨eE, lV1 GE317⟩
               ·rw [if_neg c32] at H
                exact absurd H (by simp)
              ·rw [if_neg c31] at H
               exact absurd H (by simp)
             ·rw [if_neg c30] at H
              exact absurd H (by simp)
            ·rw [if_neg c29] at H
             exact absurd H (by simp)
           ·rw [if_neg c28] at H
            have c28b0 : decide (x85_3 < (t304.length : Int)) = false := decide_eq_false c28
            clear c28
            have HC42 := Aside0.mk H
            clear H
            go_upto_region 19 with (fail)
            repeat (go_quiet (fail); go_upto_region 19 with (fail))
            go_cut [105] (fun v105 wc => ∃ (kq : Nat) (x105_41 : Bool), v105 = .bool x105_41 ∧ Aside0 (laws_FnKeys.j3 kq t300 t301 t304 x105_41 = some r) ∧ Aside0 (kq ≤ k3) ∧ Aside0 (Kd.R (Kd.int .i64) 3 wc w.heap.size (fun _ => True) (.slice Ao8 t300.length co8) t300) ∧ Aside0 (Kd.R k41 41 wc w.heap.size (fun _ => True) (.slice Ao18 t304.length co18) t304) ∧ Aside0 (Below w.heap.size w wc))
            case first =>
             have H := HC42.out
             clear HC42
             by_cases c43 : (t300.length : Int) > 9
             ·rw [if_pos c43] at H
              have c43b0 : decide (9 < (t300.length : Int)) = true := decide_eq_true c43
              have c43b1 : decide (9 < t300.length) = true := decide_eq_true (by omega)
              clear c43
              (first | rw [c43b0] | (simp only [i64_w, i32_w]; rw [c43b0]) | (rw [c43b2]; simp only [Bool.not_false, Bool.not_true]) | skip)
              have H' := Aside0.mk H
              clear H
              go_wp2
              repeat (go_quiet (fail); try go_wp2)
              go_meet
              case rel => exact ⟨_, (true), tE, H', ⟨by have := HJ5.out; have := HJ16.out; have := HK3.out; first | omega | exact Nat.le_refl _⟩, ⟨by (with_reducible repeat (first | apply Kd.R_alloc | apply Kd.R_drewN | apply Kd.R_drew)); exact HO_3.out⟩, ⟨by (with_reducible repeat (first | apply Kd.R_alloc | apply Kd.R_drewN | apply Kd.R_drew)); exact HO_5.out⟩, ⟨by repeat (first | (with_reducible first | exact HB.out | apply below_alloc | apply pw_below_drewN | apply below_drew1) | exact HB.out)⟩⟩
             ·rw [if_neg c43] at H
              have c43b0 : decide (9 < (t300.length : Int)) = false := decide_eq_false c43
              have c43b1 : decide (9 < t300.length) = false := decide_eq_false (by omega)
              clear c43
              (first | rw [c43b0] | (simp only [i64_w, i32_w]; rw [c43b0]) | (rw [c43b2]; simp only [Bool.not_false, Bool.not_true]) | skip)
              have H' := Aside0.mk H
              clear H
              go_wp2
              repeat (go_quiet (fail); try go_wp2)
              go_meet
              case rel => exact ⟨_, (decide ((t300.length : Int) < 3)), tE, H', ⟨by have := HJ5.out; have := HJ16.out; have := HK3.out; first | omega | exact Nat.le_refl _⟩, ⟨by (with_reducible repeat (first | apply Kd.R_alloc | apply Kd.R_drewN | apply Kd.R_drew)); exact HO_3.out⟩, ⟨by (with_reducible repeat (first | apply Kd.R_alloc | apply Kd.R_drewN | apply Kd.R_drew)); exact HO_5.out⟩, ⟨by repeat (first | (with_reducible first | exact HB.out | apply below_alloc | apply pw_below_drewN | apply below_drew1) | exact HB.out)⟩⟩
            case rest =>
             clear HC42
             try clear c1
             try clear q1
             try clear hf1
             try clear c2
             try clear c2b0
             try clear c2b1
             try clear p2
             try clear c3
             try clear p3
             try clear q3
             try clear hx3
             try clear qi3
             try clear c4
             try clear p6
             try clear c11
             try clear c11b0
             try clear c11b1
             try clear c11b2
             try clear c14
             try clear c15
             try clear c20
             try clear c21
             try clear c21b0
             try clear c21b2
             try clear c22
             try clear c22b0
             try clear c22b1
             try clear c23
             try clear c23b0
             try clear c23b1
             try clear c25
             try clear c25b0
             try clear c26
             try clear c26b0
             try clear c27
             try clear c28
             try clear c28b0
             try clear c29
             try clear c29b0
             try clear c30
             try clear c30b0
             try clear c31
             try clear c31b0
             try clear p31
             try clear q31
             try clear hx31
             try clear qi31
             try clear c32
             try clear c32b0
             try clear c33
             try clear c33b0
             try clear c33b1
             try clear c43
             try clear c43b0
             try clear c43b1
             try clear c43b2
             try clear hcz35_0
             try clear hcz35_1
             try clear hcz37_0
             try clear hcz37_1
             try clear hcz39_0
             try clear hcz39_1
             try clear hcz41_0
             try clear hcz41_1
             try clear hfz35_0
             try clear hfz35_1
             try clear hfz37_0
             try clear hfz37_1
             try clear hfz39_0
             try clear hfz39_1
             try clear hfz41_0
             try clear hfz41_1
             try clear hx314_0
             try clear hx314_1
             try clear hx315_0
             try clear hx315_1
             try clear hx316_0
             try clear hx316_1
             try clear hx318_0
             try clear p2
             try clear p3
             try clear p314
             try clear p315
             try clear p316
             try clear p318
             try clear p6
             try clear q3
             try clear q314
             try clear q315
             try clear q316
             try clear q318
             obtain ⟨kq, x105_41, rfl, HA, HJ41, HO_3, HO_5, HB⟩ := hcut
             cases kq with
             | zero => exact absurd HA.out (by simp [laws_FnKeys.j3])
             | succ kj41 =>
              have H := HA.out
              clear HA
              simp only [laws_FnKeys.j3] at H
              by_cases c44 : x105_41 = true
              ·subst c44
               have H1 : (some true) = some r := by rw [if_pos rfl] at H; exact H
               clear H
               have H := H1
               clear H1
               obtain rfl := Option.some.inj H
               go_wp2
               repeat (go_quiet (fail); try go_wp2)
               go_ret
               exact ⟨eE, lU⟩
              ·replace c44 := Bool.eq_false_iff.mpr c44
               subst c44
               have H1 : (laws_FnKeys.l1 kj41 t300 t301 t304 0) = some r := by rw [if_neg (show ¬ (false = true) by decide)] at H; exact H
               clear H
               have H := H1
               clear H1
               have H' := Aside0.mk H
               clear H
               go_wp2
               repeat (go_quiet (fail); try go_wp2)
               go_loopg [13] kj41 (fun kq v13 w' => ∃ (x13_5 : Int), v13 = .int .i64 x13_5 ∧ Aside0 (laws_FnKeys.l1 kq t300 t301 t304 x13_5 = some r) ∧ Aside0 (kq ≤ kj41) ∧ Aside0 (Kd.R (Kd.int .i64) 3 w' w.heap.size (fun _ => True) (.slice Ao8 t300.length co8) t300) ∧ Aside0 (Kd.R k41 41 w' w.heap.size (fun _ => True) (.slice Ao18 t304.length co18) t304) ∧ Aside0 (Below w.heap.size w w'))
               case atStart => exact ⟨(0), tE, H', ⟨Nat.le_refl _⟩, ⟨by (with_reducible repeat (first | apply Kd.R_alloc | apply Kd.R_drewN | apply Kd.R_drew)); exact HO_3.out⟩, ⟨by (with_reducible repeat (first | apply Kd.R_alloc | apply Kd.R_drewN | apply Kd.R_drew)); exact HO_5.out⟩, ⟨by repeat (first | (with_reducible first | exact HB.out | apply below_alloc | apply pw_below_drewN | apply below_drew1) | exact HB.out)⟩⟩
               case round =>
                clear H'
                try clear c1
                try clear q1
                try clear hf1
                try clear c2
                try clear c2b0
                try clear c2b1
                try clear p2
                try clear c3
                try clear p3
                try clear q3
                try clear hx3
                try clear qi3
                try clear c4
                try clear p6
                try clear c11
                try clear c11b0
                try clear c11b1
                try clear c11b2
                try clear c14
                try clear c15
                try clear c20
                try clear c21
                try clear c21b0
                try clear c21b2
                try clear c22
                try clear c22b0
                try clear c22b1
                try clear c23
                try clear c23b0
                try clear c23b1
                try clear c25
                try clear c25b0
                try clear c26
                try clear c26b0
                try clear c27
                try clear c28
                try clear c28b0
                try clear c29
                try clear c29b0
                try clear c30
                try clear c30b0
                try clear c31
                try clear c31b0
                try clear p31
                try clear q31
                try clear hx31
                try clear qi31
                try clear c32
                try clear c32b0
                try clear c33
                try clear c33b0
                try clear c33b1
                try clear c43
                try clear c43b0
                try clear c43b1
                try clear c43b2
                try clear c44
                try clear hcz35_0
                try clear hcz35_1
                try clear hcz37_0
                try clear hcz37_1
                try clear hcz39_0
                try clear hcz39_1
                try clear hcz41_0
                try clear hcz41_1
                try clear hfz35_0
                try clear hfz35_1
                try clear hfz37_0
                try clear hfz37_1
                try clear hfz39_0
                try clear hfz39_1
                try clear hfz41_0
                try clear hfz41_1
                try clear hx314_0
                try clear hx314_1
                try clear hx315_0
                try clear hx315_1
                try clear hx316_0
                try clear hx316_1
                try clear hx318_0
                try clear p2
                try clear p3
                try clear p31
                try clear p314
                try clear p315
                try clear p316
                try clear p318
                try clear p6
                try clear q1
                try clear q3
                try clear q31
                try clear q314
                try clear q315
                try clear q316
                try clear q318
                obtain ⟨x13_5, rfl, HA, HK5, HO_3, HO_5, HB⟩ := hrel
                cases gk with
                | zero => exact absurd HA.out (by simp [laws_FnKeys.l1])
                | succ k5 =>
                 have H := HA.out
                 clear HA
                 simp only [laws_FnKeys.l1] at H
                 obtain ⟨ji45, hji45⟩ : ∃ j_ : Int, (IntKind.u64.wrap (wrap64 ((t300.length : Int) - 2))) = j_ := ⟨_, rfl⟩
                 replace H : (if 0 ≤ (ji45) then (if x13_5 < (shl .i64 1 (ji45)) then (if 0 < (t300.length : Int) then (laws_FnKeys.l2 k5 t300 t301 t304 x13_5 (([(⟨0, rd t300 0⟩ : S41)] : List (S41))) 1) else (none)) else (some true)) else (none)) = some r := by first | (rw [hji45] at H; exact H) | (simp only [hji45] at H ⊢; exact H)
                 by_cases c46 : 0 ≤ (ji45)
                 ·rw [if_pos c46] at H
                  have c46b0 := eq_true c46
                  have c46b1 : decide (0 ≤ (ji45)) = true := decide_eq_true c46
                  clear c46
                  obtain ⟨ji47, hji47⟩ : ∃ j_ : Int, (shl .i64 1 (ji45)) = j_ := ⟨_, rfl⟩
                  replace H : (if x13_5 < (ji47) then (if 0 < (t300.length : Int) then (laws_FnKeys.l2 k5 t300 t301 t304 x13_5 (([(⟨0, rd t300 0⟩ : S41)] : List (S41))) 1) else (none)) else (some true)) = some r := by first | (rw [hji47] at H; exact H) | (simp only [hji47] at H ⊢; exact H)
                  have hji47_ : (IntKind.i64.wrap (1 * 2 ^ min (ji45).toNat 64)) = ji47 := hji47
                  have hji47z : (ji45) ≤ 64 → (IntKind.i64.wrap (1 * 2 ^ (ji45).toNat)) = ji47 := shl_small hji47
                  have hji47u : (IntKind.i64.wrap (2 ^ min (ji45).toNat 64)) = ji47 := by have h_ := hji47_; rw [Int.one_mul] at h_; exact h_
                  have hji47v : (ji45) ≤ 64 → (IntKind.i64.wrap (2 ^ (ji45).toNat)) = ji47 := fun hle_ => by have h_ := hji47z hle_; rw [Int.one_mul] at h_; exact h_
                  have hji47y : (wrap64 (1 * 2 ^ min (ji45).toNat 64)) = ji47 := (i64_w _).symm.trans hji47_
                  have hji47x : (ji45) ≤ 64 → (wrap64 (1 * 2 ^ (ji45).toNat)) = ji47 := fun h_ => (i64_w _).symm.trans (hji47z h_)
                  by_cases c48 : x13_5 < (ji47)
                  ·rw [if_pos c48] at H
                   have c48b0 : decide (x13_5 < (ji47)) = true := decide_eq_true c48
                   clear c48
                   by_cases c49 : 0 < (t300.length : Int)
                   ·rw [if_pos c49] at H
                    have c49b0 : decide (0 < (t300.length : Int)) = true := decide_eq_true c49
                    have c49b1 : decide (0 < t300.length) = true := decide_eq_true (by omega)
                    clear c49
                    obtain ⟨y320, hy320⟩ : ∃ y_ : List (S41), y_ = (([(⟨0, rd t300 0⟩ : S41)] : List (S41))) := ⟨_, rfl⟩
                    replace H : (laws_FnKeys.l2 k5 t300 t301 t304 x13_5 y320 1) = some r := by first | (rw [hy320]; with_reducible exact H) | (have H2_ := (Option.bind_some _ _).symm.trans H; rw [hy320]; with_reducible exact H2_) | (have H2_ := (Option.bind_some _ _).symm.trans H; with_reducible exact H2_) | with_reducible exact H | (rw [hy320]; exact H) | exact H
                    have Ny320 := Aside0.mk hy320
                    clear hy320
                    have H' := Aside0.mk H
                    clear H
                    have p319 : 0 ≤ (0 : Int) := (by omega)
                    have q319 : 0 < (t300.length : Int) := of_decide_eq_true hE
                    obtain ⟨ad319, e319, hx319_0⟩ := Kd.at_int (Kd.R_reads' HO_3.out).2.2 0 p319 q319
                    cases e319
                    have qi319 : (0 < t300.length) = True := eq_true (by omega)
                    (try rw [show ((0 : Int)).toNat = 0 from rfl] at hx319_0)
                    (try rw [Addr.add_zero'] at hx319_0)
                    replace p319 := eq_true p319
                    replace q319 := eq_true q319
                    go_wp2_with (first | ((with_reducible refine gate_dst (N := 119) rfl ?_); (try (refine gate_guard (by rfl) ?_; dsimp only)); refine Kd.R_lit k41 _ 41 ?hg (N := 119) ?hd (xs := ([(⟨0, rd t300 0⟩ : S41)] : List (S41))) (inner := [.int .i64 0, .int .i64 (rd t300 0)]) (ok := fun _ => True) (okp := fun _ => True) ?hr ?hp (fun _ hk => hk) trivial (Below.refl _ _) (Nat.le_refl _) (by simp) ?_; (case hd => rfl); (case hg => rfl); (case hr => exact sE); (case hp => exact (Reps.c2 (show Kd.M k41 _ _ _ (⟨0, rd t300 0⟩ : S41) [.int .i64 0, .int .i64 (rd t300 0)] from (k41_mkM _ _ _ (⟨0, rd t300 0⟩ : S41) )) (Reps.none _ _))); intro v321 w50 ho51 hb hg_ hnew_; clear hg_ hnew_; (first | rw [← Ny320.out] at ho51 | (simp only [Int.reduceToNat] at ho51; rw [← Ny320.out] at ho51)); replace HO_3 := Aside0.mk (Kd.R_below (rU HO_3.out) hb); have HO322 := Aside0.mk (Kd.R_lower (Kd.R_new' ho51 (Kd.R_lt (rU HO_5.out))) (below_size (lU))); replace HO_5 := Aside0.mk (Kd.R_elder' (rU HO_5.out) (Kd.R_base ho51) hb); replace HB := bH (lU) hb; clear hb ho51))
                    repeat (go_quiet (first | ((with_reducible refine gate_dst (N := 119) rfl ?_); (try (refine gate_guard (by rfl) ?_; dsimp only)); refine Kd.R_lit k41 _ 41 ?hg (N := 119) ?hd (xs := ([(⟨0, rd t300 0⟩ : S41)] : List (S41))) (inner := [.int .i64 0, .int .i64 (rd t300 0)]) (ok := fun _ => True) (okp := fun _ => True) ?hr ?hp (fun _ hk => hk) trivial (Below.refl _ _) (Nat.le_refl _) (by simp) ?_; (case hd => rfl); (case hg => rfl); (case hr => exact sE); (case hp => exact (Reps.c2 (show Kd.M k41 _ _ _ (⟨0, rd t300 0⟩ : S41) [.int .i64 0, .int .i64 (rd t300 0)] from (k41_mkM _ _ _ (⟨0, rd t300 0⟩ : S41) )) (Reps.none _ _))); intro v321 w50 ho51 hb hg_ hnew_; clear hg_ hnew_; (first | rw [← Ny320.out] at ho51 | (simp only [Int.reduceToNat] at ho51; rw [← Ny320.out] at ho51)); replace HO_3 := Aside0.mk (Kd.R_below (rU HO_3.out) hb); have HO322 := Aside0.mk (Kd.R_lower (Kd.R_new' ho51 (Kd.R_lt (rU HO_5.out))) (below_size (lU))); replace HO_5 := Aside0.mk (Kd.R_elder' (rU HO_5.out) (Kd.R_base ho51) hb); replace HB := bH (lU) hb; clear hb ho51)); try go_wp2_with (first | ((with_reducible refine gate_dst (N := 119) rfl ?_); (try (refine gate_guard (by rfl) ?_; dsimp only)); refine Kd.R_lit k41 _ 41 ?hg (N := 119) ?hd (xs := ([(⟨0, rd t300 0⟩ : S41)] : List (S41))) (inner := [.int .i64 0, .int .i64 (rd t300 0)]) (ok := fun _ => True) (okp := fun _ => True) ?hr ?hp (fun _ hk => hk) trivial (Below.refl _ _) (Nat.le_refl _) (by simp) ?_; (case hd => rfl); (case hg => rfl); (case hr => exact sE); (case hp => exact (Reps.c2 (show Kd.M k41 _ _ _ (⟨0, rd t300 0⟩ : S41) [.int .i64 0, .int .i64 (rd t300 0)] from (k41_mkM _ _ _ (⟨0, rd t300 0⟩ : S41) )) (Reps.none _ _))); intro v321 w50 ho51 hb hg_ hnew_; clear hg_ hnew_; (first | rw [← Ny320.out] at ho51 | (simp only [Int.reduceToNat] at ho51; rw [← Ny320.out] at ho51)); replace HO_3 := Aside0.mk (Kd.R_below (rU HO_3.out) hb); have HO322 := Aside0.mk (Kd.R_lower (Kd.R_new' ho51 (Kd.R_lt (rU HO_5.out))) (below_size (lU))); replace HO_5 := Aside0.mk (Kd.R_elder' (rU HO_5.out) (Kd.R_base ho51) hb); replace HB := bH (lU) hb; clear hb ho51)))
                    (try simp only [Act.put, List.setIfInBounds_toArray, List.set_cons_zero, List.set_cons_succ])
                    go_loopg [14, 15] k5 (fun kq v14 v15 w' => ∃ (x14_6 : List (S41)) (x15_6 : Int), v15 = .int .i64 x15_6 ∧ Aside0 (laws_FnKeys.l2 kq t300 t301 t304 x13_5 x14_6 x15_6 = some r) ∧ Aside0 (kq ≤ k5) ∧ Aside0 (Kd.R (Kd.int .i64) 3 w' w.heap.size (fun _ => True) (.slice (some ad319) t300.length co8) t300) ∧ Aside0 (Kd.R k41 41 w' w.heap.size (fun k_ => some k_ ≠ (v14 : Value).ownBlock) (.slice Ao18 t304.length co18) t304) ∧ Aside0 (Kd.R k41 41 w' w.heap.size (fun k_ => some k_ ≠ ((.slice Ao18 t304.length co18) : Value).ownBlock) v14 x14_6) ∧ Aside0 (Below w.heap.size w w'))
                    case atStart => exact ⟨(y320), (1), tE, H', ⟨Nat.le_refl _⟩, ⟨by (with_reducible repeat (first | apply Kd.R_alloc | apply Kd.R_drewN | apply Kd.R_drew)); exact HO_3.out⟩, ⟨by (with_reducible repeat (first | apply Kd.R_alloc | apply Kd.R_drewN | apply Kd.R_drew)); exact Kd.R_mono HO_5.out (fun _ hk => hk.2)⟩, ⟨by (with_reducible repeat (first | apply Kd.R_alloc | apply Kd.R_drewN | apply Kd.R_drew)); exact Kd.R_mono HO322.out (fun _ hk => hk.2)⟩, ⟨by repeat (first | (with_reducible first | exact HB.out | apply below_alloc | apply pw_below_drewN | apply below_drew1) | exact HB.out)⟩⟩
                    case round =>
                     clear H'
                     try clear c1
                     try clear q1
                     try clear hf1
                     try clear c2
                     try clear c2b0
                     try clear c2b1
                     try clear p2
                     try clear c3
                     try clear p3
                     try clear q3
                     try clear hx3
                     try clear qi3
                     try clear c4
                     try clear p6
                     try clear c11
                     try clear c11b0
                     try clear c11b1
                     try clear c11b2
                     try clear c14
                     try clear c15
                     try clear c20
                     try clear c21
                     try clear c21b0
                     try clear c21b2
                     try clear c22
                     try clear c22b0
                     try clear c22b1
                     try clear c23
                     try clear c23b0
                     try clear c23b1
                     try clear c25
                     try clear c25b0
                     try clear c26
                     try clear c26b0
                     try clear c27
                     try clear c28
                     try clear c28b0
                     try clear c29
                     try clear c29b0
                     try clear c30
                     try clear c30b0
                     try clear c31
                     try clear c31b0
                     try clear p31
                     try clear q31
                     try clear hx31
                     try clear qi31
                     try clear c32
                     try clear c32b0
                     try clear c33
                     try clear c33b0
                     try clear c33b1
                     try clear c43
                     try clear c43b0
                     try clear c43b1
                     try clear c43b2
                     try clear c44
                     try clear c46
                     try clear c46b0
                     try clear c46b1
                     try clear c48
                     try clear c48b0
                     try clear c49
                     try clear c49b0
                     try clear c49b1
                     try clear hcz35_0
                     try clear hcz35_1
                     try clear hcz37_0
                     try clear hcz37_1
                     try clear hcz39_0
                     try clear hcz39_1
                     try clear hcz41_0
                     try clear hcz41_1
                     try clear hfz35_0
                     try clear hfz35_1
                     try clear hfz37_0
                     try clear hfz37_1
                     try clear hfz39_0
                     try clear hfz39_1
                     try clear hfz41_0
                     try clear hfz41_1
                     try clear hx314_0
                     try clear hx314_1
                     try clear hx315_0
                     try clear hx315_1
                     try clear hx316_0
                     try clear hx316_1
                     try clear hx318_0
                     try clear hx319_0
                     try clear p2
                     try clear p3
                     try clear p31
                     try clear p314
                     try clear p315
                     try clear p316
                     try clear p318
                     try clear p319
                     try clear p6
                     try clear q1
                     try clear q3
                     try clear q31
                     try clear q314
                     try clear q315
                     try clear q316
                     try clear q318
                     try clear q319
                     obtain ⟨x14_6, x15_6, rfl, HA, HK6, HO_3, HO_5, HO_14, HB⟩ := hrel
                     cases gk with
                     | zero => exact absurd HA.out (by simp [laws_FnKeys.l2])
                     | succ k6 =>
                      have H := HA.out
                      clear HA
                      simp only [laws_FnKeys.l2] at H
                      by_cases c52 : x15_6 < (wrap64 ((t300.length : Int) - 1))
                      ·rw [if_pos c52] at H
                       have c52b0 : decide (x15_6 < (wrap64 ((t300.length : Int) - 1))) = true := decide_eq_true c52
                       clear c52
                       obtain ⟨ji53, hji53⟩ : ∃ j_ : Int, (IntKind.u64.wrap (wrap64 (x15_6 - 1))) = j_ := ⟨_, rfl⟩
                       replace H : (if 0 ≤ (ji53) then (if (Go.bits .and .i64 (shr .i64 x13_5 (ji53)) 1) = 1 then (if 0 ≤ x15_6 then (if x15_6 < (t300.length : Int) then (if x14_6.length < 8796093022208 then (laws_FnKeys.l2 k6 t300 t301 t304 x13_5 (x14_6 ++ [(⟨x15_6, rd t300 x15_6⟩ : S41)]) (wrap64 (x15_6 + 1))) else (none)) else (none)) else (none)) else (laws_FnKeys.l2 k6 t300 t301 t304 x13_5 x14_6 (wrap64 (x15_6 + 1)))) else (none)) = some r := by first | (rw [hji53] at H; exact H) | (simp only [hji53] at H ⊢; exact H)
                       by_cases c54 : 0 ≤ (ji53)
                       ·rw [if_pos c54] at H
                        have c54b0 := eq_true c54
                        have c54b1 : decide (0 ≤ (ji53)) = true := decide_eq_true c54
                        clear c54
                        obtain ⟨ji55, hji55⟩ : ∃ j_ : Int, (shr .i64 x13_5 (ji53)) = j_ := ⟨_, rfl⟩
                        replace H : (if (Go.bits .and .i64 (ji55) 1) = 1 then (if 0 ≤ x15_6 then (if x15_6 < (t300.length : Int) then (if x14_6.length < 8796093022208 then (laws_FnKeys.l2 k6 t300 t301 t304 x13_5 (x14_6 ++ [(⟨x15_6, rd t300 x15_6⟩ : S41)]) (wrap64 (x15_6 + 1))) else (none)) else (none)) else (none)) else (laws_FnKeys.l2 k6 t300 t301 t304 x13_5 x14_6 (wrap64 (x15_6 + 1)))) = some r := by first | (rw [hji55] at H; exact H) | (simp only [hji55] at H ⊢; exact H)
                        have hji55_ : (x13_5 / 2 ^ min (ji53).toNat 64) = ji55 := hji55
                        have hji55z : (ji53) ≤ 64 → (x13_5 / 2 ^ (ji53).toNat) = ji55 := shr_small hji55
                        by_cases c56 : (Go.bits .and .i64 (ji55) 1) = 1
                        ·rw [if_pos c56] at H
                         have c56b0 : ((Go.bits .and .i64 (ji55) 1) == 1) = true := beq_iff_eq.mpr c56
                         have c56b1 : ((Go.bits .and .i64 (ji55) 1) != 1) = false := bne_eq_false_iff_eq.mpr c56
                         clear c56
                         by_cases c57 : 0 ≤ x15_6
                         ·rw [if_pos c57] at H
                          have c57b0 : decide (0 ≤ x15_6) = true := decide_eq_true c57
                          clear c57
                          by_cases c58 : x15_6 < (t300.length : Int)
                          ·rw [if_pos c58] at H
                           have c58b0 : decide (x15_6 < (t300.length : Int)) = true := decide_eq_true c58
                           clear c58
                           by_cases c59 : x14_6.length < 8796093022208
                           ·rw [if_pos c59] at H
                            have LMc59 := Aside0.mk c59
                            clear c59
                            obtain ⟨y324, hy324⟩ : ∃ y_ : List (S41), y_ = (x14_6 ++ [(⟨x15_6, rd t300 x15_6⟩ : S41)]) := ⟨_, rfl⟩
                            replace H : (laws_FnKeys.l2 k6 t300 t301 t304 x13_5 y324 (wrap64 (x15_6 + 1))) = some r := by first | (rw [hy324]; with_reducible exact H) | (have H2_ := (Option.bind_some _ _).symm.trans H; rw [hy324]; with_reducible exact H2_) | (have H2_ := (Option.bind_some _ _).symm.trans H; with_reducible exact H2_) | with_reducible exact H | (rw [hy324]; exact H) | exact H
                            have Ny324 := Aside0.mk hy324
                            clear hy324
                            have H' := Aside0.mk H
                            clear H
                            have p323 : 0 ≤ (x15_6 : Int) := of_decide_eq_true hE
                            have q323 : x15_6 < (t300.length : Int) := of_decide_eq_true hE
                            obtain ⟨ad323, e323, hx323_0⟩ := Kd.at_int (Kd.R_reads' HO_3.out).2.2 x15_6 p323 q323
                            obtain rfl : ad319 = ad323 := (by injection e323)
                            replace p323 := eq_true p323
                            replace q323 := eq_true q323
                            go_wp2_with (first | ((with_reducible refine gate_builtin (b := .append) (xs := #[.tmp 134, .tmp 141]) rfl ?_); (try (refine gate_guard (by rfl) ?_; dsimp only)); at_builtin; refine Kd.R_append k41 (w0 := w) w.heap.size rfl (.tmp 134) (.tmp 141) 35 41 (.agg #[(.int .i64 0), (.int .i64 0)]) 16 rfl Try.underlying35 info41 rfl (by decide) (by omega) u14 x14_6 (⟨x15_6, rd t300 x15_6⟩ : S41) [.int .i64 x15_6, .int .i64 (rd t300 x15_6)] (fun k_ => some k_ ≠ (.slice Ao18 t304.length co18 : Value).ownBlock) (fun _ => False) rfl rfl ?aP (fun _ hk => hk.elim) ?aF ?aO ?aB ?aS ?aL ?_; (case aP => exact k41_mkM _ _ _ (⟨x15_6, rd t300 x15_6⟩ : S41)); (case aB => exact (lU)); (case aF => exact (fun k_ hk => Kd.fresh' (Kd.R_lt (rU HO_5.out)) k_ hk)); (case aO => exact (rU HO_14.out)); (case aS => exact (below_size (lU))); (case aL => have := LMc59.out; omega); intro v325 w60 ho hb hg hat; rw [← Ny324.out] at ho; replace HO_3 := Aside0.mk (Kd.R_over' (rU HO_3.out) (Kd.R_typed (rU HO_14.out)) (by decide) hg); replace HO_5 := Aside0.mk (Kd.R_after (ok := (fun _ => True)) (by (with_reducible repeat (first | apply Kd.R_alloc | apply Kd.R_drewN | apply Kd.R_drew)); exact Kd.R_mono HO_5.out (fun _ hk => ⟨trivial, hk⟩)) hg hat); replace HB := Aside0.mk hb; have HO326 := Aside0.mk ho; clear HO_14; clear ho hb hg hat))
                            repeat (go_quiet (first | ((with_reducible refine gate_builtin (b := .append) (xs := #[.tmp 134, .tmp 141]) rfl ?_); (try (refine gate_guard (by rfl) ?_; dsimp only)); at_builtin; refine Kd.R_append k41 (w0 := w) w.heap.size rfl (.tmp 134) (.tmp 141) 35 41 (.agg #[(.int .i64 0), (.int .i64 0)]) 16 rfl Try.underlying35 info41 rfl (by decide) (by omega) u14 x14_6 (⟨x15_6, rd t300 x15_6⟩ : S41) [.int .i64 x15_6, .int .i64 (rd t300 x15_6)] (fun k_ => some k_ ≠ (.slice Ao18 t304.length co18 : Value).ownBlock) (fun _ => False) rfl rfl ?aP (fun _ hk => hk.elim) ?aF ?aO ?aB ?aS ?aL ?_; (case aP => exact k41_mkM _ _ _ (⟨x15_6, rd t300 x15_6⟩ : S41)); (case aB => exact (lU)); (case aF => exact (fun k_ hk => Kd.fresh' (Kd.R_lt (rU HO_5.out)) k_ hk)); (case aO => exact (rU HO_14.out)); (case aS => exact (below_size (lU))); (case aL => have := LMc59.out; omega); intro v325 w60 ho hb hg hat; rw [← Ny324.out] at ho; replace HO_3 := Aside0.mk (Kd.R_over' (rU HO_3.out) (Kd.R_typed (rU HO_14.out)) (by decide) hg); replace HO_5 := Aside0.mk (Kd.R_after (ok := (fun _ => True)) (by (with_reducible repeat (first | apply Kd.R_alloc | apply Kd.R_drewN | apply Kd.R_drew)); exact Kd.R_mono HO_5.out (fun _ hk => ⟨trivial, hk⟩)) hg hat); replace HB := Aside0.mk hb; have HO326 := Aside0.mk ho; clear HO_14; clear ho hb hg hat)); try go_wp2_with (first | ((with_reducible refine gate_builtin (b := .append) (xs := #[.tmp 134, .tmp 141]) rfl ?_); (try (refine gate_guard (by rfl) ?_; dsimp only)); at_builtin; refine Kd.R_append k41 (w0 := w) w.heap.size rfl (.tmp 134) (.tmp 141) 35 41 (.agg #[(.int .i64 0), (.int .i64 0)]) 16 rfl Try.underlying35 info41 rfl (by decide) (by omega) u14 x14_6 (⟨x15_6, rd t300 x15_6⟩ : S41) [.int .i64 x15_6, .int .i64 (rd t300 x15_6)] (fun k_ => some k_ ≠ (.slice Ao18 t304.length co18 : Value).ownBlock) (fun _ => False) rfl rfl ?aP (fun _ hk => hk.elim) ?aF ?aO ?aB ?aS ?aL ?_; (case aP => exact k41_mkM _ _ _ (⟨x15_6, rd t300 x15_6⟩ : S41)); (case aB => exact (lU)); (case aF => exact (fun k_ hk => Kd.fresh' (Kd.R_lt (rU HO_5.out)) k_ hk)); (case aO => exact (rU HO_14.out)); (case aS => exact (below_size (lU))); (case aL => have := LMc59.out; omega); intro v325 w60 ho hb hg hat; rw [← Ny324.out] at ho; replace HO_3 := Aside0.mk (Kd.R_over' (rU HO_3.out) (Kd.R_typed (rU HO_14.out)) (by decide) hg); replace HO_5 := Aside0.mk (Kd.R_after (ok := (fun _ => True)) (by (with_reducible repeat (first | apply Kd.R_alloc | apply Kd.R_drewN | apply Kd.R_drew)); exact Kd.R_mono HO_5.out (fun _ hk => ⟨trivial, hk⟩)) hg hat); replace HB := Aside0.mk hb; have HO326 := Aside0.mk ho; clear HO_14; clear ho hb hg hat)))
                            go_roundg k6
                            case measure => have := HJ5.out; have := HJ16.out; have := HK3.out; have := HJ41.out; have := HK5.out; have := HK6.out; omega
                            case rel => exact ⟨(y324), (wrap64 (x15_6 + 1)), tE, H', ⟨by have := HJ5.out; have := HJ16.out; have := HK3.out; have := HJ41.out; have := HK5.out; have := HK6.out; omega⟩, ⟨by (with_reducible repeat (first | apply Kd.R_alloc | apply Kd.R_drewN | apply Kd.R_drew)); exact HO_3.out⟩, ⟨by (with_reducible repeat (first | apply Kd.R_alloc | apply Kd.R_drewN | apply Kd.R_drew)); exact Kd.R_mono HO_5.out (fun _ hk => hk.2)⟩, ⟨by (with_reducible repeat (first | apply Kd.R_alloc | apply Kd.R_drewN | apply Kd.R_drew)); exact HO326.out⟩, ⟨by repeat (first | (with_reducible first | exact HB.out | apply below_alloc | apply pw_below_drewN | apply below_drew1) | exact HB.out)⟩⟩
                           ·rw [if_neg c59] at H
                            exact absurd H (by simp)
                          ·rw [if_neg c58] at H
                           exact absurd H (by simp)
                         ·rw [if_neg c57] at H
                          exact absurd H (by simp)
                        ·rw [if_neg c56] at H
                         have c56b0 : ((Go.bits .and .i64 (ji55) 1) == 1) = false := beq_eq_false_iff_ne.mpr c56
                         have c56b1 : ((Go.bits .and .i64 (ji55) 1) != 1) = true := bne_iff_ne.mpr c56
                         have H' := Aside0.mk H
                         clear H
                         go_wp2
                         repeat (go_quiet (fail); try go_wp2)
                         go_roundg k6
                         case measure => have := HJ5.out; have := HJ16.out; have := HK3.out; have := HJ41.out; have := HK5.out; have := HK6.out; omega
                         case rel => exact ⟨(x14_6), (wrap64 (x15_6 + 1)), tE, H', ⟨by have := HJ5.out; have := HJ16.out; have := HK3.out; have := HJ41.out; have := HK5.out; have := HK6.out; omega⟩, ⟨by (with_reducible repeat (first | apply Kd.R_alloc | apply Kd.R_drewN | apply Kd.R_drew)); exact HO_3.out⟩, ⟨by (with_reducible repeat (first | apply Kd.R_alloc | apply Kd.R_drewN | apply Kd.R_drew)); exact HO_5.out⟩, ⟨by (with_reducible repeat (first | apply Kd.R_alloc | apply Kd.R_drewN | apply Kd.R_drew)); exact HO_14.out⟩, ⟨by repeat (first | (with_reducible first | exact HB.out | apply below_alloc | apply pw_below_drewN | apply below_drew1) | exact HB.out)⟩⟩
                       ·rw [if_neg c54] at H
                        exact absurd H (by simp)
                      ·rw [if_neg c52] at H
                       have c52b0 : decide (x15_6 < (wrap64 ((t300.length : Int) - 1))) = false := decide_eq_false c52
                       clear c52
                       obtain ⟨ji61, hji61⟩ : ∃ j_ : Int, (wrap64 ((t300.length : Int) - 1)) = j_ := ⟨_, rfl⟩
                       replace H : (if 0 ≤ (ji61) then (if (ji61) < (t300.length : Int) then (if x14_6.length < 8796093022208 then ((some (x14_6 ++ [(⟨ji61, rd t300 (ji61)⟩ : S41)] : List (S41))).bind fun y328 => ((spec_WorstOf.f k6 t300 y328).bind fun bt331 => (if bt331.1 ≤ t301 then (if (y328.length : Int) < (t304.length : Int) then (some false) else (laws_FnKeys.l1 k6 t300 t301 t304 (wrap64 (x13_5 + 1)))) else (laws_FnKeys.l1 k6 t300 t301 t304 (wrap64 (x13_5 + 1)))))) else (none)) else (none)) else (none)) = some r := by first | (rw [hji61] at H; exact H) | (simp only [hji61] at H ⊢; exact H)
                       (try rw [hji61] at c52b0)
                       have hji61w : (IntKind.i64.wrap ((t300.length : Int) - 1)) = ji61 := (i64_w _).trans hji61
                       by_cases c62 : 0 ≤ (ji61)
                       ·rw [if_pos c62] at H
                        have c62b0 : decide (0 ≤ (ji61)) = true := decide_eq_true c62
                        clear c62
                        by_cases c63 : (ji61) < (t300.length : Int)
                        ·rw [if_pos c63] at H
                         have c63b0 : decide ((ji61) < (t300.length : Int)) = true := decide_eq_true c63
                         clear c63
                         by_cases c64 : x14_6.length < 8796093022208
                         ·rw [if_pos c64] at H
                          have LMc64 := Aside0.mk c64
                          clear c64
                          obtain ⟨y328, hy328⟩ : ∃ y_ : List (S41), y_ = (x14_6 ++ [(⟨ji61, rd t300 (ji61)⟩ : S41)]) := ⟨_, rfl⟩
                          replace H : ((spec_WorstOf.f k6 t300 y328).bind fun bt331 => (if bt331.1 ≤ t301 then (if (y328.length : Int) < (t304.length : Int) then (some false) else (laws_FnKeys.l1 k6 t300 t301 t304 (wrap64 (x13_5 + 1)))) else (laws_FnKeys.l1 k6 t300 t301 t304 (wrap64 (x13_5 + 1))))) = some r := by first | (rw [hy328]; with_reducible exact H) | (have H2_ := (Option.bind_some _ _).symm.trans H; rw [hy328]; with_reducible exact H2_) | (have H2_ := (Option.bind_some _ _).symm.trans H; with_reducible exact H2_) | with_reducible exact H | (rw [hy328]; exact H) | exact H
                          have Ny328 := Aside0.mk hy328
                          clear hy328
                          replace H := Option.bind_eq_some_iff.mp H
                          obtain ⟨⟨t331, t332⟩, A650, H⟩ := H
                          replace H : (if t331 ≤ t301 then (if (y328.length : Int) < (t304.length : Int) then (some false) else (laws_FnKeys.l1 k6 t300 t301 t304 (wrap64 (x13_5 + 1)))) else (laws_FnKeys.l1 k6 t300 t301 t304 (wrap64 (x13_5 + 1)))) = some r := H
                          have A65 := Aside0.mk A650
                          clear A650
                          by_cases c66 : t331 ≤ t301
                          ·rw [if_pos c66] at H
                           have c66b0 : decide (t331 ≤ t301) = true := decide_eq_true c66
                           clear c66
                           by_cases c67 : (y328.length : Int) < (t304.length : Int)
                           ·rw [if_pos c67] at H
                            have c67b0 : decide ((y328.length : Int) < (t304.length : Int)) = true := decide_eq_true c67
                            have c67b1 : decide (y328.length < t304.length) = true := decide_eq_true (Int.ofNat_lt.mp c67)
                            clear c67
                            obtain rfl := Option.some.inj H
                            have p327 : 0 ≤ ((ji61) : Int) := of_decide_eq_true hE
                            have q327 : (ji61) < (t300.length : Int) := of_decide_eq_true hE
                            obtain ⟨ad327, e327, hx327_0⟩ := Kd.at_int (Kd.R_reads' HO_3.out).2.2 (ji61) p327 q327
                            obtain rfl : ad319 = ad327 := (by injection e327)
                            replace p327 := eq_true p327
                            replace q327 := eq_true q327
                            go_wp2_with (first | ((with_reducible refine gate_builtin (b := .append) (xs := #[.tmp 143, .tmp 154]) rfl ?_); (try (refine gate_guard (by rfl) ?_; dsimp only)); at_builtin; refine Kd.R_append k41 (w0 := w) w.heap.size rfl (.tmp 143) (.tmp 154) 35 41 (.agg #[(.int .i64 0), (.int .i64 0)]) 16 rfl Try.underlying35 info41 rfl (by decide) (by omega) u14 x14_6 (⟨ji61, rd t300 (ji61)⟩ : S41) [.int .i64 ji61, .int .i64 (rd t300 (ji61))] (fun k_ => some k_ ≠ (.slice Ao18 t304.length co18 : Value).ownBlock) (fun _ => False) rfl rfl ?aP (fun _ hk => hk.elim) ?aF ?aO ?aB ?aS ?aL ?_; (case aP => exact k41_mkM _ _ _ (⟨ji61, rd t300 (ji61)⟩ : S41)); (case aB => exact (lU)); (case aF => exact (fun k_ hk => Kd.fresh' (Kd.R_lt (rU HO_5.out)) k_ hk)); (case aO => exact (rU HO_14.out)); (case aS => exact (below_size (lU))); (case aL => have := LMc64.out; omega); intro v329 w68 ho hb hg hat; rw [← Ny328.out] at ho; replace HO_3 := Aside0.mk (Kd.R_over' (rU HO_3.out) (Kd.R_typed (rU HO_14.out)) (by decide) hg); replace HO_5 := Aside0.mk (Kd.R_after (ok := (fun _ => True)) (by (with_reducible repeat (first | apply Kd.R_alloc | apply Kd.R_drewN | apply Kd.R_drew)); exact Kd.R_mono HO_5.out (fun _ hk => ⟨trivial, hk⟩)) hg hat); replace HB := Aside0.mk hb; have HO330 := Aside0.mk ho; clear HO_14; clear ho hb hg hat; obtain ⟨Ao69, co69, eo69⟩ := Kd.R_slice HO330.out; subst eo69) | (go_at_call 14; (with_reducible refine (spec_WorstOf.calls k6 _ _ t300 _ _ y328 t331 t332 _ ?side1 ?side2 ?side3 ?side4 A65.out).mono ?_); (case side1 => exact cU (Kd.R_reads' HO_3.out).2.2); (case side2 => exact (Kd.R_reads' HO_3.out).2.1); (case side3 => exact cU (Kd.R_reads' HO330.out).2.2); (case side4 => exact (Kd.R_reads' HO330.out).2.1); rintro e w70 ⟨rfl, hb⟩; replace HO_3 := Aside0.mk (Kd.R_below (rU HO_3.out) hb); replace HO_5 := Aside0.mk (Kd.R_below (rU HO_5.out) hb); replace HO330 := Aside0.mk (Kd.R_below (rU HO330.out) hb); replace HB := bH (lU) hb; (try clear hb)))
                            repeat (go_quiet (first | ((with_reducible refine gate_builtin (b := .append) (xs := #[.tmp 143, .tmp 154]) rfl ?_); (try (refine gate_guard (by rfl) ?_; dsimp only)); at_builtin; refine Kd.R_append k41 (w0 := w) w.heap.size rfl (.tmp 143) (.tmp 154) 35 41 (.agg #[(.int .i64 0), (.int .i64 0)]) 16 rfl Try.underlying35 info41 rfl (by decide) (by omega) u14 x14_6 (⟨ji61, rd t300 (ji61)⟩ : S41) [.int .i64 ji61, .int .i64 (rd t300 (ji61))] (fun k_ => some k_ ≠ (.slice Ao18 t304.length co18 : Value).ownBlock) (fun _ => False) rfl rfl ?aP (fun _ hk => hk.elim) ?aF ?aO ?aB ?aS ?aL ?_; (case aP => exact k41_mkM _ _ _ (⟨ji61, rd t300 (ji61)⟩ : S41)); (case aB => exact (lU)); (case aF => exact (fun k_ hk => Kd.fresh' (Kd.R_lt (rU HO_5.out)) k_ hk)); (case aO => exact (rU HO_14.out)); (case aS => exact (below_size (lU))); (case aL => have := LMc64.out; omega); intro v329 w68 ho hb hg hat; rw [← Ny328.out] at ho; replace HO_3 := Aside0.mk (Kd.R_over' (rU HO_3.out) (Kd.R_typed (rU HO_14.out)) (by decide) hg); replace HO_5 := Aside0.mk (Kd.R_after (ok := (fun _ => True)) (by (with_reducible repeat (first | apply Kd.R_alloc | apply Kd.R_drewN | apply Kd.R_drew)); exact Kd.R_mono HO_5.out (fun _ hk => ⟨trivial, hk⟩)) hg hat); replace HB := Aside0.mk hb; have HO330 := Aside0.mk ho; clear HO_14; clear ho hb hg hat; obtain ⟨Ao69, co69, eo69⟩ := Kd.R_slice HO330.out; subst eo69) | (go_at_call 14; (with_reducible refine (spec_WorstOf.calls k6 _ _ t300 _ _ y328 t331 t332 _ ?side1 ?side2 ?side3 ?side4 A65.out).mono ?_); (case side1 => exact cU (Kd.R_reads' HO_3.out).2.2); (case side2 => exact (Kd.R_reads' HO_3.out).2.1); (case side3 => exact cU (Kd.R_reads' HO330.out).2.2); (case side4 => exact (Kd.R_reads' HO330.out).2.1); rintro e w70 ⟨rfl, hb⟩; replace HO_3 := Aside0.mk (Kd.R_below (rU HO_3.out) hb); replace HO_5 := Aside0.mk (Kd.R_below (rU HO_5.out) hb); replace HO330 := Aside0.mk (Kd.R_below (rU HO330.out) hb); replace HB := bH (lU) hb; (try clear hb))); try go_wp2_with (first | ((with_reducible refine gate_builtin (b := .append) (xs := #[.tmp 143, .tmp 154]) rfl ?_); (try (refine gate_guard (by rfl) ?_; dsimp only)); at_builtin; refine Kd.R_append k41 (w0 := w) w.heap.size rfl (.tmp 143) (.tmp 154) 35 41 (.agg #[(.int .i64 0), (.int .i64 0)]) 16 rfl Try.underlying35 info41 rfl (by decide) (by omega) u14 x14_6 (⟨ji61, rd t300 (ji61)⟩ : S41) [.int .i64 ji61, .int .i64 (rd t300 (ji61))] (fun k_ => some k_ ≠ (.slice Ao18 t304.length co18 : Value).ownBlock) (fun _ => False) rfl rfl ?aP (fun _ hk => hk.elim) ?aF ?aO ?aB ?aS ?aL ?_; (case aP => exact k41_mkM _ _ _ (⟨ji61, rd t300 (ji61)⟩ : S41)); (case aB => exact (lU)); (case aF => exact (fun k_ hk => Kd.fresh' (Kd.R_lt (rU HO_5.out)) k_ hk)); (case aO => exact (rU HO_14.out)); (case aS => exact (below_size (lU))); (case aL => have := LMc64.out; omega); intro v329 w68 ho hb hg hat; rw [← Ny328.out] at ho; replace HO_3 := Aside0.mk (Kd.R_over' (rU HO_3.out) (Kd.R_typed (rU HO_14.out)) (by decide) hg); replace HO_5 := Aside0.mk (Kd.R_after (ok := (fun _ => True)) (by (with_reducible repeat (first | apply Kd.R_alloc | apply Kd.R_drewN | apply Kd.R_drew)); exact Kd.R_mono HO_5.out (fun _ hk => ⟨trivial, hk⟩)) hg hat); replace HB := Aside0.mk hb; have HO330 := Aside0.mk ho; clear HO_14; clear ho hb hg hat; obtain ⟨Ao69, co69, eo69⟩ := Kd.R_slice HO330.out; subst eo69) | (go_at_call 14; (with_reducible refine (spec_WorstOf.calls k6 _ _ t300 _ _ y328 t331 t332 _ ?side1 ?side2 ?side3 ?side4 A65.out).mono ?_); (case side1 => exact cU (Kd.R_reads' HO_3.out).2.2); (case side2 => exact (Kd.R_reads' HO_3.out).2.1); (case side3 => exact cU (Kd.R_reads' HO330.out).2.2); (case side4 => exact (Kd.R_reads' HO330.out).2.1); rintro e w70 ⟨rfl, hb⟩; replace HO_3 := Aside0.mk (Kd.R_below (rU HO_3.out) hb); replace HO_5 := Aside0.mk (Kd.R_below (rU HO_5.out) hb); replace HO330 := Aside0.mk (Kd.R_below (rU HO330.out) hb); replace HB := bH (lU) hb; (try clear hb))))
                            go_ret
                            exact ⟨by first | rfl | (simp [errW_none, errW_some] <;> rfl) | (simp only [← hji45, ← hji47, ← hji61]; first | rfl | (simp [errW_none, errW_some] <;> rfl)) | (simp [*, errW_none, errW_some] <;> rfl), lU⟩
                           ·rw [if_neg c67] at H
                            have c67b0 : decide ((y328.length : Int) < (t304.length : Int)) = false := decide_eq_false c67
                            have c67b1 : decide (y328.length < t304.length) = false := decide_eq_false (fun h => c67 (Int.ofNat_lt.mpr h))
                            clear c67
                            have H' := Aside0.mk H
                            clear H
                            have p327 : 0 ≤ ((ji61) : Int) := of_decide_eq_true hE
                            have q327 : (ji61) < (t300.length : Int) := of_decide_eq_true hE
                            obtain ⟨ad327, e327, hx327_0⟩ := Kd.at_int (Kd.R_reads' HO_3.out).2.2 (ji61) p327 q327
                            obtain rfl : ad319 = ad327 := (by injection e327)
                            replace p327 := eq_true p327
                            replace q327 := eq_true q327
                            go_wp2_with (first | ((with_reducible refine gate_builtin (b := .append) (xs := #[.tmp 143, .tmp 154]) rfl ?_); (try (refine gate_guard (by rfl) ?_; dsimp only)); at_builtin; refine Kd.R_append k41 (w0 := w) w.heap.size rfl (.tmp 143) (.tmp 154) 35 41 (.agg #[(.int .i64 0), (.int .i64 0)]) 16 rfl Try.underlying35 info41 rfl (by decide) (by omega) u14 x14_6 (⟨ji61, rd t300 (ji61)⟩ : S41) [.int .i64 ji61, .int .i64 (rd t300 (ji61))] (fun k_ => some k_ ≠ (.slice Ao18 t304.length co18 : Value).ownBlock) (fun _ => False) rfl rfl ?aP (fun _ hk => hk.elim) ?aF ?aO ?aB ?aS ?aL ?_; (case aP => exact k41_mkM _ _ _ (⟨ji61, rd t300 (ji61)⟩ : S41)); (case aB => exact (lU)); (case aF => exact (fun k_ hk => Kd.fresh' (Kd.R_lt (rU HO_5.out)) k_ hk)); (case aO => exact (rU HO_14.out)); (case aS => exact (below_size (lU))); (case aL => have := LMc64.out; omega); intro v329 w71 ho hb hg hat; rw [← Ny328.out] at ho; replace HO_3 := Aside0.mk (Kd.R_over' (rU HO_3.out) (Kd.R_typed (rU HO_14.out)) (by decide) hg); replace HO_5 := Aside0.mk (Kd.R_after (ok := (fun _ => True)) (by (with_reducible repeat (first | apply Kd.R_alloc | apply Kd.R_drewN | apply Kd.R_drew)); exact Kd.R_mono HO_5.out (fun _ hk => ⟨trivial, hk⟩)) hg hat); replace HB := Aside0.mk hb; have HO330 := Aside0.mk ho; clear HO_14; clear ho hb hg hat; obtain ⟨Ao72, co72, eo72⟩ := Kd.R_slice HO330.out; subst eo72) | (go_at_call 14; (with_reducible refine (spec_WorstOf.calls k6 _ _ t300 _ _ y328 t331 t332 _ ?side1 ?side2 ?side3 ?side4 A65.out).mono ?_); (case side1 => exact cU (Kd.R_reads' HO_3.out).2.2); (case side2 => exact (Kd.R_reads' HO_3.out).2.1); (case side3 => exact cU (Kd.R_reads' HO330.out).2.2); (case side4 => exact (Kd.R_reads' HO330.out).2.1); rintro e w73 ⟨rfl, hb⟩; replace HO_3 := Aside0.mk (Kd.R_below (rU HO_3.out) hb); replace HO_5 := Aside0.mk (Kd.R_below (rU HO_5.out) hb); replace HO330 := Aside0.mk (Kd.R_below (rU HO330.out) hb); replace HB := bH (lU) hb; (try clear hb)))
                            repeat (go_quiet (first | ((with_reducible refine gate_builtin (b := .append) (xs := #[.tmp 143, .tmp 154]) rfl ?_); (try (refine gate_guard (by rfl) ?_; dsimp only)); at_builtin; refine Kd.R_append k41 (w0 := w) w.heap.size rfl (.tmp 143) (.tmp 154) 35 41 (.agg #[(.int .i64 0), (.int .i64 0)]) 16 rfl Try.underlying35 info41 rfl (by decide) (by omega) u14 x14_6 (⟨ji61, rd t300 (ji61)⟩ : S41) [.int .i64 ji61, .int .i64 (rd t300 (ji61))] (fun k_ => some k_ ≠ (.slice Ao18 t304.length co18 : Value).ownBlock) (fun _ => False) rfl rfl ?aP (fun _ hk => hk.elim) ?aF ?aO ?aB ?aS ?aL ?_; (case aP => exact k41_mkM _ _ _ (⟨ji61, rd t300 (ji61)⟩ : S41)); (case aB => exact (lU)); (case aF => exact (fun k_ hk => Kd.fresh' (Kd.R_lt (rU HO_5.out)) k_ hk)); (case aO => exact (rU HO_14.out)); (case aS => exact (below_size (lU))); (case aL => have := LMc64.out; omega); intro v329 w71 ho hb hg hat; rw [← Ny328.out] at ho; replace HO_3 := Aside0.mk (Kd.R_over' (rU HO_3.out) (Kd.R_typed (rU HO_14.out)) (by decide) hg); replace HO_5 := Aside0.mk (Kd.R_after (ok := (fun _ => True)) (by (with_reducible repeat (first | apply Kd.R_alloc | apply Kd.R_drewN | apply Kd.R_drew)); exact Kd.R_mono HO_5.out (fun _ hk => ⟨trivial, hk⟩)) hg hat); replace HB := Aside0.mk hb; have HO330 := Aside0.mk ho; clear HO_14; clear ho hb hg hat; obtain ⟨Ao72, co72, eo72⟩ := Kd.R_slice HO330.out; subst eo72) | (go_at_call 14; (with_reducible refine (spec_WorstOf.calls k6 _ _ t300 _ _ y328 t331 t332 _ ?side1 ?side2 ?side3 ?side4 A65.out).mono ?_); (case side1 => exact cU (Kd.R_reads' HO_3.out).2.2); (case side2 => exact (Kd.R_reads' HO_3.out).2.1); (case side3 => exact cU (Kd.R_reads' HO330.out).2.2); (case side4 => exact (Kd.R_reads' HO330.out).2.1); rintro e w73 ⟨rfl, hb⟩; replace HO_3 := Aside0.mk (Kd.R_below (rU HO_3.out) hb); replace HO_5 := Aside0.mk (Kd.R_below (rU HO_5.out) hb); replace HO330 := Aside0.mk (Kd.R_below (rU HO330.out) hb); replace HB := bH (lU) hb; (try clear hb))); try go_wp2_with (first | ((with_reducible refine gate_builtin (b := .append) (xs := #[.tmp 143, .tmp 154]) rfl ?_); (try (refine gate_guard (by rfl) ?_; dsimp only)); at_builtin; refine Kd.R_append k41 (w0 := w) w.heap.size rfl (.tmp 143) (.tmp 154) 35 41 (.agg #[(.int .i64 0), (.int .i64 0)]) 16 rfl Try.underlying35 info41 rfl (by decide) (by omega) u14 x14_6 (⟨ji61, rd t300 (ji61)⟩ : S41) [.int .i64 ji61, .int .i64 (rd t300 (ji61))] (fun k_ => some k_ ≠ (.slice Ao18 t304.length co18 : Value).ownBlock) (fun _ => False) rfl rfl ?aP (fun _ hk => hk.elim) ?aF ?aO ?aB ?aS ?aL ?_; (case aP => exact k41_mkM _ _ _ (⟨ji61, rd t300 (ji61)⟩ : S41)); (case aB => exact (lU)); (case aF => exact (fun k_ hk => Kd.fresh' (Kd.R_lt (rU HO_5.out)) k_ hk)); (case aO => exact (rU HO_14.out)); (case aS => exact (below_size (lU))); (case aL => have := LMc64.out; omega); intro v329 w71 ho hb hg hat; rw [← Ny328.out] at ho; replace HO_3 := Aside0.mk (Kd.R_over' (rU HO_3.out) (Kd.R_typed (rU HO_14.out)) (by decide) hg); replace HO_5 := Aside0.mk (Kd.R_after (ok := (fun _ => True)) (by (with_reducible repeat (first | apply Kd.R_alloc | apply Kd.R_drewN | apply Kd.R_drew)); exact Kd.R_mono HO_5.out (fun _ hk => ⟨trivial, hk⟩)) hg hat); replace HB := Aside0.mk hb; have HO330 := Aside0.mk ho; clear HO_14; clear ho hb hg hat; obtain ⟨Ao72, co72, eo72⟩ := Kd.R_slice HO330.out; subst eo72) | (go_at_call 14; (with_reducible refine (spec_WorstOf.calls k6 _ _ t300 _ _ y328 t331 t332 _ ?side1 ?side2 ?side3 ?side4 A65.out).mono ?_); (case side1 => exact cU (Kd.R_reads' HO_3.out).2.2); (case side2 => exact (Kd.R_reads' HO_3.out).2.1); (case side3 => exact cU (Kd.R_reads' HO330.out).2.2); (case side4 => exact (Kd.R_reads' HO330.out).2.1); rintro e w73 ⟨rfl, hb⟩; replace HO_3 := Aside0.mk (Kd.R_below (rU HO_3.out) hb); replace HO_5 := Aside0.mk (Kd.R_below (rU HO_5.out) hb); replace HO330 := Aside0.mk (Kd.R_below (rU HO330.out) hb); replace HB := bH (lU) hb; (try clear hb))))
                            go_roundg k6
                            case measure => have := HJ5.out; have := HJ16.out; have := HK3.out; have := HJ41.out; have := HK5.out; have := HK6.out; omega
                            case rel => exact ⟨(wrap64 (x13_5 + 1)), tE, H', ⟨by have := HJ5.out; have := HJ16.out; have := HK3.out; have := HJ41.out; have := HK5.out; have := HK6.out; omega⟩, ⟨by (with_reducible repeat (first | apply Kd.R_alloc | apply Kd.R_drewN | apply Kd.R_drew)); exact HO_3.out⟩, ⟨by (with_reducible repeat (first | apply Kd.R_alloc | apply Kd.R_drewN | apply Kd.R_drew)); exact Kd.R_mono HO_5.out (fun _ hk => trivial)⟩, ⟨by repeat (first | (with_reducible first | exact HB.out | apply below_alloc | apply pw_below_drewN | apply below_drew1) | exact HB.out)⟩⟩
                          ·rw [if_neg c66] at H
                           have c66b0 : decide (t331 ≤ t301) = false := decide_eq_false c66
                           clear c66
                           have H' := Aside0.mk H
                           clear H
                           have p327 : 0 ≤ ((ji61) : Int) := of_decide_eq_true hE
                           have q327 : (ji61) < (t300.length : Int) := of_decide_eq_true hE
                           obtain ⟨ad327, e327, hx327_0⟩ := Kd.at_int (Kd.R_reads' HO_3.out).2.2 (ji61) p327 q327
                           obtain rfl : ad319 = ad327 := (by injection e327)
                           replace p327 := eq_true p327
                           replace q327 := eq_true q327
                           go_wp2_with (first | ((with_reducible refine gate_builtin (b := .append) (xs := #[.tmp 143, .tmp 154]) rfl ?_); (try (refine gate_guard (by rfl) ?_; dsimp only)); at_builtin; refine Kd.R_append k41 (w0 := w) w.heap.size rfl (.tmp 143) (.tmp 154) 35 41 (.agg #[(.int .i64 0), (.int .i64 0)]) 16 rfl Try.underlying35 info41 rfl (by decide) (by omega) u14 x14_6 (⟨ji61, rd t300 (ji61)⟩ : S41) [.int .i64 ji61, .int .i64 (rd t300 (ji61))] (fun k_ => some k_ ≠ (.slice Ao18 t304.length co18 : Value).ownBlock) (fun _ => False) rfl rfl ?aP (fun _ hk => hk.elim) ?aF ?aO ?aB ?aS ?aL ?_; (case aP => exact k41_mkM _ _ _ (⟨ji61, rd t300 (ji61)⟩ : S41)); (case aB => exact (lU)); (case aF => exact (fun k_ hk => Kd.fresh' (Kd.R_lt (rU HO_5.out)) k_ hk)); (case aO => exact (rU HO_14.out)); (case aS => exact (below_size (lU))); (case aL => have := LMc64.out; omega); intro v329 w74 ho hb hg hat; rw [← Ny328.out] at ho; replace HO_3 := Aside0.mk (Kd.R_over' (rU HO_3.out) (Kd.R_typed (rU HO_14.out)) (by decide) hg); replace HO_5 := Aside0.mk (Kd.R_after (ok := (fun _ => True)) (by (with_reducible repeat (first | apply Kd.R_alloc | apply Kd.R_drewN | apply Kd.R_drew)); exact Kd.R_mono HO_5.out (fun _ hk => ⟨trivial, hk⟩)) hg hat); replace HB := Aside0.mk hb; have HO330 := Aside0.mk ho; clear HO_14; clear ho hb hg hat; obtain ⟨Ao75, co75, eo75⟩ := Kd.R_slice HO330.out; subst eo75) | (go_at_call 14; (with_reducible refine (spec_WorstOf.calls k6 _ _ t300 _ _ y328 t331 t332 _ ?side1 ?side2 ?side3 ?side4 A65.out).mono ?_); (case side1 => exact cU (Kd.R_reads' HO_3.out).2.2); (case side2 => exact (Kd.R_reads' HO_3.out).2.1); (case side3 => exact cU (Kd.R_reads' HO330.out).2.2); (case side4 => exact (Kd.R_reads' HO330.out).2.1); rintro e w76 ⟨rfl, hb⟩; replace HO_3 := Aside0.mk (Kd.R_below (rU HO_3.out) hb); replace HO_5 := Aside0.mk (Kd.R_below (rU HO_5.out) hb); replace HO330 := Aside0.mk (Kd.R_below (rU HO330.out) hb); replace HB := bH (lU) hb; (try clear hb)))
                           repeat (go_quiet (first | ((with_reducible refine gate_builtin (b := .append) (xs := #[.tmp 143, .tmp 154]) rfl ?_); (try (refine gate_guard (by rfl) ?_; dsimp only)); at_builtin; refine Kd.R_append k41 (w0 := w) w.heap.size rfl (.tmp 143) (.tmp 154) 35 41 (.agg #[(.int .i64 0), (.int .i64 0)]) 16 rfl Try.underlying35 info41 rfl (by decide) (by omega) u14 x14_6 (⟨ji61, rd t300 (ji61)⟩ : S41) [.int .i64 ji61, .int .i64 (rd t300 (ji61))] (fun k_ => some k_ ≠ (.slice Ao18 t304.length co18 : Value).ownBlock) (fun _ => False) rfl rfl ?aP (fun _ hk => hk.elim) ?aF ?aO ?aB ?aS ?aL ?_; (case aP => exact k41_mkM _ _ _ (⟨ji61, rd t300 (ji61)⟩ : S41)); (case aB => exact (lU)); (case aF => exact (fun k_ hk => Kd.fresh' (Kd.R_lt (rU HO_5.out)) k_ hk)); (case aO => exact (rU HO_14.out)); (case aS => exact (below_size (lU))); (case aL => have := LMc64.out; omega); intro v329 w74 ho hb hg hat; rw [← Ny328.out] at ho; replace HO_3 := Aside0.mk (Kd.R_over' (rU HO_3.out) (Kd.R_typed (rU HO_14.out)) (by decide) hg); replace HO_5 := Aside0.mk (Kd.R_after (ok := (fun _ => True)) (by (with_reducible repeat (first | apply Kd.R_alloc | apply Kd.R_drewN | apply Kd.R_drew)); exact Kd.R_mono HO_5.out (fun _ hk => ⟨trivial, hk⟩)) hg hat); replace HB := Aside0.mk hb; have HO330 := Aside0.mk ho; clear HO_14; clear ho hb hg hat; obtain ⟨Ao75, co75, eo75⟩ := Kd.R_slice HO330.out; subst eo75) | (go_at_call 14; (with_reducible refine (spec_WorstOf.calls k6 _ _ t300 _ _ y328 t331 t332 _ ?side1 ?side2 ?side3 ?side4 A65.out).mono ?_); (case side1 => exact cU (Kd.R_reads' HO_3.out).2.2); (case side2 => exact (Kd.R_reads' HO_3.out).2.1); (case side3 => exact cU (Kd.R_reads' HO330.out).2.2); (case side4 => exact (Kd.R_reads' HO330.out).2.1); rintro e w76 ⟨rfl, hb⟩; replace HO_3 := Aside0.mk (Kd.R_below (rU HO_3.out) hb); replace HO_5 := Aside0.mk (Kd.R_below (rU HO_5.out) hb); replace HO330 := Aside0.mk (Kd.R_below (rU HO330.out) hb); replace HB := bH (lU) hb; (try clear hb))); try go_wp2_with (first | ((with_reducible refine gate_builtin (b := .append) (xs := #[.tmp 143, .tmp 154]) rfl ?_); (try (refine gate_guard (by rfl) ?_; dsimp only)); at_builtin; refine Kd.R_append k41 (w0 := w) w.heap.size rfl (.tmp 143) (.tmp 154) 35 41 (.agg #[(.int .i64 0), (.int .i64 0)]) 16 rfl Try.underlying35 info41 rfl (by decide) (by omega) u14 x14_6 (⟨ji61, rd t300 (ji61)⟩ : S41) [.int .i64 ji61, .int .i64 (rd t300 (ji61))] (fun k_ => some k_ ≠ (.slice Ao18 t304.length co18 : Value).ownBlock) (fun _ => False) rfl rfl ?aP (fun _ hk => hk.elim) ?aF ?aO ?aB ?aS ?aL ?_; (case aP => exact k41_mkM _ _ _ (⟨ji61, rd t300 (ji61)⟩ : S41)); (case aB => exact (lU)); (case aF => exact (fun k_ hk => Kd.fresh' (Kd.R_lt (rU HO_5.out)) k_ hk)); (case aO => exact (rU HO_14.out)); (case aS => exact (below_size (lU))); (case aL => have := LMc64.out; omega); intro v329 w74 ho hb hg hat; rw [← Ny328.out] at ho; replace HO_3 := Aside0.mk (Kd.R_over' (rU HO_3.out) (Kd.R_typed (rU HO_14.out)) (by decide) hg); replace HO_5 := Aside0.mk (Kd.R_after (ok := (fun _ => True)) (by (with_reducible repeat (first | apply Kd.R_alloc | apply Kd.R_drewN | apply Kd.R_drew)); exact Kd.R_mono HO_5.out (fun _ hk => ⟨trivial, hk⟩)) hg hat); replace HB := Aside0.mk hb; have HO330 := Aside0.mk ho; clear HO_14; clear ho hb hg hat; obtain ⟨Ao75, co75, eo75⟩ := Kd.R_slice HO330.out; subst eo75) | (go_at_call 14; (with_reducible refine (spec_WorstOf.calls k6 _ _ t300 _ _ y328 t331 t332 _ ?side1 ?side2 ?side3 ?side4 A65.out).mono ?_); (case side1 => exact cU (Kd.R_reads' HO_3.out).2.2); (case side2 => exact (Kd.R_reads' HO_3.out).2.1); (case side3 => exact cU (Kd.R_reads' HO330.out).2.2); (case side4 => exact (Kd.R_reads' HO330.out).2.1); rintro e w76 ⟨rfl, hb⟩; replace HO_3 := Aside0.mk (Kd.R_below (rU HO_3.out) hb); replace HO_5 := Aside0.mk (Kd.R_below (rU HO_5.out) hb); replace HO330 := Aside0.mk (Kd.R_below (rU HO330.out) hb); replace HB := bH (lU) hb; (try clear hb))))
                           go_roundg k6
                           case measure => have := HJ5.out; have := HJ16.out; have := HK3.out; have := HJ41.out; have := HK5.out; have := HK6.out; omega
                           case rel => exact ⟨(wrap64 (x13_5 + 1)), tE, H', ⟨by have := HJ5.out; have := HJ16.out; have := HK3.out; have := HJ41.out; have := HK5.out; have := HK6.out; omega⟩, ⟨by (with_reducible repeat (first | apply Kd.R_alloc | apply Kd.R_drewN | apply Kd.R_drew)); exact HO_3.out⟩, ⟨by (with_reducible repeat (first | apply Kd.R_alloc | apply Kd.R_drewN | apply Kd.R_drew)); exact Kd.R_mono HO_5.out (fun _ hk => trivial)⟩, ⟨by repeat (first | (with_reducible first | exact HB.out | apply below_alloc | apply pw_below_drewN | apply below_drew1) | exact HB.out)⟩⟩
                         ·rw [if_neg c64] at H
                          exact absurd H (by simp)
                        ·rw [if_neg c63] at H
                         exact absurd H (by simp)
                       ·rw [if_neg c62] at H
                        exact absurd H (by simp)
                   ·rw [if_neg c49] at H
                    exact absurd H (by simp)
                  ·rw [if_neg c48] at H
                   have c48b0 : decide (x13_5 < (ji47)) = false := decide_eq_false c48
                   clear c48
                   obtain rfl := Option.some.inj H
                   go_wp2
                   repeat (go_quiet (fail); try go_wp2)
                   go_ret
                   exact ⟨by first | rfl | (simp [errW_none, errW_some] <;> rfl) | (simp only [← hji45, ← hji47]; first | rfl | (simp [errW_none, errW_some] <;> rfl)) | (simp [*, errW_none, errW_some] <;> rfl), lU⟩
                 ·rw [if_neg c46] at H
                  exact absurd H (by simp)
     ·replace c15 := Bool.eq_false_iff.mpr c15
      subst c15
      have H1 : (some true) = some r := by rw [if_neg (show ¬ (false = true) by decide)] at H; exact H
      clear H
      have H := H1
      clear H1
      obtain rfl := Option.some.inj H
      go_wp2
      repeat (go_quiet (fail); try go_wp2)
      go_ret
      exact ⟨eE, lU⟩
def laws_FnKeys.Pure : Prop := ∀ (l0 : List Int), l0.length ≤ maxLen → l0.length * 1 ≤ 140737488351232 → (∀ x ∈ l0, (Lit.int .u8 x).wf = true) → ∃ k, laws_FnKeys.f k l0 = some true
end Go.Proofs.Ytbamdbdcglohmaa.PFnKeys
namespace Go.Proofs.YtbamdbdcglohmaaO
open Go.ChangeShapes Go.WideShapes Go.Proofs.YtbamdbdcglohmaaW.PrintWords Go.RowKit
def InU8 (n : Int) : Prop := 0 ≤ n ∧ n ≤ 255
def Opens {α : Type} (P : Program) (t : TypeId) (d : Kd α) (g : α → Prop) : Prop :=
  ∀ {H : Type} (enc : TypeId × Value → H) (w : World) (fuel : Nat) (cs : List Value) (y : DataW H) (ps : List MemPlace),
    DataW.trod enc P w 0 (fun _ => true) true fuel t cs = some (y, ps) → (∀ n ∈ y.weights P t, n ≤ reachBytes) → ∃ x, d.K w x cs ∧ g x
theorem Opens.imp {α : Type} {P : Program} {t : TypeId} {d : Kd α} {g g' : α → Prop} (h : Opens P t d g) (k : ∀ x, g x → g' x) : Opens P t d g' := by
  intro H enc w fuel cs y ps ht hw
  obtain ⟨x, hx, hg⟩ := h enc w fuel cs y ps ht hw
  exact ⟨x, hx, k x hg⟩
theorem opens_int {P : Program} {t : TypeId} {k : IntKind} (ht : P.underlying t = some (.int k)) : Opens P t (Kd.int k) (fun n => (Lit.int k n).wf = true) := by
  intro H enc w fuel cs y ps h _
  obtain ⟨n, rfl, _, hw⟩ := DataW.trod_int ht h
  exact ⟨n, rfl, hw⟩
theorem wf_u8 {n : Int} (h : (Lit.int .u8 n).wf = true) : InU8 n := bounds_u8 h
theorem opens_u8 {P : Program} {t : TypeId} (ht : P.underlying t = some (.int .u8)) : Opens P t (Kd.int .u8) InU8 := Opens.imp (opens_int ht) fun _ h => wf_u8 h
theorem exists_list {α : Type} (p : Nat → α → Prop) : ∀ n : Nat, (∀ i, i < n → ∃ x, p i x) → ∃ xs : List α, xs.length = n ∧ ∀ i x, xs[i]? = some x → p i x
  | 0, _ => ⟨[], rfl, fun i x h => by simp at h⟩
  | n + 1, h => by
    obtain ⟨xs, hl, hx⟩ := exists_list p n (fun i hi => h i (by omega))
    obtain ⟨x, hp⟩ := h n (by omega)
    refine ⟨xs ++ [x], by simp [hl], fun i y hy => ?_⟩
    rcases Nat.lt_or_ge i xs.length with hi | hi
    · rw [List.getElem?_append_left hi] at hy
      exact hx i y hy
    · have : i = n := by
        have := (List.getElem?_eq_some_iff.1 hy).1
        rw [List.length_append, List.length_singleton] at this
        omega
      subst this
      rw [List.getElem?_append_right hi] at hy
      rw [hl] at hy
      simp at hy
      subst hy
      exact hp
theorem add_add (ad : Addr) (i j : Nat) : (ad.add i).add j = ad.add (i + j) := by
  unfold Addr.add
  by_cases h1 : i = 0 <;> by_cases h2 : j = 0 <;> simp [h1, h2, Nat.add_assoc]
theorem weightsAll_mem {H : Type} {P : Program} {e : TypeId} : ∀ {l : List (DataW H)} {d : DataW H}, d ∈ l → ∀ n ∈ d.weights P e, n ∈ DataW.weightsAll P e l
  | [], d, h, _, _ => by simp at h
  | x :: r, d, h, n, hn => by
    simp only [DataW.weightsAll, List.mem_append]
    rcases List.mem_cons.1 h with rfl | h
    · exact .inl hn
    · exact .inr (weightsAll_mem h n hn)
theorem opens_slice {α : Type} {P : Program} {t e : TypeId} {d : Kd α} {g : α → Prop} {B : Nat} (ht : P.underlying t = some (.slice e)) (hs : P.cellsOf e = d.sz) (hB : P.bytesOf e = B) (h : Opens P e d g) :
    Opens P t (Kd.slice e d) (fun xs => xs.length * B ≤ 140737488351232 ∧ ∀ x ∈ xs, g x) := by
  intro H enc w fuel cs y ps hy hw
  rcases DataW.trod_slice ht hy with ⟨rfl, _⟩ | ⟨a, len, cap, elems, rest, n, rfl, rfl, hx, _, hlc, hcm, hel, hget, _, _⟩
  · exact ⟨[], ⟨none, 0, rfl, Nat.le_refl _, Kd.C_nil d w⟩, by simp⟩
  · obtain ⟨rfl, _⟩ := Prod.mk.inj hx
    simp only [DataW.weights, ht] at hw
    have hlen : len * B ≤ 140737488351232 := by
      have := hw _ List.mem_cons_self
      simp only [List.length_map, hB] at this
      have h2 : len * B ≤ (elems.length + rest.length) * B := Nat.mul_le_mul_right _ (by omega)
      exact Nat.le_trans h2 this
    have key : ∀ i, i < len → ∃ x, (∃ c, c.length = d.sz ∧ d.K w x c ∧ ∀ j u, c[j]? = some u → w.cell? (a.add (i * d.sz + j)) = some u) ∧ g x := by
      intro i hi
      have hg := hget i hi
      rw [List.getElem?_eq_getElem (by omega), Option.bind_eq_some_iff] at hg
      obtain ⟨c, hc, hd⟩ := hg
      obtain ⟨_, hcl, hcell⟩ := World.cells?_some hc
      obtain ⟨x, hK, hgx⟩ := h enc w n c _ _ hd (fun m hm => hw m (List.mem_cons_of_mem _ (List.mem_append_left _ (weightsAll_mem (List.mem_map_of_mem (List.getElem_mem _)) m hm))))
      refine ⟨x, ⟨c, hcl.trans hs, hK, fun j u hj => ?_⟩, hgx⟩
      have hjl : j < P.cellsOf e := by
        have := (List.getElem?_eq_some_iff.1 hj).1
        omega
      have := hcell j hjl
      rw [add_add, hj, hs] at this
      exact this
    obtain ⟨xs, hxl, hxs⟩ := exists_list _ len key
    refine ⟨xs, ⟨some a, cap, by rw [hxl], by omega, hxl ▸ ⟨hxl, by simp only [maxLen] at hcm; omega, fun _ => ⟨a, rfl, fun j p hp => (hxs j p hp).1⟩⟩⟩, by rw [hxl]; exact hlen, fun x hx => ?_⟩
    obtain ⟨i, hi, rfl⟩ := List.getElem_of_mem hx
    exact (hxs i _ (List.getElem?_eq_getElem hi)).2
theorem weights_of {H : Type} {P : Program} {ts : List TypeId} {ds : List (DataW H)} {j : Nat} {t : TypeId} {d : DataW H} (hsz : (DataW.weightsEach P ts ds).all (· ≤ reachBytes) = true) (ht : ts[j]? = some t) (hd : ds[j]? = some d) : ∀ n ∈ d.weights P t, n ≤ reachBytes := by
  intro n hn
  have := List.all_eq_true.1 hsz n (DataW.weights_mem_each ht hd n hn)
  simpa using this
theorem open_slice {α H : Type} {enc : TypeId × Value → H} {P : Program} {W : World} {t e : TypeId} {d : Kd α} {g : List α → Prop} {a : Option Addr} {len cap : Nat} {y : DataW H} {ps : List MemPlace} (h : Opens P t (Kd.slice e d) g)
    (hy : DataW.Trod enc P W 0 (fun _ => true) true t (.slice a len cap) y ps) (hw : ∀ n ∈ y.weights P t, n ≤ reachBytes) : ∃ xs : List α, len = xs.length ∧ xs.length ≤ cap ∧ d.C W a xs.length xs ∧ g xs := by
  obtain ⟨fuel, hf⟩ := hy
  obtain ⟨xs, ⟨A, c, he, hl, hC⟩, hg⟩ := h enc W fuel _ y ps hf hw
  have he' : Value.slice a len cap = .slice A xs.length c := by simpa [Value.cells] using he
  injection he' with h1 h2 h3
  subst h1 h2 h3
  exact ⟨xs, rfl, hl, hC, hg⟩
end Go.Proofs.YtbamdbdcglohmaaO
namespace Go.Proofs.Ytbamdbdcglohmaa.OFnKeys
open Go.RowKit Go.Proofs.Ytbamdbdcglohmaa.PFnKeys Go.Proofs.YtbamdbdcglohmaaW.PrintWords Go.Proofs.YtbamdbdcglohmaaO
end Go.Proofs.Ytbamdbdcglohmaa.OFnKeys
namespace Go.Proofs.YtbamdbdcglohmaaO
open Go.RowKit Go.Proofs.YtbamdbdcglohmaaW.PrintWords Go.Proofs.YtbamdbdcglohmaaW.PrintLast Go.Proofs.YtbamdbdcglohmaaW.PrintMore
theorem w64 {n : Int} (h : -9223372036854775808 ≤ n) (k : n ≤ 9223372036854775807) : wrap64 n = n := by unfold wrap64; omega
theorem w64s (i : Nat) (h : i < 4611686018427387904) : wrap64 ((i : Int) + 1) = ((i + 1 : Nat) : Int) := by unfold wrap64; omega
theorem ev_eq {α : Type} {x : Option α} {r : α} (h : x = some r) : Ev (fun _ => x) r := ⟨0, fun _ _ => h⟩
theorem ev_some {α : Type} {x r : α} (h : x = r) : Ev (fun _ => some x) r := ⟨0, fun _ _ => by rw [h]⟩
theorem ev_pos {α : Type} {c : Prop} [Decidable c] {f g : Nat → Option α} {r : α} (h : c) (k : Ev f r) : Ev (fun n => if c then f n else g n) r := by
  obtain ⟨K, hK⟩ := k
  exact ⟨K, fun n hn => (if_pos h).trans (hK n hn)⟩
theorem ev_neg {α : Type} {c : Prop} [Decidable c] {f g : Nat → Option α} {r : α} (h : ¬ c) (k : Ev g r) : Ev (fun n => if c then f n else g n) r := by
  obtain ⟨K, hK⟩ := k
  exact ⟨K, fun n hn => (if_neg h).trans (hK n hn)⟩
theorem ev_ite {α : Type} {c : Prop} [Decidable c] {f g : Nat → Option α} {r : α} (h : c → Ev f r) (k : ¬ c → Ev g r) : Ev (fun n => if c then f n else g n) r := by
  by_cases hc : c
  · exact ev_pos hc (h hc)
  · exact ev_neg hc (k hc)
theorem ev_bindc {α β : Type} {x : Option α} {f : Nat → α → Option β} {a : α} {r : β} (h : x = some a) (k : Ev (fun n => f n a) r) : Ev (fun n => x.bind (f n)) r := by
  subst h; exact k
theorem ev_for {σ ρ : Type} (n : Nat) (L : Nat → Nat → σ → Option ρ) (I : Nat → σ → Prop) (Q : ρ → Prop)
    (hend : ∀ s, I n s → ∃ r, Ev (fun k => L k n s) r ∧ Q r)
    (hstep : ∀ i s, i < n → I i s → (∃ r, Ev (fun k => L k i s) r ∧ Q r) ∨ ∃ s', I (i + 1) s' ∧ ∀ r, Ev (fun k => L k (i + 1) s') r → Ev (fun k => L k i s) r) :
    ∀ i s, i ≤ n → I i s → ∃ r, Ev (fun k => L k i s) r ∧ Q r := by
  have key : ∀ d i s, i + d = n → I i s → ∃ r, Ev (fun k => L k i s) r ∧ Q r := by
    intro d
    induction d with
    | zero => intro i s hi h; obtain rfl : i = n := by omega
              exact hend s h
    | succ d ih =>
      intro i s hi h
      rcases hstep i s (by omega) h with h' | ⟨s', hI, hr⟩
      · exact h'
      · obtain ⟨r, hr', hQ⟩ := ih (i + 1) s' (by omega) hI
        exact ⟨r, hr r hr', hQ⟩
  intro i s hi h
  exact key (n - i) i s (by omega) h
theorem ev_for1 {σ ρ : Type} (n : Nat) (L : Nat → Nat → σ → Option ρ) (I : Nat → σ → Prop) (a : ρ)
    (hend : ∀ s, I n s → Ev (fun k => L k n s) a)
    (hstep : ∀ i s, i < n → I i s → Ev (fun k => L k i s) a ∨ ∃ s', I (i + 1) s' ∧ ∀ r, Ev (fun k => L k (i + 1) s') r → Ev (fun k => L k i s) r) :
    ∀ i s, i ≤ n → I i s → Ev (fun k => L k i s) a := by
  intro i s hi h
  obtain ⟨r, hr, rfl⟩ := ev_for n L I (fun r => r = a) (fun s hs => ⟨a, hend s hs, rfl⟩) (fun i s hi hs => (hstep i s hi hs).imp (fun h => ⟨a, h, rfl⟩) id) i s hi h
  exact hr
theorem rd_nat (xs : List Int) (i : Nat) : rd xs (i : Int) = xs.getD i 0 := by simp [rd]
theorem rd_get {xs : List Int} {i : Nat} (h : i < xs.length) : rd xs (i : Int) = xs[i] := by simp [rd, List.getD_eq_getElem?_getD, h]
theorem getD_get {α : Type} {d : α} {xs : List α} {i : Nat} (h : i < xs.length) : xs.getD (i : Int).toNat d = xs[i] := by simp [List.getD_eq_getElem?_getD, h]
theorem bool_of (P : Prop) : ∃ b : Bool, b = true ↔ P := ⟨@decide P (Classical.propDecidable P), by simp⟩
theorem bool_false {P : Prop} {b : Bool} (h : b = true ↔ P) (k : ¬ P) : b = false := by
  cases b with
  | false => rfl
  | true => exact absurd (h.1 rfl) k
theorem ev_all (n : Nat) (L : Nat → Nat → Option Bool) (ok : Nat → Prop) (e b : Bool) (hb : b = true ↔ e = true ∧ ∀ i, i < n → ok i) (hend : Ev (fun k => L k n) e)
    (hyes : ∀ i, i < n → (∀ j, j < i → ok j) → ok i → ∀ r, Ev (fun k => L k (i + 1)) r → Ev (fun k => L k i) r) (hno : ∀ i, i < n → (∀ j, j < i → ok j) → ¬ ok i → Ev (fun k => L k i) false) : Ev (fun k => L k 0) b := by
  refine ev_for1 n (fun k i (_ : Unit) => L k i) (fun i _ => ∀ j, j < i → ok j) b ?_ ?_ 0 () (Nat.zero_le _) (fun j hj => by omega)
  · intro _ h
    have : b = e := by
      cases e with
      | false => exact bool_false hb (fun h => by simp at h)
      | true => exact hb.2 ⟨rfl, h⟩
    rw [this]
    exact hend
  · intro i _ hi h
    by_cases ho : ok i
    · refine .inr ⟨(), fun j hj => ?_, hyes i hi h ho⟩
      rcases Nat.lt_or_ge j i with h1 | h1
      · exact h j h1
      · obtain rfl : j = i := by omega
        exact ho
    · have : b = false := bool_false hb (fun h => ho (h.2 i hi))
      rw [this]
      exact .inl (hno i hi h ho)
theorem wrap_u64 {n : Int} (h0 : 0 ≤ n) (h1 : n ≤ 18446744073709551615) : IntKind.u64.wrap n = n := by
  have e : IntKind.u64.wrap n = n % 18446744073709551616 := by simp only [IntKind.wrap, IntKind.bits, IntKind.signed]; rfl
  rw [e]; omega
def Chain {α : Type} (E : α → Int → Int → Prop) : List α → Int → Int → Prop
  | [], c, d => c = d
  | x :: r, c, d => ∃ m, E x c m ∧ Chain E r m d
theorem Chain.snoc {α : Type} {E : α → Int → Int → Prop} : ∀ {l : List α} {c m d : Int} {x : α}, Chain E l c m → E x m d → Chain E (l ++ [x]) c d
  | [], _, _, _, _, h, k => by cases h; exact ⟨_, k, rfl⟩
  | _ :: _, _, _, _, _, ⟨q, h1, h2⟩, k => ⟨q, h1, Chain.snoc h2 k⟩
end Go.Proofs.YtbamdbdcglohmaaO
