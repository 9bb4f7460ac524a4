/- Texts of a row. -/
import Derived.Test.YthacmchmppnldaaZFnPieces3
import Derived.Test.YthacmchmppnldaaZFnPieces5
namespace Go.Proofs.Ythacmchmppnldaa.PFnPieces
open Go.RowKit Go.Proofs.YthacmchmppnldaaW.PrintWords Go.Proofs.YthacmchmppnldaaW.PrintLast Go.Proofs.YthacmchmppnldaaW.PrintMore
attribute [local go_sem] max2_int min2_int max_two min_two max_three min_three max_four min_four   -- for this text's walks alone
set_option linter.unusedVariables false
set_option linter.unusedSimpArgs false
mutual
def impl_GoodClock.j0 : Nat → Bool → Int → List (S47) → Option (Bool)
 | 0, _, _, _ => none
 | k + 1, x14, x278000, x278001 => if x14 = true then (some false) else (impl_GoodClock.l0 k x278001 (x278001.length : Int) 0 x278000 x278001)
def impl_GoodClock.l0 : Nat → List (S47) → Int → Int → Int → List (S47) → Option (Bool)
 | 0, _, _, _, _, _ => none
 | k + 1, x16, x17, x18, x278000, x278001 => if x18 < x17 then (if 0 ≤ x18 then (if x18 < (x16.length : Int) then ((impl_isTimer.f ((rd_T47 x16 x18).f0) ((rd_T47 x16 x18).f1) ((rd_T47 x16 x18).f2) ((rd_T47 x16 x18).f3) x278000).bind fun t281 => (if t281 = true then (if x18 > 0 then (if 0 ≤ (wrap64 (x18 - 1)) then (if (wrap64 (x18 - 1)) < (x278001.length : Int) then (if ((rd_T47 x278001 (wrap64 (x18 - 1))).f0) ≥ ((rd_T47 x16 x18).f0) then (some false) else (impl_GoodClock.l0 k x16 x17 (wrap64 (x18 + 1)) x278000 x278001)) else (none)) else (none)) else (impl_GoodClock.l0 k x16 x17 (wrap64 (x18 + 1)) x278000 x278001)) else (some false))) else (none)) else (none)) else (some true)
end
def impl_GoodClock.f (k : Nat) (a0_0 : Int) (l0_1 : List (S47)) : Option (Bool) := (impl_isTime.f a0_0).bind fun t278 => (if t278 = true then (impl_GoodClock.j0 k (decide ((l0_1.length : Int) > 20)) a0_0 l0_1) else (impl_GoodClock.j0 k true a0_0 l0_1))
theorem impl_GoodClock.mono_l : ∀ k, (∀ y0 y1 y2, LeO (impl_GoodClock.j0 k y0 y1 y2) (impl_GoodClock.j0 (k + 1) y0 y1 y2)) ∧ (∀ y0 y1 y2 y3 y4, LeO (impl_GoodClock.l0 k y0 y1 y2 y3 y4) (impl_GoodClock.l0 (k + 1) y0 y1 y2 y3 y4))
 | 0 => ⟨fun _ _ _ r h => by simp [impl_GoodClock.j0] at h, fun _ _ _ _ _ r h => by simp [impl_GoodClock.l0] at h⟩
 | k + 1 => by
  obtain ⟨ih0, ih1⟩ := impl_GoodClock.mono_l k
  refine ⟨?_, ?_⟩
  ·intro y0 y1 y2
   unfold impl_GoodClock.j0
   repeat' first
   | (with_reducible exact ih0 _ _ _)
   | (with_reducible exact ih1 _ _ _ _ _)
   | (with_reducible first | exact LeO.refl _ | exact LeO.none _ | refine LeO.ite ?_ ?_ | refine LeO.bind ?_ (fun _ => ?_))
   | exact ih0 _ _ _
   | exact ih1 _ _ _ _ _ | exact LeO.none _ | refine LeO.ite ?_ ?_ | refine LeO.bind ?_ (fun _ => ?_)
  ·intro y0 y1 y2 y3 y4
   unfold impl_GoodClock.l0
   repeat' first
   | (with_reducible exact ih0 _ _ _)
   | (with_reducible exact ih1 _ _ _ _ _)
   | (with_reducible first | exact LeO.refl _ | exact LeO.none _ | refine LeO.ite ?_ ?_ | refine LeO.bind ?_ (fun _ => ?_))
   | exact ih0 _ _ _
   | exact ih1 _ _ _ _ _ | exact LeO.none _ | refine LeO.ite ?_ ?_ | refine LeO.bind ?_ (fun _ => ?_)
theorem impl_GoodClock.mono : ∀ a0 a1 k, LeO (impl_GoodClock.f k a0 a1) (impl_GoodClock.f (k + 1) a0 a1) := by
 intro a0 a1 k
 obtain ⟨ih0, ih1⟩ := impl_GoodClock.mono_l k
 unfold impl_GoodClock.f
 repeat' first
   | (with_reducible exact ih0 _ _ _)
   | (with_reducible exact ih1 _ _ _ _ _)
   | (with_reducible first | exact LeO.refl _ | exact LeO.none _ | refine LeO.ite ?_ ?_ | refine LeO.bind ?_ (fun _ => ?_))
   | exact ih0 _ _ _
   | exact ih1 _ _ _ _ _ | exact LeO.none _ | refine LeO.ite ?_ ?_ | refine LeO.bind ?_ (fun _ => ?_)
def impl_GoodClock.T6 : Bool × List (List Nat × List Nat) := (true, [([], []), ([], []), ([1], [1]), ([0, 2], [0, 2]), ([3], [3]), ([4, 3], [4]), ([5], [5]), ([6, 5], [5, 6]), ([7, 5, 5], [5, 7]), ([8], [8]), ([9, 8], [8, 9]), ([8], [8]), ([11, 8], [8, 11]), ([10, 12, 8], [8, 10, 12]), ([13, 8], [8, 13]), ([14, 8], [8, 14]), ([8], [8]), ([16, 8], [8, 16]), ([15, 17, 8], [8, 15, 17]), ([8, 18, 5], [5, 8, 18]), ([5, 19], [5, 19])])
def impl_GoodClock.B6 : List Nat := [0, 0, 2, 7, 15, 31, 63, 127, 255, 511, 1023, 511, 2559, 8191, 16383, 32767, 511, 66047, 262143, 524287, 1048575]
theorem impl_GoodClock.tab6 : rtab .any (opsOf Try.f13 6) = impl_GoodClock.T6 := by kernel_rfl
theorem impl_GoodClock.bits6 : waitsOk impl_GoodClock.T6.2 impl_GoodClock.B6 = true := by kernel_rfl
set_option maxHeartbeats 8000000 in
set_option maxRecDepth 100000 in
theorem impl_GoodClock.calls (k : Nat) (a0_0 : Int) (A0_1 : Option Addr) (c0_1 : Nat) (l0_1 : List (S47)) (r : Bool) (w : World) (hr0_1 : Kd.C k47 w A0_1 l0_1.length l0_1) (hc0_1 : l0_1.length ≤ c0_1) (h : impl_GoodClock.f k a0_0 l0_1 = some r) :
  Calls Try.prog 13 #[.agg #[.int .i64 a0_0, .slice A0_1 l0_1.length c0_1]] w fun e w' => e = .returned (.bool r) ∧ Below w.heap.size w w' := by
 have hu25 := Try.underlying25
 have hu47 := Try.underlying47
 have HR0_1 := Aside0.mk hr0_1
 have HC0_1 := Aside0.mk hc0_1
 clear hr0_1 hc0_1
 have HB := Aside0.mk (Below.refl w.heap.size w)
 have H : ((impl_isTime.f a0_0).bind fun t278 => (if t278 = true then (impl_GoodClock.j0 k (decide ((l0_1.length : Int) > 20)) a0_0 l0_1) else (impl_GoodClock.j0 k true a0_0 l0_1))) = some r := h
 clear h
 have HC2 := Aside0.mk H
 clear H
 go_enter Try.func13, Try.ntmps13
 go_upto_region 1 with (first | ((with_reducible refine gate_dst (N := 1) rfl ?_); (try (refine gate_guard (by rfl) ?_; dsimp only)); refine box_event rfl (N := 1) rfl (cs := #[.int .i64 a0_0, .slice A0_1 l0_1.length c0_1]) (t := 25) sE ?_; intro gb277 hg w3 hbox hb; have BK277 := Aside0.mk hbox; have GW277 := gS w hg (lU); have GE277 := gS w hg (lU); replace HB := bH (lU) hb; clear hb hbox hg))
 (try simp only [Act.put, List.setIfInBounds_toArray, List.set_cons_zero, List.set_cons_succ])
 go_cut [14] (fun v14 wc => ∃ (kq : Nat) (x14_1 : Bool), v14 = .bool x14_1 ∧ Aside0 (impl_GoodClock.j0 kq x14_1 a0_0 l0_1 = some r) ∧ Aside0 (kq ≤ k) ∧ Aside0 (wc.heap[gb277]? = some (.cells #[.int .i64 a0_0, (.slice A0_1 l0_1.length c0_1)] 25 (0, 0))) ∧ Aside0 (Below w.heap.size w wc))
 case first =>
  have H := HC2.out
  clear HC2
  replace H := Option.bind_eq_some_iff.mp H
  obtain ⟨t278, A40, H⟩ := H
  replace H : (if t278 = true then (impl_GoodClock.j0 k (decide ((l0_1.length : Int) > 20)) a0_0 l0_1) else (impl_GoodClock.j0 k true a0_0 l0_1)) = some r := H
  have A4 := Aside0.mk A40
  clear A40
  by_cases c5 : t278 = true
  ·subst c5
   have H1 : (impl_GoodClock.j0 k (decide ((l0_1.length : Int) > 20)) a0_0 l0_1) = some r := by rw [if_pos rfl] at H; exact H
   clear H
   have H := H1
   clear H1
   have H' := Aside0.mk H
   clear H
   have hcz6_0 := cz BK277 0 (.int .i64 a0_0)
   have hcz6_1 := cz BK277 1 (.slice A0_1 l0_1.length c0_1)
   have hfz6_0 := fz BK277 0
   have hfz6_1 := fz BK277 1
   go_wp2_with (first | ((with_reducible refine gate_callee (f := 22) rfl ?_); refine goesL_ (some 7) rfl rfl Try.func22 (by kernel_rfl) rfl #[.int .i64 a0_0] rfl aE ?_; (with_reducible refine (impl_isTime.calls a0_0 true _ A4.out).mono ?_); rintro e w' ⟨rfl, ⟨nd, rfl⟩⟩; refine ⟨_, rfl, ?_⟩))
   go_meet
   case rel => exact ⟨_, (decide ((l0_1.length : Int) > 20)), tE, H', ⟨by first | omega | exact Nat.le_refl _⟩, ⟨by refine bU ?_; exact BK277.out⟩, ⟨by repeat (first | (with_reducible first | exact HB.out | apply below_alloc | apply pw_below_drewN | apply below_drew1 | refine below_set ?_ GE277.out) | exact HB.out)⟩⟩
  ·replace c5 := Bool.eq_false_iff.mpr c5
   subst c5
   have H1 : (impl_GoodClock.j0 k true a0_0 l0_1) = some r := by rw [if_neg (show ¬ (false = true) by decide)] at H; exact H
   clear H
   have H := H1
   clear H1
   have H' := Aside0.mk H
   clear H
   have hcz7_0 := cz BK277 0 (.int .i64 a0_0)
   have hcz7_1 := cz BK277 1 (.slice A0_1 l0_1.length c0_1)
   have hfz7_0 := fz BK277 0
   have hfz7_1 := fz BK277 1
   go_wp2_with (first | ((with_reducible refine gate_callee (f := 22) rfl ?_); refine goesL_ (some 7) rfl rfl Try.func22 (by kernel_rfl) rfl #[.int .i64 a0_0] rfl aE ?_; (with_reducible refine (impl_isTime.calls a0_0 false _ A4.out).mono ?_); rintro e w' ⟨rfl, ⟨nd, rfl⟩⟩; refine ⟨_, rfl, ?_⟩))
   go_meet
   case rel => exact ⟨_, (true), tE, H', ⟨by first | omega | exact Nat.le_refl _⟩, ⟨by refine bU ?_; exact BK277.out⟩, ⟨by repeat (first | (with_reducible first | exact HB.out | apply below_alloc | apply pw_below_drewN | apply below_drew1 | refine below_set ?_ GE277.out) | exact HB.out)⟩⟩
 case rest =>
  clear HC2
  try clear c1
  try clear c2
  try clear p2
  try clear c5
  try clear hcz6_0
  try clear hcz6_1
  try clear hcz7_0
  try clear hcz7_1
  try clear hfz6_0
  try clear hfz6_1
  try clear hfz7_0
  try clear hfz7_1
  obtain ⟨kq, x14_1, rfl, HA, HJ1, BK277, HB⟩ := hcut
  cases kq with
  | zero => exact absurd HA.out (by simp [impl_GoodClock.j0])
  | succ kj1 =>
   have H := HA.out
   clear HA
   simp only [impl_GoodClock.j0] at H
   by_cases c8 : x14_1 = true
   ·subst c8
    have H1 : (some false) = some r := by rw [if_pos rfl] at H; exact H
    clear H
    have H := H1
    clear H1
    obtain rfl := Option.some.inj H
    go_wp2
    go_ret
    exact ⟨eE, lV1 GE277⟩
   ·replace c8 := Bool.eq_false_iff.mpr c8
    subst c8
    have H1 : (impl_GoodClock.l0 kj1 l0_1 (l0_1.length : Int) 0 a0_0 l0_1) = some r := by rw [if_neg (show ¬ (false = true) by decide)] at H; exact H
    clear H
    have H := H1
    clear H1
    have H' := Aside0.mk H
    clear H
    have hcz9_0 := cz BK277 0 (.int .i64 a0_0)
    have hcz9_1 := cz BK277 1 (.slice A0_1 l0_1.length c0_1)
    have hfz9_0 := fz BK277 0
    have hfz9_1 := fz BK277 1
    go_wp2
    go_loopg [18] kj1 (fun kq v18 w' => ∃ (x18_2 : Int), v18 = .int .i64 x18_2 ∧ Aside0 (impl_GoodClock.l0 kq l0_1 (l0_1.length : Int) x18_2 a0_0 l0_1 = some r) ∧ Aside0 (kq ≤ kj1) ∧ Aside0 (w'.heap[gb277]? = some (.cells #[.int .i64 a0_0, (.slice A0_1 l0_1.length c0_1)] 25 (0, 0))) ∧ Aside0 (Below w.heap.size w w'))
    case atStart => exact ⟨(0), tE, H', ⟨Nat.le_refl _⟩, ⟨by refine bU ?_; exact BK277.out⟩, ⟨by repeat (first | (with_reducible first | exact HB.out | apply below_alloc | apply pw_below_drewN | apply below_drew1 | refine below_set ?_ GE277.out) | exact HB.out)⟩⟩
    case round =>
     clear H'
     try clear c1
     try clear c2
     try clear p2
     try clear c5
     try clear c8
     try clear hcz6_0
     try clear hcz6_1
     try clear hcz7_0
     try clear hcz7_1
     try clear hcz9_0
     try clear hcz9_1
     try clear hfz6_0
     try clear hfz6_1
     try clear hfz7_0
     try clear hfz7_1
     try clear hfz9_0
     try clear hfz9_1
     try clear p2
     obtain ⟨x18_2, rfl, HA, HK2, BK277, HB⟩ := hrel
     cases gk with
     | zero => exact absurd HA.out (by simp [impl_GoodClock.l0])
     | succ k2 =>
      have H := HA.out
      clear HA
      simp only [impl_GoodClock.l0] at H
      by_cases c10 : x18_2 < (l0_1.length : Int)
      ·rw [if_pos c10] at H
       have c10b0 : decide (x18_2 < (l0_1.length : Int)) = true := decide_eq_true c10
       clear c10
       by_cases c11 : 0 ≤ x18_2
       ·rw [if_pos c11] at H
        have c11b0 : decide (0 ≤ x18_2) = true := decide_eq_true c11
        clear c11
        by_cases c12 : x18_2 < (l0_1.length : Int)
        ·rw [if_pos c12] at H
         have c12b0 : decide (x18_2 < (l0_1.length : Int)) = true := decide_eq_true c12
         clear c12
         replace H := Option.bind_eq_some_iff.mp H
         obtain ⟨t281, A130, H⟩ := H
         replace H : (if t281 = true then (if x18_2 > 0 then (if 0 ≤ (wrap64 (x18_2 - 1)) then (if (wrap64 (x18_2 - 1)) < (l0_1.length : Int) then (if ((rd_T47 l0_1 (wrap64 (x18_2 - 1))).f0) ≥ ((rd_T47 l0_1 x18_2).f0) then (some false) else (impl_GoodClock.l0 k2 l0_1 (l0_1.length : Int) (wrap64 (x18_2 + 1)) a0_0 l0_1)) else (none)) else (none)) else (impl_GoodClock.l0 k2 l0_1 (l0_1.length : Int) (wrap64 (x18_2 + 1)) a0_0 l0_1)) else (some false)) = some r := H
         have A13 := Aside0.mk A130
         clear A130
         by_cases c14 : t281 = true
         ·subst c14
          have H1 : (if x18_2 > 0 then (if 0 ≤ (wrap64 (x18_2 - 1)) then (if (wrap64 (x18_2 - 1)) < (l0_1.length : Int) then (if ((rd_T47 l0_1 (wrap64 (x18_2 - 1))).f0) ≥ ((rd_T47 l0_1 x18_2).f0) then (some false) else (impl_GoodClock.l0 k2 l0_1 (l0_1.length : Int) (wrap64 (x18_2 + 1)) a0_0 l0_1)) else (none)) else (none)) else (impl_GoodClock.l0 k2 l0_1 (l0_1.length : Int) (wrap64 (x18_2 + 1)) a0_0 l0_1)) = some r := by rw [if_pos rfl] at H; exact H
          clear H
          have H := H1
          clear H1
          by_cases c15 : x18_2 > 0
          ·rw [if_pos c15] at H
           have c15b0 : decide (0 < x18_2) = true := decide_eq_true c15
           clear c15
           obtain ⟨ji16, hji16⟩ : ∃ j_ : Int, (wrap64 (x18_2 - 1)) = j_ := ⟨_, rfl⟩
           replace H : (if 0 ≤ (ji16) then (if (ji16) < (l0_1.length : Int) then (if ((rd_T47 l0_1 (ji16)).f0) ≥ ((rd_T47 l0_1 x18_2).f0) then (some false) else (impl_GoodClock.l0 k2 l0_1 (l0_1.length : Int) (wrap64 (x18_2 + 1)) a0_0 l0_1)) else (none)) else (none)) = some r := by first | (rw [hji16] at H; exact H) | (simp only [hji16] at H ⊢; exact H)
           (try rw [hji16] at A13)
           have hji16w : (IntKind.i64.wrap (x18_2 - 1)) = ji16 := (i64_w _).trans hji16
           by_cases c17 : 0 ≤ (ji16)
           ·rw [if_pos c17] at H
            have c17b0 : decide (0 ≤ (ji16)) = true := decide_eq_true c17
            clear c17
            by_cases c18 : (ji16) < (l0_1.length : Int)
            ·rw [if_pos c18] at H
             have c18b0 : decide ((ji16) < (l0_1.length : Int)) = true := decide_eq_true c18
             clear c18
             by_cases c19 : ((rd_T47 l0_1 (ji16)).f0) ≥ ((rd_T47 l0_1 x18_2).f0)
             ·rw [if_pos c19] at H
              have c19b0 : decide (((rd_T47 l0_1 x18_2).f0) ≤ ((rd_T47 l0_1 (ji16)).f0)) = true := decide_eq_true c19
              clear c19
              obtain rfl := Option.some.inj H
              have p279 : 0 ≤ (x18_2 : Int) := of_decide_eq_true hE
              have q279 : x18_2 < (l0_1.length : Int) := of_decide_eq_true hE
              obtain ⟨ad279, e279, hx279_0, hx279_1, hx279_2, hx279_3⟩ := at_T47 HR0_1.out x18_2 p279 q279
              cases e279
              replace hx279_0 := (HB.out.cell (World.block_lt_of_cell? w _ hx279_0)).trans hx279_0
              replace hx279_1 := (HB.out.cell (World.block_lt_of_cell? w _ hx279_1)).trans hx279_1
              replace hx279_2 := (HB.out.cell (World.block_lt_of_cell? w _ hx279_2)).trans hx279_2
              replace hx279_3 := (HB.out.cell (World.block_lt_of_cell? w _ hx279_3)).trans hx279_3
              replace p279 := eq_true p279
              replace q279 := eq_true q279
              try go_wp2_with (first | ((with_reducible refine gate_dst (N := 4) rfl ?_); (try (refine gate_guard (by rfl) ?_; dsimp only)); refine box_event rfl (N := 4) rfl (cs := #[.int .i64 0, .int .i64 0, .int .i64 0, .int .i64 0]) (t := 47) sE ?_; intro gb280 hg w20 hbox hb; have BK280 := Aside0.mk hbox; have GW280 := gS w hg (lV1 GE277); have GE280 := gS w hg (lV1 GE277); replace HB := bH (lV1 GE277) hb; have NB277_280 := nL hg (bV BK277); have NB280_277 := nG hg (bV BK277); replace BK277 := bB (bV BK277) hb; clear hb hbox hg; have hnb21 := NB280_277.out; have hnc21 := NB277_280.out; have hcz22_0 := cz BK280 0 (.int .i64 0); have hcz22_1 := cz BK280 1 (.int .i64 0); have hcz22_2 := cz BK280 2 (.int .i64 0); have hcz22_3 := cz BK280 3 (.int .i64 0); have hfz22_0 := fz BK280 0; have hfz22_1 := fz BK280 1; have hfz22_2 := fz BK280 2; have hfz22_3 := fz BK280 3))
              have n0_ : Aside0 (((((w20.setCell ⟨gb280, 0, none⟩ (.int .i64 ((rd_T47 l0_1 x18_2).f0))).setCell ⟨gb280, 1, none⟩ (.int .i64 ((rd_T47 l0_1 x18_2).f1))).setCell ⟨gb280, 2, none⟩ (.int .i64 ((rd_T47 l0_1 x18_2).f2))).setCell ⟨gb280, 3, none⟩ (.int .i64 ((rd_T47 l0_1 x18_2).f3))).heap[gb277]? = some (.cells #[.int .i64 a0_0, .slice (some ad279) l0_1.length c0_1] 25 (0, 0))) := ⟨by refine bU ?_; refine blk_far ?_ NB277_280.out _; refine bU ?_; refine blk_far ?_ NB277_280.out _; refine bU ?_; refine blk_far ?_ NB277_280.out _; refine bU ?_; refine blk_far ?_ NB277_280.out _; refine bU ?_; exact BK277.out⟩
              have n1_ : Aside0 (((((w20.setCell ⟨gb280, 0, none⟩ (.int .i64 ((rd_T47 l0_1 x18_2).f0))).setCell ⟨gb280, 1, none⟩ (.int .i64 ((rd_T47 l0_1 x18_2).f1))).setCell ⟨gb280, 2, none⟩ (.int .i64 ((rd_T47 l0_1 x18_2).f2))).setCell ⟨gb280, 3, none⟩ (.int .i64 ((rd_T47 l0_1 x18_2).f3))).heap[gb280]? = some (.cells #[.int .i64 ((rd_T47 l0_1 x18_2).f0), .int .i64 ((rd_T47 l0_1 x18_2).f1), .int .i64 ((rd_T47 l0_1 x18_2).f2), .int .i64 ((rd_T47 l0_1 x18_2).f3)] 47 (0, 0))) := ⟨by refine bU ?_; refine blk_put (cs := #[.int .i64 ((rd_T47 l0_1 x18_2).f0), .int .i64 ((rd_T47 l0_1 x18_2).f1), .int .i64 ((rd_T47 l0_1 x18_2).f2), .int .i64 0]) ?_ 3 _ rfl; refine bU ?_; refine blk_put (cs := #[.int .i64 ((rd_T47 l0_1 x18_2).f0), .int .i64 ((rd_T47 l0_1 x18_2).f1), .int .i64 0, .int .i64 0]) ?_ 2 _ rfl; refine bU ?_; refine blk_put (cs := #[.int .i64 ((rd_T47 l0_1 x18_2).f0), .int .i64 0, .int .i64 0, .int .i64 0]) ?_ 1 _ rfl; refine bU ?_; refine blk_put (cs := #[.int .i64 0, .int .i64 0, .int .i64 0, .int .i64 0]) ?_ 0 _ rfl; refine bU ?_; exact BK280.out⟩
              have n2_ : Aside0 (Below w.heap.size w ((((w20.setCell ⟨gb280, 0, none⟩ (.int .i64 ((rd_T47 l0_1 x18_2).f0))).setCell ⟨gb280, 1, none⟩ (.int .i64 ((rd_T47 l0_1 x18_2).f1))).setCell ⟨gb280, 2, none⟩ (.int .i64 ((rd_T47 l0_1 x18_2).f2))).setCell ⟨gb280, 3, none⟩ (.int .i64 ((rd_T47 l0_1 x18_2).f3)))) := ⟨by repeat (first | (with_reducible first | exact HB.out | apply below_alloc | apply pw_below_drewN | apply below_drew1 | refine below_set ?_ GE277.out | refine below_set ?_ GE280.out) | exact HB.out)⟩
              (try clear BK277)
              (try clear BK280)
              (try clear HB)
              generalize ((((w20.setCell ⟨gb280, 0, none⟩ (.int .i64 ((rd_T47 l0_1 x18_2).f0))).setCell ⟨gb280, 1, none⟩ (.int .i64 ((rd_T47 l0_1 x18_2).f1))).setCell ⟨gb280, 2, none⟩ (.int .i64 ((rd_T47 l0_1 x18_2).f2))).setCell ⟨gb280, 3, none⟩ (.int .i64 ((rd_T47 l0_1 x18_2).f3))) = w23 at n0_ n1_ n2_ ⊢
              have BK277 := n0_
              have BK280 := n1_
              have HB := n2_
              clear n0_ n1_ n2_
              replace BK277 := Aside0.mk (blk_drew BK277.out)
              replace BK280 := Aside0.mk (blk_drew BK280.out)
              replace HB := Aside0.mk (below_drew1 HB.out)
              have p282 : 0 ≤ ((ji16) : Int) := of_decide_eq_true hE
              have q282 : (ji16) < (l0_1.length : Int) := of_decide_eq_true hE
              obtain ⟨ad282, e282, hx282_0, hx282_1, hx282_2, hx282_3⟩ := at_T47 HR0_1.out (ji16) p282 q282
              have hw282_3 := hx282_3
              have hw282_2 := hx282_2
              have hw282_1 := hx282_1
              have hw282_0 := hx282_0
              obtain rfl : ad279 = ad282 := (by injection e282)
              replace hx282_0 := (HB.out.cell (World.block_lt_of_cell? w _ hx282_0)).trans hx282_0
              replace hx282_1 := (HB.out.cell (World.block_lt_of_cell? w _ hx282_1)).trans hx282_1
              replace hx282_2 := (HB.out.cell (World.block_lt_of_cell? w _ hx282_2)).trans hx282_2
              replace hx282_3 := (HB.out.cell (World.block_lt_of_cell? w _ hx282_3)).trans hx282_3
              replace p282 := eq_true p282
              replace q282 := eq_true q282
              refine start_ (n := 21) (S := fun w' => w'.cell? ⟨gb280, 0, none⟩ = some (.int .i64 ((rd_T47 l0_1 x18_2).f0)) ∧ w'.cell? ⟨gb280, 1, none⟩ = some (.int .i64 ((rd_T47 l0_1 x18_2).f1)) ∧ w'.cell? ⟨gb280, 2, none⟩ = some (.int .i64 ((rd_T47 l0_1 x18_2).f2)) ∧ w'.cell? ⟨gb280, 3, none⟩ = some (.int .i64 ((rd_T47 l0_1 x18_2).f3)) ∧ w'.cell? ⟨gb277, 0, none⟩ = some (.int .i64 a0_0) ∧ w'.cell? ⟨gb277, 1, none⟩ = some (.slice (some ad279) l0_1.length c0_1) ∧ w'.cell? (ad279.add (((ji16)).toNat * 4)) = some (.int .i64 ((rd_T47 l0_1 (ji16)).f0)) ∧ w'.cell? ⟨(ad279.add (((ji16)).toNat * 4)).block, (ad279.add (((ji16)).toNat * 4)).off + 1, none⟩ = some (.int .i64 ((rd_T47 l0_1 (ji16)).f1)) ∧ w'.cell? ⟨(ad279.add (((ji16)).toNat * 4)).block, (ad279.add (((ji16)).toNat * 4)).off + 2, none⟩ = some (.int .i64 ((rd_T47 l0_1 (ji16)).f2)) ∧ w'.cell? ⟨(ad279.add (((ji16)).toNat * 4)).block, (ad279.add (((ji16)).toNat * 4)).off + 3, none⟩ = some (.int .i64 ((rd_T47 l0_1 (ji16)).f3))) (ds := []) #[false, false, false, false, false, false, false, false, false, false, false, false, false, false, false, false, false, false, false, false, false] (by kernel_rfl) rfl rfl ⟨cz BK280 0 _, cz BK280 1 _, cz BK280 2 _, cz BK280 3 _, cz BK277 0 _, cz BK277 1 _, ((HB.out.cell (World.block_lt_of_cell? w _ hw282_0)).trans hw282_0), ((HB.out.cell (World.block_lt_of_cell? w _ hw282_1)).trans hw282_1), ((HB.out.cell (World.block_lt_of_cell? w _ hw282_2)).trans hw282_2), ((HB.out.cell (World.block_lt_of_cell? w _ hw282_3)).trans hw282_3)⟩ (fun hHeld => ?_); refine with_tabW impl_GoodClock.tab6 impl_GoodClock.bits6 (fun HT_ HW_ => ?_)
              generalize w23.drew = w24 at BK277 BK280 HB hx282_0 hx282_1 hx282_2 hx282_3 hHeld ⊢
              refine pureA 1 24 (bz 21 2) rfl rfl (any_of HT_.out (by kernel_rfl)) ?_
              refine takeA 0 23 (bz 21 3) rfl rfl (take_ofW HT_.out HW_.out (by kernel_rfl)) hHeld (by rintro w' ⟨s0, s1, s2, s3, s4, s5, s6, s7, s8, s9⟩; go_simp; with_reducible rfl) ?_
              refine takeA 2 25 (bz 21 7) rfl rfl (take_ofW HT_.out HW_.out (by kernel_rfl)) hHeld (by rintro w' ⟨s0, s1, s2, s3, s4, s5, s6, s7, s8, s9⟩; go_simp; with_reducible rfl) ?_
              refine one_ (i := 3) (N := some 26) (bz 21 15) rfl rfl (one_of HT_.out (by kernel_rfl)) (by decide) (fun K hK => ?_)
              refine goes_ Try.func23 (by kernel_rfl) rfl #[.agg #[.int .i64 ((rd_T47 l0_1 x18_2).f0), .int .i64 ((rd_T47 l0_1 x18_2).f1), .int .i64 ((rd_T47 l0_1 x18_2).f2), .int .i64 ((rd_T47 l0_1 x18_2).f3)], .int .i64 a0_0] (by rfl) rfl rfl aE ?_
              with_reducible refine (impl_isTimer.calls ((rd_T47 l0_1 x18_2).f0) ((rd_T47 l0_1 x18_2).f1) ((rd_T47 l0_1 x18_2).f2) ((rd_T47 l0_1 x18_2).f3) a0_0 true _ A13.out).mono ?_
              rintro e w25 ⟨rfl, hb⟩
              refine ⟨_, rfl, ?_⟩
              replace BK277 := bB (bV BK277) hb
              replace BK280 := bB (bV BK280) hb
              replace HB := bH (lV2 GE277 GE280) hb
              (try clear hb)
              (try clear hb2)
              (try clear hk)
              (try clear hi)
              refine hK.out _ _ ⟨cz BK280 0 _, cz BK280 1 _, cz BK280 2 _, cz BK280 3 _, cz BK277 0 _, cz BK277 1 _, ((HB.out.cell (World.block_lt_of_cell? w _ hw282_0)).trans hw282_0), ((HB.out.cell (World.block_lt_of_cell? w _ hw282_1)).trans hw282_1), ((HB.out.cell (World.block_lt_of_cell? w _ hw282_2)).trans hw282_2), ((HB.out.cell (World.block_lt_of_cell? w _ hw282_3)).trans hw282_3)⟩ (fun hHeld => ?_)
              clear hK K
              refine norm_ (a' := ?_) ?_ ?_
              rotate_left
              ·show Act.put _ (some 26) _ = _
               simp only [Act.put, List.setIfInBounds_toArray, List.set_cons_zero, List.set_cons_succ, i64_w, i32_w]
               rfl
              refine pureA 4 27 (bz 21 31) rfl rfl (any_of HT_.out (by kernel_rfl)) ?_
              refine pureA 5 28 (bz 21 63) rfl rfl (any_of HT_.out (by kernel_rfl)) ?_
              refine pureA 6 29 (bz 21 127) rfl rfl (any_of HT_.out (by kernel_rfl)) ?_
              refine pureA 7 30 (bz 21 255) rfl rfl (any_of HT_.out (by kernel_rfl)) ?_
              refine pureA 8 31 (bz 21 511) rfl rfl (any_of HT_.out (by kernel_rfl)) ?_
              refine pureA 9 32 (bz 21 1023) rfl rfl (any_of HT_.out (by kernel_rfl)) ?_
              refine pureA 11 34 (bz 21 3071) rfl rfl (any_of HT_.out (by kernel_rfl)) ?_
              refine pureA 12 35 (bz 21 7167) rfl rfl (any_of HT_.out (by kernel_rfl)) ?_
              refine pureA 16 39 (bz 21 72703) rfl rfl (any_of HT_.out (by kernel_rfl)) ?_
              refine takeA 10 33 (bz 21 73727) rfl rfl (take_ofW HT_.out HW_.out (by kernel_rfl)) hHeld (by rintro w' ⟨s0, s1, s2, s3, s4, s5, s6, s7, s8, s9⟩; go_simp; with_reducible rfl) ?_
              refine pureA 13 36 (bz 21 81919) rfl rfl (any_of HT_.out (by kernel_rfl)) ?_
              refine pureA 14 37 (bz 21 98303) rfl rfl (any_of HT_.out (by kernel_rfl)) ?_
              refine takeA 15 38 (bz 21 131071) rfl rfl (take_ofW HT_.out HW_.out (by kernel_rfl)) hHeld (by rintro w' ⟨s0, s1, s2, s3, s4, s5, s6, s7, s8, s9⟩; go_simp; with_reducible rfl) ?_
              refine takeA 17 40 (bz 21 262143) rfl rfl (take_ofW HT_.out HW_.out (by kernel_rfl)) hHeld (by rintro w' ⟨s0, s1, s2, s3, s4, s5, s6, s7, s8, s9⟩; go_simp; with_reducible rfl) ?_
              refine pureA 18 41 (bz 21 524287) rfl rfl (any_of HT_.out (by kernel_rfl)) ?_
              refine pureA 19 42 (bz 21 1048575) rfl rfl (any_of HT_.out (by kernel_rfl)) ?_
              refine pureA 20 43 (bz 21 2097151) rfl rfl (any_of HT_.out (by kernel_rfl)) ?_
              refine done_ (done_of HT_.out (by kernel_rfl)) ?_
              try go_wp2
              go_ret
              exact ⟨by first | rfl | (simp [errW_none, errW_some] <;> rfl) | (simp only [← hji16]; first | rfl | (simp [errW_none, errW_some] <;> rfl)) | (simp [*, errW_none, errW_some] <;> rfl), lV2 GE277 GE280⟩
             ·rw [if_neg c19] at H
              have c19b0 : decide (((rd_T47 l0_1 x18_2).f0) ≤ ((rd_T47 l0_1 (ji16)).f0)) = false := decide_eq_false c19
              clear c19
              have H' := Aside0.mk H
              clear H
              have p279 : 0 ≤ (x18_2 : Int) := of_decide_eq_true hE
              have q279 : x18_2 < (l0_1.length : Int) := of_decide_eq_true hE
              obtain ⟨ad279, e279, hx279_0, hx279_1, hx279_2, hx279_3⟩ := at_T47 HR0_1.out x18_2 p279 q279
              cases e279
              replace hx279_0 := (HB.out.cell (World.block_lt_of_cell? w _ hx279_0)).trans hx279_0
              replace hx279_1 := (HB.out.cell (World.block_lt_of_cell? w _ hx279_1)).trans hx279_1
              replace hx279_2 := (HB.out.cell (World.block_lt_of_cell? w _ hx279_2)).trans hx279_2
              replace hx279_3 := (HB.out.cell (World.block_lt_of_cell? w _ hx279_3)).trans hx279_3
              replace p279 := eq_true p279
              replace q279 := eq_true q279
              try go_wp2_with (first | ((with_reducible refine gate_dst (N := 4) rfl ?_); (try (refine gate_guard (by rfl) ?_; dsimp only)); refine box_event rfl (N := 4) rfl (cs := #[.int .i64 0, .int .i64 0, .int .i64 0, .int .i64 0]) (t := 47) sE ?_; intro gb280 hg w26 hbox hb; have BK280 := Aside0.mk hbox; have GW280 := gS w hg (lV1 GE277); have GE280 := gS w hg (lV1 GE277); replace HB := bH (lV1 GE277) hb; have NB277_280 := nL hg (bV BK277); have NB280_277 := nG hg (bV BK277); replace BK277 := bB (bV BK277) hb; clear hb hbox hg; have hnb27 := NB280_277.out; have hnc27 := NB277_280.out; have hcz28_0 := cz BK280 0 (.int .i64 0); have hcz28_1 := cz BK280 1 (.int .i64 0); have hcz28_2 := cz BK280 2 (.int .i64 0); have hcz28_3 := cz BK280 3 (.int .i64 0); have hfz28_0 := fz BK280 0; have hfz28_1 := fz BK280 1; have hfz28_2 := fz BK280 2; have hfz28_3 := fz BK280 3))
              have n0_ : Aside0 (((((w26.setCell ⟨gb280, 0, none⟩ (.int .i64 ((rd_T47 l0_1 x18_2).f0))).setCell ⟨gb280, 1, none⟩ (.int .i64 ((rd_T47 l0_1 x18_2).f1))).setCell ⟨gb280, 2, none⟩ (.int .i64 ((rd_T47 l0_1 x18_2).f2))).setCell ⟨gb280, 3, none⟩ (.int .i64 ((rd_T47 l0_1 x18_2).f3))).heap[gb277]? = some (.cells #[.int .i64 a0_0, .slice (some ad279) l0_1.length c0_1] 25 (0, 0))) := ⟨by refine bU ?_; refine blk_far ?_ NB277_280.out _; refine bU ?_; refine blk_far ?_ NB277_280.out _; refine bU ?_; refine blk_far ?_ NB277_280.out _; refine bU ?_; refine blk_far ?_ NB277_280.out _; refine bU ?_; exact BK277.out⟩
              have n1_ : Aside0 (((((w26.setCell ⟨gb280, 0, none⟩ (.int .i64 ((rd_T47 l0_1 x18_2).f0))).setCell ⟨gb280, 1, none⟩ (.int .i64 ((rd_T47 l0_1 x18_2).f1))).setCell ⟨gb280, 2, none⟩ (.int .i64 ((rd_T47 l0_1 x18_2).f2))).setCell ⟨gb280, 3, none⟩ (.int .i64 ((rd_T47 l0_1 x18_2).f3))).heap[gb280]? = some (.cells #[.int .i64 ((rd_T47 l0_1 x18_2).f0), .int .i64 ((rd_T47 l0_1 x18_2).f1), .int .i64 ((rd_T47 l0_1 x18_2).f2), .int .i64 ((rd_T47 l0_1 x18_2).f3)] 47 (0, 0))) := ⟨by refine bU ?_; refine blk_put (cs := #[.int .i64 ((rd_T47 l0_1 x18_2).f0), .int .i64 ((rd_T47 l0_1 x18_2).f1), .int .i64 ((rd_T47 l0_1 x18_2).f2), .int .i64 0]) ?_ 3 _ rfl; refine bU ?_; refine blk_put (cs := #[.int .i64 ((rd_T47 l0_1 x18_2).f0), .int .i64 ((rd_T47 l0_1 x18_2).f1), .int .i64 0, .int .i64 0]) ?_ 2 _ rfl; refine bU ?_; refine blk_put (cs := #[.int .i64 ((rd_T47 l0_1 x18_2).f0), .int .i64 0, .int .i64 0, .int .i64 0]) ?_ 1 _ rfl; refine bU ?_; refine blk_put (cs := #[.int .i64 0, .int .i64 0, .int .i64 0, .int .i64 0]) ?_ 0 _ rfl; refine bU ?_; exact BK280.out⟩
              have n2_ : Aside0 (Below w.heap.size w ((((w26.setCell ⟨gb280, 0, none⟩ (.int .i64 ((rd_T47 l0_1 x18_2).f0))).setCell ⟨gb280, 1, none⟩ (.int .i64 ((rd_T47 l0_1 x18_2).f1))).setCell ⟨gb280, 2, none⟩ (.int .i64 ((rd_T47 l0_1 x18_2).f2))).setCell ⟨gb280, 3, none⟩ (.int .i64 ((rd_T47 l0_1 x18_2).f3)))) := ⟨by repeat (first | (with_reducible first | exact HB.out | apply below_alloc | apply pw_below_drewN | apply below_drew1 | refine below_set ?_ GE277.out | refine below_set ?_ GE280.out) | exact HB.out)⟩
              (try clear BK277)
              (try clear BK280)
              (try clear HB)
              generalize ((((w26.setCell ⟨gb280, 0, none⟩ (.int .i64 ((rd_T47 l0_1 x18_2).f0))).setCell ⟨gb280, 1, none⟩ (.int .i64 ((rd_T47 l0_1 x18_2).f1))).setCell ⟨gb280, 2, none⟩ (.int .i64 ((rd_T47 l0_1 x18_2).f2))).setCell ⟨gb280, 3, none⟩ (.int .i64 ((rd_T47 l0_1 x18_2).f3))) = w29 at n0_ n1_ n2_ ⊢
              have BK277 := n0_
              have BK280 := n1_
              have HB := n2_
              clear n0_ n1_ n2_
              replace BK277 := Aside0.mk (blk_drew BK277.out)
              replace BK280 := Aside0.mk (blk_drew BK280.out)
              replace HB := Aside0.mk (below_drew1 HB.out)
              have p282 : 0 ≤ ((ji16) : Int) := of_decide_eq_true hE
              have q282 : (ji16) < (l0_1.length : Int) := of_decide_eq_true hE
              obtain ⟨ad282, e282, hx282_0, hx282_1, hx282_2, hx282_3⟩ := at_T47 HR0_1.out (ji16) p282 q282
              have hw282_3 := hx282_3
              have hw282_2 := hx282_2
              have hw282_1 := hx282_1
              have hw282_0 := hx282_0
              obtain rfl : ad279 = ad282 := (by injection e282)
              replace hx282_0 := (HB.out.cell (World.block_lt_of_cell? w _ hx282_0)).trans hx282_0
              replace hx282_1 := (HB.out.cell (World.block_lt_of_cell? w _ hx282_1)).trans hx282_1
              replace hx282_2 := (HB.out.cell (World.block_lt_of_cell? w _ hx282_2)).trans hx282_2
              replace hx282_3 := (HB.out.cell (World.block_lt_of_cell? w _ hx282_3)).trans hx282_3
              replace p282 := eq_true p282
              replace q282 := eq_true q282
              refine start_ (n := 21) (S := fun w' => w'.cell? ⟨gb280, 0, none⟩ = some (.int .i64 ((rd_T47 l0_1 x18_2).f0)) ∧ w'.cell? ⟨gb280, 1, none⟩ = some (.int .i64 ((rd_T47 l0_1 x18_2).f1)) ∧ w'.cell? ⟨gb280, 2, none⟩ = some (.int .i64 ((rd_T47 l0_1 x18_2).f2)) ∧ w'.cell? ⟨gb280, 3, none⟩ = some (.int .i64 ((rd_T47 l0_1 x18_2).f3)) ∧ w'.cell? ⟨gb277, 0, none⟩ = some (.int .i64 a0_0) ∧ w'.cell? ⟨gb277, 1, none⟩ = some (.slice (some ad279) l0_1.length c0_1) ∧ w'.cell? (ad279.add (((ji16)).toNat * 4)) = some (.int .i64 ((rd_T47 l0_1 (ji16)).f0)) ∧ w'.cell? ⟨(ad279.add (((ji16)).toNat * 4)).block, (ad279.add (((ji16)).toNat * 4)).off + 1, none⟩ = some (.int .i64 ((rd_T47 l0_1 (ji16)).f1)) ∧ w'.cell? ⟨(ad279.add (((ji16)).toNat * 4)).block, (ad279.add (((ji16)).toNat * 4)).off + 2, none⟩ = some (.int .i64 ((rd_T47 l0_1 (ji16)).f2)) ∧ w'.cell? ⟨(ad279.add (((ji16)).toNat * 4)).block, (ad279.add (((ji16)).toNat * 4)).off + 3, none⟩ = some (.int .i64 ((rd_T47 l0_1 (ji16)).f3))) (ds := []) #[false, false, false, false, false, false, false, false, false, false, false, false, false, false, false, false, false, false, false, false, false] (by kernel_rfl) rfl rfl ⟨cz BK280 0 _, cz BK280 1 _, cz BK280 2 _, cz BK280 3 _, cz BK277 0 _, cz BK277 1 _, ((HB.out.cell (World.block_lt_of_cell? w _ hw282_0)).trans hw282_0), ((HB.out.cell (World.block_lt_of_cell? w _ hw282_1)).trans hw282_1), ((HB.out.cell (World.block_lt_of_cell? w _ hw282_2)).trans hw282_2), ((HB.out.cell (World.block_lt_of_cell? w _ hw282_3)).trans hw282_3)⟩ (fun hHeld => ?_); refine with_tabW impl_GoodClock.tab6 impl_GoodClock.bits6 (fun HT_ HW_ => ?_)
              generalize w29.drew = w30 at BK277 BK280 HB hx282_0 hx282_1 hx282_2 hx282_3 hHeld ⊢
              refine pureA 1 24 (bz 21 2) rfl rfl (any_of HT_.out (by kernel_rfl)) ?_
              refine takeA 0 23 (bz 21 3) rfl rfl (take_ofW HT_.out HW_.out (by kernel_rfl)) hHeld (by rintro w' ⟨s0, s1, s2, s3, s4, s5, s6, s7, s8, s9⟩; go_simp; with_reducible rfl) ?_
              refine takeA 2 25 (bz 21 7) rfl rfl (take_ofW HT_.out HW_.out (by kernel_rfl)) hHeld (by rintro w' ⟨s0, s1, s2, s3, s4, s5, s6, s7, s8, s9⟩; go_simp; with_reducible rfl) ?_
              refine one_ (i := 3) (N := some 26) (bz 21 15) rfl rfl (one_of HT_.out (by kernel_rfl)) (by decide) (fun K hK => ?_)
              refine goes_ Try.func23 (by kernel_rfl) rfl #[.agg #[.int .i64 ((rd_T47 l0_1 x18_2).f0), .int .i64 ((rd_T47 l0_1 x18_2).f1), .int .i64 ((rd_T47 l0_1 x18_2).f2), .int .i64 ((rd_T47 l0_1 x18_2).f3)], .int .i64 a0_0] (by rfl) rfl rfl aE ?_
              with_reducible refine (impl_isTimer.calls ((rd_T47 l0_1 x18_2).f0) ((rd_T47 l0_1 x18_2).f1) ((rd_T47 l0_1 x18_2).f2) ((rd_T47 l0_1 x18_2).f3) a0_0 true _ A13.out).mono ?_
              rintro e w31 ⟨rfl, hb⟩
              refine ⟨_, rfl, ?_⟩
              replace BK277 := bB (bV BK277) hb
              replace BK280 := bB (bV BK280) hb
              replace HB := bH (lV2 GE277 GE280) hb
              (try clear hb)
              (try clear hb2)
              (try clear hk)
              (try clear hi)
              refine hK.out _ _ ⟨cz BK280 0 _, cz BK280 1 _, cz BK280 2 _, cz BK280 3 _, cz BK277 0 _, cz BK277 1 _, ((HB.out.cell (World.block_lt_of_cell? w _ hw282_0)).trans hw282_0), ((HB.out.cell (World.block_lt_of_cell? w _ hw282_1)).trans hw282_1), ((HB.out.cell (World.block_lt_of_cell? w _ hw282_2)).trans hw282_2), ((HB.out.cell (World.block_lt_of_cell? w _ hw282_3)).trans hw282_3)⟩ (fun hHeld => ?_)
              clear hK K
              refine norm_ (a' := ?_) ?_ ?_
              rotate_left
              ·show Act.put _ (some 26) _ = _
               simp only [Act.put, List.setIfInBounds_toArray, List.set_cons_zero, List.set_cons_succ, i64_w, i32_w]
               rfl
              refine pureA 4 27 (bz 21 31) rfl rfl (any_of HT_.out (by kernel_rfl)) ?_
              refine pureA 5 28 (bz 21 63) rfl rfl (any_of HT_.out (by kernel_rfl)) ?_
              refine pureA 6 29 (bz 21 127) rfl rfl (any_of HT_.out (by kernel_rfl)) ?_
              refine pureA 7 30 (bz 21 255) rfl rfl (any_of HT_.out (by kernel_rfl)) ?_
              refine pureA 8 31 (bz 21 511) rfl rfl (any_of HT_.out (by kernel_rfl)) ?_
              refine pureA 9 32 (bz 21 1023) rfl rfl (any_of HT_.out (by kernel_rfl)) ?_
              refine pureA 11 34 (bz 21 3071) rfl rfl (any_of HT_.out (by kernel_rfl)) ?_
              refine pureA 12 35 (bz 21 7167) rfl rfl (any_of HT_.out (by kernel_rfl)) ?_
              refine pureA 16 39 (bz 21 72703) rfl rfl (any_of HT_.out (by kernel_rfl)) ?_
              refine takeA 10 33 (bz 21 73727) rfl rfl (take_ofW HT_.out HW_.out (by kernel_rfl)) hHeld (by rintro w' ⟨s0, s1, s2, s3, s4, s5, s6, s7, s8, s9⟩; go_simp; with_reducible rfl) ?_
              refine pureA 13 36 (bz 21 81919) rfl rfl (any_of HT_.out (by kernel_rfl)) ?_
              refine pureA 14 37 (bz 21 98303) rfl rfl (any_of HT_.out (by kernel_rfl)) ?_
              refine takeA 15 38 (bz 21 131071) rfl rfl (take_ofW HT_.out HW_.out (by kernel_rfl)) hHeld (by rintro w' ⟨s0, s1, s2, s3, s4, s5, s6, s7, s8, s9⟩; go_simp; with_reducible rfl) ?_
              refine takeA 17 40 (bz 21 262143) rfl rfl (take_ofW HT_.out HW_.out (by kernel_rfl)) hHeld (by rintro w' ⟨s0, s1, s2, s3, s4, s5, s6, s7, s8, s9⟩; go_simp; with_reducible rfl) ?_
              refine pureA 18 41 (bz 21 524287) rfl rfl (any_of HT_.out (by kernel_rfl)) ?_
              refine pureA 19 42 (bz 21 1048575) rfl rfl (any_of HT_.out (by kernel_rfl)) ?_
              refine pureA 20 43 (bz 21 2097151) rfl rfl (any_of HT_.out (by kernel_rfl)) ?_
              refine done_ (done_of HT_.out (by kernel_rfl)) ?_
              try go_wp2
              go_roundg k2
              case measure => have := HJ1.out; have := HK2.out; omega
              case rel => exact ⟨(wrap64 (x18_2 + 1)), tE, H', ⟨by have := HJ1.out; have := HK2.out; omega⟩, ⟨by refine bU ?_; exact BK277.out⟩, ⟨by repeat (first | (with_reducible first | exact HB.out | apply below_alloc | apply pw_below_drewN | apply below_drew1 | refine below_set ?_ GE277.out | refine below_set ?_ GE280.out) | exact HB.out)⟩⟩
            ·rw [if_neg c18] at H
             exact absurd H (by simp)
           ·rw [if_neg c17] at H
            exact absurd H (by simp)
          ·rw [if_neg c15] at H
           have c15b0 : decide (0 < x18_2) = false := decide_eq_false c15
           clear c15
           have H' := Aside0.mk H
           clear H
           have p279 : 0 ≤ (x18_2 : Int) := of_decide_eq_true hE
           have q279 : x18_2 < (l0_1.length : Int) := of_decide_eq_true hE
           obtain ⟨ad279, e279, hx279_0, hx279_1, hx279_2, hx279_3⟩ := at_T47 HR0_1.out x18_2 p279 q279
           cases e279
           replace hx279_0 := (HB.out.cell (World.block_lt_of_cell? w _ hx279_0)).trans hx279_0
           replace hx279_1 := (HB.out.cell (World.block_lt_of_cell? w _ hx279_1)).trans hx279_1
           replace hx279_2 := (HB.out.cell (World.block_lt_of_cell? w _ hx279_2)).trans hx279_2
           replace hx279_3 := (HB.out.cell (World.block_lt_of_cell? w _ hx279_3)).trans hx279_3
           replace p279 := eq_true p279
           replace q279 := eq_true q279
           try go_wp2_with (first | ((with_reducible refine gate_dst (N := 4) rfl ?_); (try (refine gate_guard (by rfl) ?_; dsimp only)); refine box_event rfl (N := 4) rfl (cs := #[.int .i64 0, .int .i64 0, .int .i64 0, .int .i64 0]) (t := 47) sE ?_; intro gb280 hg w32 hbox hb; have BK280 := Aside0.mk hbox; have GW280 := gS w hg (lV1 GE277); have GE280 := gS w hg (lV1 GE277); replace HB := bH (lV1 GE277) hb; have NB277_280 := nL hg (bV BK277); have NB280_277 := nG hg (bV BK277); replace BK277 := bB (bV BK277) hb; clear hb hbox hg; have hnb33 := NB280_277.out; have hnc33 := NB277_280.out; have hcz34_0 := cz BK280 0 (.int .i64 0); have hcz34_1 := cz BK280 1 (.int .i64 0); have hcz34_2 := cz BK280 2 (.int .i64 0); have hcz34_3 := cz BK280 3 (.int .i64 0); have hfz34_0 := fz BK280 0; have hfz34_1 := fz BK280 1; have hfz34_2 := fz BK280 2; have hfz34_3 := fz BK280 3))
           have n0_ : Aside0 (((((w32.setCell ⟨gb280, 0, none⟩ (.int .i64 ((rd_T47 l0_1 x18_2).f0))).setCell ⟨gb280, 1, none⟩ (.int .i64 ((rd_T47 l0_1 x18_2).f1))).setCell ⟨gb280, 2, none⟩ (.int .i64 ((rd_T47 l0_1 x18_2).f2))).setCell ⟨gb280, 3, none⟩ (.int .i64 ((rd_T47 l0_1 x18_2).f3))).heap[gb277]? = some (.cells #[.int .i64 a0_0, .slice (some ad279) l0_1.length c0_1] 25 (0, 0))) := ⟨by refine bU ?_; refine blk_far ?_ NB277_280.out _; refine bU ?_; refine blk_far ?_ NB277_280.out _; refine bU ?_; refine blk_far ?_ NB277_280.out _; refine bU ?_; refine blk_far ?_ NB277_280.out _; refine bU ?_; exact BK277.out⟩
           have n1_ : Aside0 (((((w32.setCell ⟨gb280, 0, none⟩ (.int .i64 ((rd_T47 l0_1 x18_2).f0))).setCell ⟨gb280, 1, none⟩ (.int .i64 ((rd_T47 l0_1 x18_2).f1))).setCell ⟨gb280, 2, none⟩ (.int .i64 ((rd_T47 l0_1 x18_2).f2))).setCell ⟨gb280, 3, none⟩ (.int .i64 ((rd_T47 l0_1 x18_2).f3))).heap[gb280]? = some (.cells #[.int .i64 ((rd_T47 l0_1 x18_2).f0), .int .i64 ((rd_T47 l0_1 x18_2).f1), .int .i64 ((rd_T47 l0_1 x18_2).f2), .int .i64 ((rd_T47 l0_1 x18_2).f3)] 47 (0, 0))) := ⟨by refine bU ?_; refine blk_put (cs := #[.int .i64 ((rd_T47 l0_1 x18_2).f0), .int .i64 ((rd_T47 l0_1 x18_2).f1), .int .i64 ((rd_T47 l0_1 x18_2).f2), .int .i64 0]) ?_ 3 _ rfl; refine bU ?_; refine blk_put (cs := #[.int .i64 ((rd_T47 l0_1 x18_2).f0), .int .i64 ((rd_T47 l0_1 x18_2).f1), .int .i64 0, .int .i64 0]) ?_ 2 _ rfl; refine bU ?_; refine blk_put (cs := #[.int .i64 ((rd_T47 l0_1 x18_2).f0), .int .i64 0, .int .i64 0, .int .i64 0]) ?_ 1 _ rfl; refine bU ?_; refine blk_put (cs := #[.int .i64 0, .int .i64 0, .int .i64 0, .int .i64 0]) ?_ 0 _ rfl; refine bU ?_; exact BK280.out⟩
           have n2_ : Aside0 (Below w.heap.size w ((((w32.setCell ⟨gb280, 0, none⟩ (.int .i64 ((rd_T47 l0_1 x18_2).f0))).setCell ⟨gb280, 1, none⟩ (.int .i64 ((rd_T47 l0_1 x18_2).f1))).setCell ⟨gb280, 2, none⟩ (.int .i64 ((rd_T47 l0_1 x18_2).f2))).setCell ⟨gb280, 3, none⟩ (.int .i64 ((rd_T47 l0_1 x18_2).f3)))) := ⟨by repeat (first | (with_reducible first | exact HB.out | apply below_alloc | apply pw_below_drewN | apply below_drew1 | refine below_set ?_ GE277.out | refine below_set ?_ GE280.out) | exact HB.out)⟩
           (try clear BK277)
           (try clear BK280)
           (try clear HB)
           generalize ((((w32.setCell ⟨gb280, 0, none⟩ (.int .i64 ((rd_T47 l0_1 x18_2).f0))).setCell ⟨gb280, 1, none⟩ (.int .i64 ((rd_T47 l0_1 x18_2).f1))).setCell ⟨gb280, 2, none⟩ (.int .i64 ((rd_T47 l0_1 x18_2).f2))).setCell ⟨gb280, 3, none⟩ (.int .i64 ((rd_T47 l0_1 x18_2).f3))) = w35 at n0_ n1_ n2_ ⊢
           have BK277 := n0_
           have BK280 := n1_
           have HB := n2_
           clear n0_ n1_ n2_
           replace BK277 := Aside0.mk (blk_drew BK277.out)
           replace BK280 := Aside0.mk (blk_drew BK280.out)
           replace HB := Aside0.mk (below_drew1 HB.out)
           refine start_ (n := 21) (S := fun w' => w'.cell? ⟨gb280, 0, none⟩ = some (.int .i64 ((rd_T47 l0_1 x18_2).f0)) ∧ w'.cell? ⟨gb280, 1, none⟩ = some (.int .i64 ((rd_T47 l0_1 x18_2).f1)) ∧ w'.cell? ⟨gb280, 2, none⟩ = some (.int .i64 ((rd_T47 l0_1 x18_2).f2)) ∧ w'.cell? ⟨gb280, 3, none⟩ = some (.int .i64 ((rd_T47 l0_1 x18_2).f3)) ∧ w'.cell? ⟨gb277, 0, none⟩ = some (.int .i64 a0_0) ∧ w'.cell? ⟨gb277, 1, none⟩ = some (.slice (some ad279) l0_1.length c0_1)) (ds := []) #[false, false, false, false, false, false, false, false, false, false, false, false, false, false, false, false, false, false, false, false, false] (by kernel_rfl) rfl rfl ⟨cz BK280 0 _, cz BK280 1 _, cz BK280 2 _, cz BK280 3 _, cz BK277 0 _, cz BK277 1 _⟩ (fun hHeld => ?_); refine with_tabW impl_GoodClock.tab6 impl_GoodClock.bits6 (fun HT_ HW_ => ?_)
           generalize w35.drew = w36 at BK277 BK280 HB hHeld ⊢
           refine pureA 1 24 (bz 21 2) rfl rfl (any_of HT_.out (by kernel_rfl)) ?_
           refine takeA 0 23 (bz 21 3) rfl rfl (take_ofW HT_.out HW_.out (by kernel_rfl)) hHeld (by rintro w' ⟨s0, s1, s2, s3, s4, s5⟩; go_simp; with_reducible rfl) ?_
           refine takeA 2 25 (bz 21 7) rfl rfl (take_ofW HT_.out HW_.out (by kernel_rfl)) hHeld (by rintro w' ⟨s0, s1, s2, s3, s4, s5⟩; go_simp; with_reducible rfl) ?_
           refine one_ (i := 3) (N := some 26) (bz 21 15) rfl rfl (one_of HT_.out (by kernel_rfl)) (by decide) (fun K hK => ?_)
           refine goes_ Try.func23 (by kernel_rfl) rfl #[.agg #[.int .i64 ((rd_T47 l0_1 x18_2).f0), .int .i64 ((rd_T47 l0_1 x18_2).f1), .int .i64 ((rd_T47 l0_1 x18_2).f2), .int .i64 ((rd_T47 l0_1 x18_2).f3)], .int .i64 a0_0] (by rfl) rfl rfl aE ?_
           with_reducible refine (impl_isTimer.calls ((rd_T47 l0_1 x18_2).f0) ((rd_T47 l0_1 x18_2).f1) ((rd_T47 l0_1 x18_2).f2) ((rd_T47 l0_1 x18_2).f3) a0_0 true _ A13.out).mono ?_
           rintro e w37 ⟨rfl, hb⟩
           refine ⟨_, rfl, ?_⟩
           replace BK277 := bB (bV BK277) hb
           replace BK280 := bB (bV BK280) hb
           replace HB := bH (lV2 GE277 GE280) hb
           (try clear hb)
           (try clear hb2)
           (try clear hk)
           (try clear hi)
           refine hK.out _ _ ⟨cz BK280 0 _, cz BK280 1 _, cz BK280 2 _, cz BK280 3 _, cz BK277 0 _, cz BK277 1 _⟩ (fun hHeld => ?_)
           clear hK K
           refine norm_ (a' := ?_) ?_ ?_
           rotate_left
           ·show Act.put _ (some 26) _ = _
            simp only [Act.put, List.setIfInBounds_toArray, List.set_cons_zero, List.set_cons_succ, i64_w, i32_w]
            rfl
           refine pureA 4 27 (bz 21 31) rfl rfl (any_of HT_.out (by kernel_rfl)) ?_
           refine pureA 5 28 (bz 21 63) rfl rfl (any_of HT_.out (by kernel_rfl)) ?_
           refine pureA 6 29 (bz 21 127) rfl rfl (any_of HT_.out (by kernel_rfl)) ?_
           refine pureA 7 30 (bz 21 255) rfl rfl (any_of HT_.out (by kernel_rfl)) ?_
           refine pureA 8 31 (bz 21 511) rfl rfl (any_of HT_.out (by kernel_rfl)) ?_
           refine pureU 9 32 (bz 21 1023) rfl rfl (any_of HT_.out (by kernel_rfl)) ?_
           refine pureU 10 33 (bz 21 2047) rfl rfl (any_of HT_.out (by kernel_rfl)) ?_
           refine pureU 11 34 (bz 21 4095) rfl rfl (any_of HT_.out (by kernel_rfl)) ?_
           refine pureU 12 35 (bz 21 8191) rfl rfl (any_of HT_.out (by kernel_rfl)) ?_
           refine pureU 13 36 (bz 21 16383) rfl rfl (any_of HT_.out (by kernel_rfl)) ?_
           refine pureU 14 37 (bz 21 32767) rfl rfl (any_of HT_.out (by kernel_rfl)) ?_
           refine pureU 15 38 (bz 21 65535) rfl rfl (any_of HT_.out (by kernel_rfl)) ?_
           refine pureU 16 39 (bz 21 131071) rfl rfl (any_of HT_.out (by kernel_rfl)) ?_
           refine pureU 17 40 (bz 21 262143) rfl rfl (any_of HT_.out (by kernel_rfl)) ?_
           refine pureU 18 41 (bz 21 524287) rfl rfl (any_of HT_.out (by kernel_rfl)) ?_
           refine pureA 19 42 (bz 21 1048575) rfl rfl (any_of HT_.out (by kernel_rfl)) ?_
           refine pureA 20 43 (bz 21 2097151) rfl rfl (any_of HT_.out (by kernel_rfl)) ?_
           refine done_ (done_of HT_.out (by kernel_rfl)) ?_
           try go_wp2
           go_roundg k2
           case measure => have := HJ1.out; have := HK2.out; omega
           case rel => exact ⟨(wrap64 (x18_2 + 1)), tE, H', ⟨by have := HJ1.out; have := HK2.out; omega⟩, ⟨by refine bU ?_; exact BK277.out⟩, ⟨by repeat (first | (with_reducible first | exact HB.out | apply below_alloc | apply pw_below_drewN | apply below_drew1 | refine below_set ?_ GE277.out | refine below_set ?_ GE280.out) | exact HB.out)⟩⟩
         ·replace c14 := Bool.eq_false_iff.mpr c14
          subst c14
          have H1 : (some false) = some r := by rw [if_neg (show ¬ (false = true) by decide)] at H; exact H
          clear H
          have H := H1
          clear H1
          obtain rfl := Option.some.inj H
          have p279 : 0 ≤ (x18_2 : Int) := of_decide_eq_true hE
          have q279 : x18_2 < (l0_1.length : Int) := of_decide_eq_true hE
          obtain ⟨ad279, e279, hx279_0, hx279_1, hx279_2, hx279_3⟩ := at_T47 HR0_1.out x18_2 p279 q279
          cases e279
          replace hx279_0 := (HB.out.cell (World.block_lt_of_cell? w _ hx279_0)).trans hx279_0
          replace hx279_1 := (HB.out.cell (World.block_lt_of_cell? w _ hx279_1)).trans hx279_1
          replace hx279_2 := (HB.out.cell (World.block_lt_of_cell? w _ hx279_2)).trans hx279_2
          replace hx279_3 := (HB.out.cell (World.block_lt_of_cell? w _ hx279_3)).trans hx279_3
          replace p279 := eq_true p279
          replace q279 := eq_true q279
          try go_wp2_with (first | ((with_reducible refine gate_dst (N := 4) rfl ?_); (try (refine gate_guard (by rfl) ?_; dsimp only)); refine box_event rfl (N := 4) rfl (cs := #[.int .i64 0, .int .i64 0, .int .i64 0, .int .i64 0]) (t := 47) sE ?_; intro gb280 hg w38 hbox hb; have BK280 := Aside0.mk hbox; have GW280 := gS w hg (lV1 GE277); have GE280 := gS w hg (lV1 GE277); replace HB := bH (lV1 GE277) hb; have NB277_280 := nL hg (bV BK277); have NB280_277 := nG hg (bV BK277); replace BK277 := bB (bV BK277) hb; clear hb hbox hg; have hnb39 := NB280_277.out; have hnc39 := NB277_280.out; have hcz40_0 := cz BK280 0 (.int .i64 0); have hcz40_1 := cz BK280 1 (.int .i64 0); have hcz40_2 := cz BK280 2 (.int .i64 0); have hcz40_3 := cz BK280 3 (.int .i64 0); have hfz40_0 := fz BK280 0; have hfz40_1 := fz BK280 1; have hfz40_2 := fz BK280 2; have hfz40_3 := fz BK280 3))
          have n0_ : Aside0 (((((w38.setCell ⟨gb280, 0, none⟩ (.int .i64 ((rd_T47 l0_1 x18_2).f0))).setCell ⟨gb280, 1, none⟩ (.int .i64 ((rd_T47 l0_1 x18_2).f1))).setCell ⟨gb280, 2, none⟩ (.int .i64 ((rd_T47 l0_1 x18_2).f2))).setCell ⟨gb280, 3, none⟩ (.int .i64 ((rd_T47 l0_1 x18_2).f3))).heap[gb277]? = some (.cells #[.int .i64 a0_0, .slice (some ad279) l0_1.length c0_1] 25 (0, 0))) := ⟨by refine bU ?_; refine blk_far ?_ NB277_280.out _; refine bU ?_; refine blk_far ?_ NB277_280.out _; refine bU ?_; refine blk_far ?_ NB277_280.out _; refine bU ?_; refine blk_far ?_ NB277_280.out _; refine bU ?_; exact BK277.out⟩
          have n1_ : Aside0 (((((w38.setCell ⟨gb280, 0, none⟩ (.int .i64 ((rd_T47 l0_1 x18_2).f0))).setCell ⟨gb280, 1, none⟩ (.int .i64 ((rd_T47 l0_1 x18_2).f1))).setCell ⟨gb280, 2, none⟩ (.int .i64 ((rd_T47 l0_1 x18_2).f2))).setCell ⟨gb280, 3, none⟩ (.int .i64 ((rd_T47 l0_1 x18_2).f3))).heap[gb280]? = some (.cells #[.int .i64 ((rd_T47 l0_1 x18_2).f0), .int .i64 ((rd_T47 l0_1 x18_2).f1), .int .i64 ((rd_T47 l0_1 x18_2).f2), .int .i64 ((rd_T47 l0_1 x18_2).f3)] 47 (0, 0))) := ⟨by refine bU ?_; refine blk_put (cs := #[.int .i64 ((rd_T47 l0_1 x18_2).f0), .int .i64 ((rd_T47 l0_1 x18_2).f1), .int .i64 ((rd_T47 l0_1 x18_2).f2), .int .i64 0]) ?_ 3 _ rfl; refine bU ?_; refine blk_put (cs := #[.int .i64 ((rd_T47 l0_1 x18_2).f0), .int .i64 ((rd_T47 l0_1 x18_2).f1), .int .i64 0, .int .i64 0]) ?_ 2 _ rfl; refine bU ?_; refine blk_put (cs := #[.int .i64 ((rd_T47 l0_1 x18_2).f0), .int .i64 0, .int .i64 0, .int .i64 0]) ?_ 1 _ rfl; refine bU ?_; refine blk_put (cs := #[.int .i64 0, .int .i64 0, .int .i64 0, .int .i64 0]) ?_ 0 _ rfl; refine bU ?_; exact BK280.out⟩
          have n2_ : Aside0 (Below w.heap.size w ((((w38.setCell ⟨gb280, 0, none⟩ (.int .i64 ((rd_T47 l0_1 x18_2).f0))).setCell ⟨gb280, 1, none⟩ (.int .i64 ((rd_T47 l0_1 x18_2).f1))).setCell ⟨gb280, 2, none⟩ (.int .i64 ((rd_T47 l0_1 x18_2).f2))).setCell ⟨gb280, 3, none⟩ (.int .i64 ((rd_T47 l0_1 x18_2).f3)))) := ⟨by repeat (first | (with_reducible first | exact HB.out | apply below_alloc | apply pw_below_drewN | apply below_drew1 | refine below_set ?_ GE277.out | refine below_set ?_ GE280.out) | exact HB.out)⟩
          (try clear BK277)
          (try clear BK280)
          (try clear HB)
          generalize ((((w38.setCell ⟨gb280, 0, none⟩ (.int .i64 ((rd_T47 l0_1 x18_2).f0))).setCell ⟨gb280, 1, none⟩ (.int .i64 ((rd_T47 l0_1 x18_2).f1))).setCell ⟨gb280, 2, none⟩ (.int .i64 ((rd_T47 l0_1 x18_2).f2))).setCell ⟨gb280, 3, none⟩ (.int .i64 ((rd_T47 l0_1 x18_2).f3))) = w41 at n0_ n1_ n2_ ⊢
          have BK277 := n0_
          have BK280 := n1_
          have HB := n2_
          clear n0_ n1_ n2_
          replace BK277 := Aside0.mk (blk_drew BK277.out)
          replace BK280 := Aside0.mk (blk_drew BK280.out)
          replace HB := Aside0.mk (below_drew1 HB.out)
          refine start_ (n := 21) (S := fun w' => w'.cell? ⟨gb280, 0, none⟩ = some (.int .i64 ((rd_T47 l0_1 x18_2).f0)) ∧ w'.cell? ⟨gb280, 1, none⟩ = some (.int .i64 ((rd_T47 l0_1 x18_2).f1)) ∧ w'.cell? ⟨gb280, 2, none⟩ = some (.int .i64 ((rd_T47 l0_1 x18_2).f2)) ∧ w'.cell? ⟨gb280, 3, none⟩ = some (.int .i64 ((rd_T47 l0_1 x18_2).f3)) ∧ w'.cell? ⟨gb277, 0, none⟩ = some (.int .i64 a0_0) ∧ w'.cell? ⟨gb277, 1, none⟩ = some (.slice (some ad279) l0_1.length c0_1)) (ds := []) #[false, false, false, false, false, false, false, false, false, false, false, false, false, false, false, false, false, false, false, false, false] (by kernel_rfl) rfl rfl ⟨cz BK280 0 _, cz BK280 1 _, cz BK280 2 _, cz BK280 3 _, cz BK277 0 _, cz BK277 1 _⟩ (fun hHeld => ?_); refine with_tabW impl_GoodClock.tab6 impl_GoodClock.bits6 (fun HT_ HW_ => ?_)
          generalize w41.drew = w42 at BK277 BK280 HB hHeld ⊢
          refine pureA 1 24 (bz 21 2) rfl rfl (any_of HT_.out (by kernel_rfl)) ?_
          refine takeA 0 23 (bz 21 3) rfl rfl (take_ofW HT_.out HW_.out (by kernel_rfl)) hHeld (by rintro w' ⟨s0, s1, s2, s3, s4, s5⟩; go_simp; with_reducible rfl) ?_
          refine takeA 2 25 (bz 21 7) rfl rfl (take_ofW HT_.out HW_.out (by kernel_rfl)) hHeld (by rintro w' ⟨s0, s1, s2, s3, s4, s5⟩; go_simp; with_reducible rfl) ?_
          refine one_ (i := 3) (N := some 26) (bz 21 15) rfl rfl (one_of HT_.out (by kernel_rfl)) (by decide) (fun K hK => ?_)
          refine goes_ Try.func23 (by kernel_rfl) rfl #[.agg #[.int .i64 ((rd_T47 l0_1 x18_2).f0), .int .i64 ((rd_T47 l0_1 x18_2).f1), .int .i64 ((rd_T47 l0_1 x18_2).f2), .int .i64 ((rd_T47 l0_1 x18_2).f3)], .int .i64 a0_0] (by rfl) rfl rfl aE ?_
          with_reducible refine (impl_isTimer.calls ((rd_T47 l0_1 x18_2).f0) ((rd_T47 l0_1 x18_2).f1) ((rd_T47 l0_1 x18_2).f2) ((rd_T47 l0_1 x18_2).f3) a0_0 false _ A13.out).mono ?_
          rintro e w43 ⟨rfl, hb⟩
          refine ⟨_, rfl, ?_⟩
          replace BK277 := bB (bV BK277) hb
          replace BK280 := bB (bV BK280) hb
          replace HB := bH (lV2 GE277 GE280) hb
          (try clear hb)
          (try clear hb2)
          (try clear hk)
          (try clear hi)
          refine hK.out _ _ ⟨cz BK280 0 _, cz BK280 1 _, cz BK280 2 _, cz BK280 3 _, cz BK277 0 _, cz BK277 1 _⟩ (fun hHeld => ?_)
          clear hK K
          refine norm_ (a' := ?_) ?_ ?_
          rotate_left
          ·show Act.put _ (some 26) _ = _
           simp only [Act.put, List.setIfInBounds_toArray, List.set_cons_zero, List.set_cons_succ, i64_w, i32_w]
           rfl
          refine pureA 4 27 (bz 21 31) rfl rfl (any_of HT_.out (by kernel_rfl)) ?_
          refine pureA 5 28 (bz 21 63) rfl rfl (any_of HT_.out (by kernel_rfl)) ?_
          refine pureU 6 29 (bz 21 127) rfl rfl (any_of HT_.out (by kernel_rfl)) ?_
          refine pureU 7 30 (bz 21 255) rfl rfl (any_of HT_.out (by kernel_rfl)) ?_
          refine pureU 8 31 (bz 21 511) rfl rfl (any_of HT_.out (by kernel_rfl)) ?_
          refine pureU 9 32 (bz 21 1023) rfl rfl (any_of HT_.out (by kernel_rfl)) ?_
          refine pureU 10 33 (bz 21 2047) rfl rfl (any_of HT_.out (by kernel_rfl)) ?_
          refine pureU 11 34 (bz 21 4095) rfl rfl (any_of HT_.out (by kernel_rfl)) ?_
          refine pureU 12 35 (bz 21 8191) rfl rfl (any_of HT_.out (by kernel_rfl)) ?_
          refine pureU 13 36 (bz 21 16383) rfl rfl (any_of HT_.out (by kernel_rfl)) ?_
          refine pureU 14 37 (bz 21 32767) rfl rfl (any_of HT_.out (by kernel_rfl)) ?_
          refine pureU 15 38 (bz 21 65535) rfl rfl (any_of HT_.out (by kernel_rfl)) ?_
          refine pureU 16 39 (bz 21 131071) rfl rfl (any_of HT_.out (by kernel_rfl)) ?_
          refine pureU 17 40 (bz 21 262143) rfl rfl (any_of HT_.out (by kernel_rfl)) ?_
          refine pureU 18 41 (bz 21 524287) rfl rfl (any_of HT_.out (by kernel_rfl)) ?_
          refine pureU 19 42 (bz 21 1048575) rfl rfl (any_of HT_.out (by kernel_rfl)) ?_
          refine pureA 20 43 (bz 21 2097151) rfl rfl (any_of HT_.out (by kernel_rfl)) ?_
          refine done_ (done_of HT_.out (by kernel_rfl)) ?_
          try go_wp2
          go_ret
          exact ⟨eE, lV2 GE277 GE280⟩
        ·rw [if_neg c12] at H
         exact absurd H (by simp)
       ·rw [if_neg c11] at H
        exact absurd H (by simp)
      ·rw [if_neg c10] at H
       have c10b0 : decide (x18_2 < (l0_1.length : Int)) = false := decide_eq_false c10
       clear c10
       obtain rfl := Option.some.inj H
       go_wp2
       go_ret
       exact ⟨eE, lV1 GE277⟩
end Go.Proofs.Ythacmchmppnldaa.PFnPieces
namespace Go.Proofs.Ythacmchmppnldaa.PFnPieces
open Go.RowKit Go.Proofs.YthacmchmppnldaaW.PrintWords Go.Proofs.YthacmchmppnldaaW.PrintLast Go.Proofs.YthacmchmppnldaaW.PrintMore
attribute [local go_sem] max2_int min2_int max_two min_two max_three min_three max_four min_four   -- for this text's walks alone
set_option linter.unusedVariables false
set_option linter.unusedSimpArgs false
def impl_Timer_15.f (l0 : List (S47)) : Option (List (S47)) := if l0.length < 4398046511104 then (some l0) else (none)
set_option maxHeartbeats 8000000 in
set_option maxRecDepth 100000 in
theorem impl_Timer_15.calls (A0 : Option Addr) (c0 : Nat) (l0 : List (S47)) (r : List (S47)) (w : World) (hr0 : Kd.C k47 w A0 l0.length l0) (hc0 : l0.length ≤ c0) (h : impl_Timer_15.f l0 = some r) :
  Calls Try.prog 15 #[.slice A0 l0.length c0] w fun e w' => ∃ v0_ : Value, e = .returned (v0_) ∧ Kd.R k47 47 w' w.heap.size (fun _ => True) v0_ r ∧ Below w.heap.size w w' := by
 have hl : l0.length < 4398046511104 ∧ l0 = r := by
  unfold impl_Timer_15.f at h
  split at h
  ·exact ⟨by assumption, Option.some.inj h⟩
  ·cases h
 clear h
 obtain ⟨hl, rfl⟩ := hl
 have HL := Aside0.mk hl
 have HR0 := Aside0.mk hr0
 clear hr0 hl
 have HT := Try.underlying23
 have u0 : ∀ w, Sem.run Try.prog (underlying 23) w = .ok (TypeDesc.slice 47) w := run_underlying HT
 have q0 : ∀ (w : World) (a : Option Addr) (n c n' c' : Nat), (binOp .eql 23 (.slice a n c) (.slice none n' c')).run Try.prog w = .ok (.bool a.isNone) w := fun w a n c n' c' => Lib.run_eql_slice_nil w _ _ a n c n' c' HT
 cases A0 with
 | none =>
  obtain rfl : l0 = [] := by
   rcases Nat.eq_zero_or_pos l0.length with h0 | h0
   ·exact List.eq_nil_of_length_eq_zero h0
   ·obtain ⟨ad, h1, _⟩ := HR0.out.2.2 h0
    cases h1
  go_enter Try.func15, Try.ntmps15
  go_wp2
  go_ret
  exact ⟨_, rfl, Kd.R_nil _ _ _ _ _, Below.refl _ _⟩
 | some ad =>
  go_enter Try.func15, Try.ntmps15
  go_wp2_with (first | ((with_reducible refine gate_builtin (b := .append) (xs := #[.tmp 5, .tmp 6]) rfl ?_); at_builtin; refine Kd.R_append_rows k47 (w0 := w) w.heap.size rfl (.tmp 5) (.tmp 6) 23 47 (.agg #[(.int .i64 0), (.int .i64 0), (.int .i64 0), (.int .i64 0)]) 32 rfl Try.underlying23 info47 rfl (by decide) (by omega) (.slice (some ⟨w.heap.size, 0, none⟩) 0 0) [] l0 (some ad) l0.length c0 (fun _ => True) (fun _ => False) rfl rfl ?aO ?aR (fun _ _ h => h) (fun _ h => h.elim) ?aF ?aB ?aS ?aL ?_; (case aR => exact Kd.C_below HR0.out (below_alloc (Below.refl _ _) _)); (case aB => exact below_alloc (Below.refl _ _) _); (case aF => exact fun _ _ => trivial); (case aO => exact ⟨fun _ _ => trivial, [], World.ownsRow_made w #[] 0 (Nat.le_refl _) (Nat.zero_le _) rfl, ⟨rfl, fun j p hj => by simp at hj⟩⟩); (case aS => simp); (case aL => have := HL.out; simp only [List.length_nil, Nat.zero_add]; omega); intro v1 w1 ho hb hg hat; rw [List.nil_append] at ho; have HO := Aside0.mk ho; have HB := Aside0.mk hb; clear ho hb hg hat))
  go_ret
  exact ⟨_, rfl, HO.out, HB.out⟩
def impl_Timer_16.f (l0 : List (S47)) (a1 : Int) (a2 : Int) : Option (List (S47)) := if 0 ≤ a1 then (if a1 < (l0.length : Int) then (if a2 = a1 + 1 then (some (l0.eraseIdx (a1 : Int).toNat)) else (none)) else (none)) else (none)
set_option maxHeartbeats 8000000 in
set_option maxRecDepth 100000 in
theorem impl_Timer_16.calls (P0_ : Nat → Prop) (u9000_ : Value) (l0 : List (S47)) (a1 : Int) (a2 : Int) (r : List (S47)) (w0 w : World) (hB : Below w0.heap.size w0 w) (ho0 : Kd.R k47 47 w w0.heap.size P0_ u9000_ l0) (h : impl_Timer_16.f l0 a1 a2 = some r) :
  Calls Try.prog 16 #[u9000_, .int .i64 a1, .int .i64 a2] w fun e w' => ∃ v0_ : Value, e = .returned (v0_) ∧ Kd.R k47 47 w' w0.heap.size (fun k_ => (P0_ k_ ∨ w.heap.size ≤ k_)) v0_ r ∧ Below w0.heap.size w0 w' ∧ Kept w w' (fun k_ => P0_ k_) := by
 obtain ⟨h0, h1, h2, rfl⟩ : 0 ≤ a1 ∧ a1 < (l0.length : Int) ∧ a2 = a1 + 1 ∧ l0.eraseIdx a1.toNat = r := by
  unfold impl_Timer_16.f at h
  split at h
  ·split at h
   ·split at h
    ·exact ⟨by assumption, by assumption, by assumption, Option.some.inj h⟩
    ·cases h
   ·cases h
  ·cases h
 clear h
 obtain ⟨g, c, rfl, hg0, hg1, hg2⟩ := Kd.R_form ho0 (by omega)
 obtain ⟨_, hnc, _⟩ := Kd.R_reads' ho0
 have hgP : P0_ g := ho0.1 g (by simp [Value.ownBlock])
 obtain ⟨i, rfl⟩ : ∃ i : Nat, a1 = (i : Int) := ⟨a1.toNat, by omega⟩
 have hi : i < l0.length := by omega
 have HT := Try.underlying23
 obtain ⟨i0, hi0, hz0, hz1, hz2⟩ := info_parts info47
 have cut3 : ∀ W : World, (Instr.slice 23 (.slice (some ⟨g, 0, none⟩) l0.length c) (some (.int .i64 (i : Int))) (some (.int .i64 a2)) (some (.int .i64 (l0.length : Int)))).run Try.prog W = .ok (.slice (if l0.length = i then some ⟨g, 0, none⟩ else (some (⟨g, 0, none⟩ : Addr)).map (·.add (i * 4))) (a2.toNat - i) (l0.length - i)) W := by
  intro W
  have hel : Try.prog.elem 23 = 47 := by simp [Program.elem, HT]
  have hu : Try.prog.underlying 23 = some (.slice (Try.prog.elem 23)) := by rw [hel]; exact HT
  rw [run_slice_lhm W 23 (some ⟨g, 0, none⟩) l0.length c hu .i64 .i64 .i64 (i : Int) a2 (l0.length : Int) (by omega) (by omega) (by omega) (by omega), hel]
  simp [sizeOf, typeInfo, hi0, hz1, sliced, Result.andThen]
 have cut1 := cut_to (P := Try.prog) 23 47 .i64 HT hi0 (some ⟨g, 0, none⟩) l0.length c (i : Int) (by omega) (by omega) hnc
 have cut2 := cut_from (P := Try.prog) 23 47 .i64 HT hi0 4 hz1 (some ⟨g, 0, none⟩) l0.length c a2 (by omega) (by omega)
 have ei : ((i : Int)).toNat = i := rfl
 have e2 : a2.toNat = i + 1 := by omega
 rw [ei] at cut1 ⊢
 rw [e2] at cut2 cut3
 obtain ⟨A3, hA3⟩ : ∃ A3, A3 = (if l0.length = i then some ⟨g, 0, none⟩ else (some (⟨g, 0, none⟩ : Addr)).map (·.add (i * 4))) := ⟨_, rfl⟩
 obtain ⟨A2, hA2⟩ : ∃ A2, A2 = (if c = i + 1 then some ⟨g, 0, none⟩ else (some (⟨g, 0, none⟩ : Addr)).map (·.add ((i + 1) * 4))) := ⟨_, rfl⟩
 rw [← hA3] at cut3
 rw [← hA2] at cut2
 have HA2 := Aside0.mk hA2
 clear hA3 hA2
 have hne : ((i : Int) == a2) = false := by simp; omega
 have HL := Aside0.mk (show (l0.eraseIdx i).length = l0.length - 1 by rw [List.length_eraseIdx_of_lt hi])
 have cut4 : ∀ W : World, (Instr.slice 23 (.slice (some ⟨g, 0, none⟩) (l0.length - 1) c) (some (.int .i64 ((l0.length - 1 : Nat) : Int))) (some (.int .i64 (l0.length : Int))) none).run Try.prog W = .ok (.slice (some ⟨g, (l0.length - 1) * 4, none⟩) 1 (c - (l0.length - 1))) W := by
  intro W
  have hel : Try.prog.elem 23 = 47 := by simp [Program.elem, HT]
  have hu : Try.prog.underlying 23 = some (.slice (Try.prog.elem 23)) := by rw [hel]; exact HT
  rw [run_slice_lh W 23 (some ⟨g, 0, none⟩) (l0.length - 1) c hu .i64 .i64 ((l0.length - 1 : Nat) : Int) (l0.length : Int) (by omega) (by omega) (by omega), hel]
  have e1 : ¬ c = l0.length - 1 := by omega
  have e2 : l0.length - (l0.length - 1) = 1 := by omega
  simp [sizeOf, typeInfo, hi0, hz1, sliced, Result.andThen, e1, e2, add_plain]
 have HI := Aside0.mk hi
 have HC := Aside0.mk hnc
 have HO := Aside0.mk ho0
 have HB := Aside0.mk hB
 have HS := Aside0.mk hB.size
 have HG := Aside0.mk hgP
 have HGB := Aside0.mk hg0
 clear hi hnc ho0 hB hgP hg0 hg1 hg2 h1 h0 h2 ei e2 hi0 hz0 hz1 hz2
 go_enter Try.func16, Try.ntmps16
 go_wp2_with fail
 go_region_law ((refine Kd.R_delete_step k47 (w0 := w0) w0.heap.size ?hw (.tmp 22) (.tmp 25) 23 47 ?ho Try.underlying23 ?hi (g := g) (n := l0.length) (c := c) (k := i) (m := l0.length - (i + 1)) (c2 := c - (i + 1)) (A := A2) (xs := l0) (ok := P0_) ?hs ?hx HA2.out ?hm ?hR HI.out ?hB ?hb ?_); (case hw => simp [Region.wanted]); (case ho => rfl); (case hi => kernel_rfl); (case hs => simp [Act.eval, Act.put]); (case hx => simp [Act.eval, Act.put]); (case hm => rfl); (case hR => (with_reducible repeat (first | apply Kd.R_alloc | apply Kd.R_drewN | apply Kd.R_drew)); exact HO.out); (case hB => repeat (first | (with_reducible first | exact HB.out | apply below_alloc | apply pw_below_drewN | apply below_drew1) | exact HB.out)); (case hb => exact HS.out); intro w1 ho hb hg)
 have HO1 := Aside0.mk ho
 have HB1 := Aside0.mk hb
 have HG1 := Aside0.mk hg
 clear ho hb hg
 obtain ⟨j0, hj0, hy0, _, _⟩ := info_parts info47
 obtain ⟨w2, hrun, ho2, hg2⟩ := Kd.R_clear_run (P := Try.prog) k47 w0.heap.size 23 0 47 j0 (.agg #[(.int .i64 0), (.int .i64 0), (.int .i64 0), (.int .i64 0)]) Try.underlying23 hj0 hy0 rfl (by simp [Value.cells, Value.oneCell']) (m := 1) (cc := c - (l0.length - 1)) HO1.out (by omega) (by have := HI.out; have := HC.out; omega)
 have HO2 := Aside0.mk ho2
 have HG2 := Aside0.mk hg2
 have hrun' : (Builtin.clear_ #[23] 0 #[.slice (some ⟨g, (l0.length - 1) * 4, none⟩) 1 (c - (l0.length - 1))]).run Try.prog w1 = .ok (.tuple #[]) w2 := hrun
 clear ho2 hg2 hj0 hy0 hrun
 go_wp2
 go_ret
 exact ⟨_, rfl, Kd.R_mono HO2.out (fun _ hk => .inl hk), HB1.out.grown HG2.out (Nat.le_trans HS.out HG1.out.size) (fun k hk => by injection hk with hk; exact hk ▸ HGB.out), Kept.of_grown HG2.out (Kept.of_grown HG1.out (Kept.drew (Kept.refl w _)) (fun k hk => by injection hk with hk; exact .inl (hk ▸ HG.out))) (fun k hk => by injection hk with hk; exact .inl (hk ▸ HG.out))⟩
end Go.Proofs.Ythacmchmppnldaa.PFnPieces
namespace Go.Proofs.Ythacmchmppnldaa.PFnPieces
open Go.RowKit Go.Proofs.YthacmchmppnldaaW.PrintWords Go.Proofs.YthacmchmppnldaaW.PrintLast Go.Proofs.YthacmchmppnldaaW.PrintMore
attribute [local go_sem] max2_int min2_int max_two min_two max_three min_three max_four min_four   -- for this text's walks alone
set_option linter.unusedVariables false
set_option linter.unusedSimpArgs false
mutual
def impl_RunClock.j0 : Nat → Int → Bool → Int → List (S47) → Option (Int × (List (S47)) × (List (S50)) × Bool)
 | 0, _, _, _, _ => none
 | k + 1, x1, x22, x284000, x284001 => if x22 = true then (some (0, ([] : List (S47)), ([] : List (S50)), false)) else ((impl_Timer_15.f x284001).bind fun t287 => (impl_RunClock.l0 k x1 t287 (([] : List (S50)))))
def impl_RunClock.l0 : Nat → Int → List (S47) → List (S50) → Option (Int × (List (S47)) × (List (S50)) × Bool)
 | 0, _, _, _ => none
 | k + 1, x1, x7, x8 => impl_RunClock.l1 k x1 x7 x8 (-1) x7 (x7.length : Int) 0
def impl_RunClock.l1 : Nat → Int → List (S47) → List (S50) → Int → List (S47) → Int → Int → Option (Int × (List (S47)) × (List (S50)) × Bool)
 | 0, _, _, _, _, _, _, _ => none
 | k + 1, x1, x7, x8, x9, x28, x29, x30 => if x30 < x29 then (if 0 ≤ x30 then (if x30 < (x28.length : Int) then (if ((rd_T47 x28 x30).f1) ≤ x1 then (if x9 < 0 then (impl_RunClock.l1 k x1 x7 x8 x30 x28 x29 (wrap64 (x30 + 1))) else (if 0 ≤ x9 then (if x9 < (x7.length : Int) then (if ((rd_T47 x28 x30).f1) < ((rd_T47 x7 x9).f1) then (impl_RunClock.l1 k x1 x7 x8 x30 x28 x29 (wrap64 (x30 + 1))) else (impl_RunClock.l1 k x1 x7 x8 x9 x28 x29 (wrap64 (x30 + 1)))) else (none)) else (none))) else (impl_RunClock.l1 k x1 x7 x8 x9 x28 x29 (wrap64 (x30 + 1)))) else (none)) else (none)) else (if x9 < 0 then (some (x1, x7, x8, true)) else (if 0 ≤ x9 then (if x9 < (x7.length : Int) then (if x8.length < 8796093022208 then ((some (x8 ++ [(⟨(rd_T47 x7 x9).f1, (rd_T47 x7 x9).f0⟩ : S50)] : List (S50))).bind fun y298 => (if (y298.length : Int) > 2000 then (some (0, ([] : List (S47)), ([] : List (S50)), false)) else (if ((rd_T47 x7 x9).f2) > 0 then (if ((rd_T47 x7 x9).f3) > 1 then ((some (x7.set (x9 : Int).toNat (⟨(rd_T47 x7 x9).f0, (rd_T47 x7 x9).f1, (rd_T47 x7 x9).f2, wrap64 (((rd_T47 x7 x9).f3) - 1)⟩ : S47) : List (S47))).bind fun y304 => (impl_RunClock.l0 k x1 (y304.set (x9 : Int).toNat (⟨(rd_T47 y304 x9).f0, wrap64 (((rd_T47 y304 x9).f1) + ((rd_T47 y304 x9).f2)), (rd_T47 y304 x9).f2, (rd_T47 y304 x9).f3⟩ : S47)) y298)) else ((impl_Timer_16.f x7 x9 (wrap64 (x9 + 1))).bind fun t308 => (impl_RunClock.l0 k x1 t308 y298))) else ((impl_Timer_16.f x7 x9 (wrap64 (x9 + 1))).bind fun t311 => (impl_RunClock.l0 k x1 t311 y298))))) else (none)) else (none)) else (none)))
end
def impl_RunClock.f (k : Nat) (a0_0 : Int) (l0_1 : List (S47)) (a1 : Int) : Option (Int × (List (S47)) × (List (S50)) × Bool) := (impl_GoodClock.f k a0_0 l0_1).bind fun t285 => (if t285 = true then ((impl_inRange.f a1 a0_0 100000).bind fun t286 => (impl_RunClock.j0 k a1 (!t286) a0_0 l0_1)) else (impl_RunClock.j0 k a1 true a0_0 l0_1))
theorem impl_RunClock.mono_l : ∀ k, (∀ y0 y1 y2 y3, LeO (impl_RunClock.j0 k y0 y1 y2 y3) (impl_RunClock.j0 (k + 1) y0 y1 y2 y3)) ∧ (∀ y0 y1 y2, LeO (impl_RunClock.l0 k y0 y1 y2) (impl_RunClock.l0 (k + 1) y0 y1 y2)) ∧ (∀ y0 y1 y2 y3 y4 y5 y6, LeO (impl_RunClock.l1 k y0 y1 y2 y3 y4 y5 y6) (impl_RunClock.l1 (k + 1) y0 y1 y2 y3 y4 y5 y6))
 | 0 => ⟨fun _ _ _ _ r h => by simp [impl_RunClock.j0] at h, fun _ _ _ r h => by simp [impl_RunClock.l0] at h, fun _ _ _ _ _ _ _ r h => by simp [impl_RunClock.l1] at h⟩
 | k + 1 => by
  obtain ⟨ih0, ih1, ih2⟩ := impl_RunClock.mono_l k
  refine ⟨?_, ?_, ?_⟩
  ·intro y0 y1 y2 y3
   unfold impl_RunClock.j0
   repeat' first
   | (with_reducible exact ih0 _ _ _ _)
   | (with_reducible exact ih1 _ _ _)
   | (with_reducible exact ih2 _ _ _ _ _ _ _)
   | (with_reducible exact impl_GoodClock.mono _ _ _)
   | (with_reducible first | exact LeO.refl _ | exact LeO.none _ | refine LeO.ite ?_ ?_ | refine LeO.bind ?_ (fun _ => ?_))
   | exact ih0 _ _ _ _
   | exact ih1 _ _ _
   | exact ih2 _ _ _ _ _ _ _
   | exact impl_GoodClock.mono _ _ _ | exact LeO.none _ | refine LeO.ite ?_ ?_ | refine LeO.bind ?_ (fun _ => ?_)
  ·intro y0 y1 y2
   unfold impl_RunClock.l0
   repeat' first
   | (with_reducible exact ih0 _ _ _ _)
   | (with_reducible exact ih1 _ _ _)
   | (with_reducible exact ih2 _ _ _ _ _ _ _)
   | (with_reducible exact impl_GoodClock.mono _ _ _)
   | (with_reducible first | exact LeO.refl _ | exact LeO.none _ | refine LeO.ite ?_ ?_ | refine LeO.bind ?_ (fun _ => ?_))
   | exact ih0 _ _ _ _
   | exact ih1 _ _ _
   | exact ih2 _ _ _ _ _ _ _
   | exact impl_GoodClock.mono _ _ _ | exact LeO.none _ | refine LeO.ite ?_ ?_ | refine LeO.bind ?_ (fun _ => ?_)
  ·intro y0 y1 y2 y3 y4 y5 y6
   unfold impl_RunClock.l1
   repeat' first
   | (with_reducible exact ih0 _ _ _ _)
   | (with_reducible exact ih1 _ _ _)
   | (with_reducible exact ih2 _ _ _ _ _ _ _)
   | (with_reducible exact impl_GoodClock.mono _ _ _)
   | (with_reducible first | exact LeO.refl _ | exact LeO.none _ | refine LeO.ite ?_ ?_ | refine LeO.bind ?_ (fun _ => ?_))
   | exact ih0 _ _ _ _
   | exact ih1 _ _ _
   | exact ih2 _ _ _ _ _ _ _
   | exact impl_GoodClock.mono _ _ _ | exact LeO.none _ | refine LeO.ite ?_ ?_ | refine LeO.bind ?_ (fun _ => ?_)
theorem impl_RunClock.mono : ∀ a0 a1 a2 k, LeO (impl_RunClock.f k a0 a1 a2) (impl_RunClock.f (k + 1) a0 a1 a2) := by
 intro a0 a1 a2 k
 obtain ⟨ih0, ih1, ih2⟩ := impl_RunClock.mono_l k
 unfold impl_RunClock.f
 repeat' first
   | (with_reducible exact ih0 _ _ _ _)
   | (with_reducible exact ih1 _ _ _)
   | (with_reducible exact ih2 _ _ _ _ _ _ _)
   | (with_reducible exact impl_GoodClock.mono _ _ _)
   | (with_reducible first | exact LeO.refl _ | exact LeO.none _ | refine LeO.ite ?_ ?_ | refine LeO.bind ?_ (fun _ => ?_))
   | exact ih0 _ _ _ _
   | exact ih1 _ _ _
   | exact ih2 _ _ _ _ _ _ _
   | exact impl_GoodClock.mono _ _ _ | exact LeO.none _ | refine LeO.ite ?_ ?_ | refine LeO.bind ?_ (fun _ => ?_)
def impl_RunClock.T8 : Bool × List (List Nat × List Nat) := (true, [([], []), ([0], [0]), ([], []), ([1, 2], [1, 2]), ([3], [3]), ([4], [4]), ([5, 4], [4, 5]), ([6, 4, 4], [4, 6]), ([7], [7]), ([8, 7], [7, 8]), ([7], [7]), ([7], [7]), ([10, 11, 7], [7, 10, 11]), ([12, 7], [7, 12]), ([13, 7], [7, 13]), ([9, 14, 7], [7, 9, 14]), ([7, 15, 4], [4, 7, 15]), ([4, 16], [4, 16])])
def impl_RunClock.B8 : List Nat := [0, 1, 0, 7, 15, 31, 63, 127, 255, 511, 255, 255, 3327, 7423, 15615, 32767, 65535, 131071]
theorem impl_RunClock.tab8 : rtab .any (opsOf Try.f5 8) = impl_RunClock.T8 := by kernel_rfl
theorem impl_RunClock.bits8 : waitsOk impl_RunClock.T8.2 impl_RunClock.B8 = true := by kernel_rfl
def impl_RunClock.T14 : Bool × List (List Nat × List Nat) := (true, [([], []), ([], []), ([1], [1]), ([2], [2]), ([3], [3]), ([], []), ([5], [5]), ([6], [6]), ([7], [7]), ([4, 8], [4, 8]), ([9], [9]), ([0, 10], [0, 10]), ([11, 11, 0, 1, 2, 3, 4, 5, 6, 7, 8, 9, 10, 11], [0, 11])])
def impl_RunClock.B14 : List Nat := [0, 0, 2, 6, 14, 0, 32, 96, 224, 510, 1022, 2047, 4095]
theorem impl_RunClock.tab14 : rtab .any (opsOf Try.f5 14) = impl_RunClock.T14 := by kernel_rfl
theorem impl_RunClock.bits14 : waitsOk impl_RunClock.T14.2 impl_RunClock.B14 = true := by kernel_rfl
def impl_RunClock.T19 : Bool × List (List Nat × List Nat) := (true, [([], []), ([0], [0]), ([1], [1]), ([2], [2]), ([], []), ([4], [4]), ([5], [5]), ([6], [6]), ([3, 7], [3, 7]), ([0, 0, 1, 2, 3, 4, 5, 6, 7, 8], [0]), ([9, 0, 1, 2, 3, 4, 5, 6, 7, 8], [9]), ([10, 8, 0, 1, 2, 3, 4, 5, 6, 7, 8], [8, 10])])
def impl_RunClock.B19 : List Nat := [0, 1, 3, 7, 0, 16, 48, 112, 255, 511, 1023, 2047]
theorem impl_RunClock.tab19 : rtab .any (opsOf Try.f5 19) = impl_RunClock.T19 := by kernel_rfl
theorem impl_RunClock.bits19 : waitsOk impl_RunClock.T19.2 impl_RunClock.B19 = true := by kernel_rfl
set_option maxHeartbeats 8000000 in
set_option maxRecDepth 100000 in
theorem impl_RunClock.calls (k : Nat) (a0_0 : Int) (A0_1 : Option Addr) (c0_1 : Nat) (l0_1 : List (S47)) (a1 : Int) (r1 : Int) (r2 : List (S47)) (r3 : List (S50)) (r4 : Bool) (w : World) (hr0_1 : Kd.C k47 w A0_1 l0_1.length l0_1) (hc0_1 : l0_1.length ≤ c0_1) (h : impl_RunClock.f k a0_0 l0_1 a1 = some (r1, r2, r3, r4)) :
  Calls Try.prog 5 #[.agg #[.int .i64 a0_0, .slice A0_1 l0_1.length c0_1], .int .i64 a1] w fun e w' => ∃ v1_ v2_ : Value, e = .returned (.tuple #[.agg #[.int .i64 r1, v1_], v2_, .bool r4]) ∧ Kd.R k47 47 w' w.heap.size (fun _ => True) v1_ r2 ∧ Kd.R k50 50 w' w.heap.size (fun _ => True) v2_ r3 ∧ Below w.heap.size w w' := by
 have hu25 := Try.underlying25
 have hu47 := Try.underlying47
 have hu50 := Try.underlying50
 have HR0_1 := Aside0.mk hr0_1
 have HC0_1 := Aside0.mk hc0_1
 clear hr0_1 hc0_1
 have HB := Aside0.mk (Below.refl w.heap.size w)
 have H : ((impl_GoodClock.f k a0_0 l0_1).bind fun t285 => (if t285 = true then ((impl_inRange.f a1 a0_0 100000).bind fun t286 => (impl_RunClock.j0 k a1 (!t286) a0_0 l0_1)) else (impl_RunClock.j0 k a1 true a0_0 l0_1))) = some (r1, r2, r3, r4) := h
 clear h
 have HC3 := Aside0.mk H
 clear H
 go_enter Try.func5, Try.ntmps5
 go_upto_region 1 with (first | ((with_reducible refine gate_dst (N := 2) rfl ?_); refine box_event rfl (N := 2) rfl (cs := #[.int .i64 a0_0, .slice A0_1 l0_1.length c0_1]) (t := 25) sE ?_; intro gb283 hg w4 hbox hb; have BK283 := Aside0.mk hbox; have GW283 := gS w hg (lU); have GE283 := gS w hg (lU); replace HB := bH (lU) hb; clear hb hbox hg) | ((with_reducible refine gate_dst (N := 4) rfl ?_); refine box_event rfl (N := 4) rfl (cs := #[.int .i64 0, .slice none 0 0]) (t := 25) sE ?_; intro gb284 hg w5 hbox hb; have BK284 := Aside0.mk hbox; have GW284 := gS w hg (lV1 GE283); have GE284 := gS w hg (lV1 GE283); replace HB := bH (lV1 GE283) hb; have NB283_284 := nL hg (bV BK283); have NB284_283 := nG hg (bV BK283); replace BK283 := bB (bV BK283) hb; clear hb hbox hg))
 (try simp only [Act.put, List.setIfInBounds_toArray, List.set_cons_zero, List.set_cons_succ])
 go_cut [22] (fun v22 wc => ∃ (kq : Nat) (x22_2 : Bool), v22 = .bool x22_2 ∧ Aside0 (impl_RunClock.j0 kq a1 x22_2 a0_0 l0_1 = some (r1, r2, r3, r4)) ∧ Aside0 (kq ≤ k) ∧ Aside0 (wc.heap[gb283]? = some (.cells #[.int .i64 a0_0, (.slice A0_1 l0_1.length c0_1)] 25 (0, 0))) ∧ Aside0 (wc.heap[gb284]? = some (.cells #[.int .i64 0, (.slice none 0 0)] 25 (0, 0))) ∧ Aside0 (Below w.heap.size w wc))
 case first =>
  have H := HC3.out
  clear HC3
  replace H := Option.bind_eq_some_iff.mp H
  obtain ⟨t285, A60, H⟩ := H
  replace H : (if t285 = true then ((impl_inRange.f a1 a0_0 100000).bind fun t286 => (impl_RunClock.j0 k a1 (!t286) a0_0 l0_1)) else (impl_RunClock.j0 k a1 true a0_0 l0_1)) = some (r1, r2, r3, r4) := H
  have A6 := Aside0.mk A60
  clear A60
  by_cases c7 : t285 = true
  ·subst c7
   have H1 : ((impl_inRange.f a1 a0_0 100000).bind fun t286 => (impl_RunClock.j0 k a1 (!t286) a0_0 l0_1)) = some (r1, r2, r3, r4) := by rw [if_pos rfl] at H; exact H
   clear H
   have H := H1
   clear H1
   replace H := Option.bind_eq_some_iff.mp H
   obtain ⟨t286, A80, H⟩ := H
   replace H : (impl_RunClock.j0 k a1 (!t286) a0_0 l0_1) = some (r1, r2, r3, r4) := H
   have A8 := Aside0.mk A80
   clear A80
   have H' := Aside0.mk H
   clear H
   have hnb9 := NB283_284.out
   have hnc9 := NB284_283.out
   have hcz10_0 := cz BK283 0 (.int .i64 a0_0)
   have hcz10_1 := cz BK283 1 (.slice A0_1 l0_1.length c0_1)
   have hfz10_0 := fz BK283 0
   have hfz10_1 := fz BK283 1
   go_wp2_with (first | ((with_reducible refine gate_callee (f := 13) rfl ?_); refine goesL_ (some 14) rfl rfl Try.func13 (by kernel_rfl) rfl #[.agg #[.int .i64 a0_0, .slice A0_1 l0_1.length c0_1]] rfl aE ?_; (with_reducible refine (impl_GoodClock.calls k a0_0 _ _ l0_1 true _ ?side1 ?side2 A6.out).mono ?_); (case side1 => exact cU (Kd.C_below HR0_1.out HB.out)); (case side2 => exact HC0_1.out); rintro e w11 ⟨rfl, hb⟩; refine ⟨_, rfl, ?_⟩; replace BK283 := bB (bV BK283) hb; replace BK284 := bB (bV BK284) hb; replace HB := bH (lV2 GE283 GE284) hb; (try clear hb); have hcz12_0 := cz BK283 0 (.int .i64 a0_0); have hcz12_1 := cz BK283 1 (.slice A0_1 l0_1.length c0_1); have hfz12_0 := fz BK283 0; have hfz12_1 := fz BK283 1) | (go_at_call 14; (with_reducible refine (impl_inRange.calls a1 a0_0 100000 t286 _ A8.out).mono ?_); rintro e w' ⟨rfl, ⟨nd, rfl⟩⟩))
   go_meet
   case rel => exact ⟨_, (!t286), tE, H', ⟨by first | omega | exact Nat.le_refl _⟩, ⟨by refine bU ?_; exact BK283.out⟩, ⟨by refine bU ?_; exact BK284.out⟩, ⟨by repeat (first | (with_reducible first | exact HB.out | apply below_alloc | apply pw_below_drewN | apply below_drew1 | refine below_set ?_ GE283.out | refine below_set ?_ GE284.out) | exact HB.out)⟩⟩
  ·replace c7 := Bool.eq_false_iff.mpr c7
   subst c7
   have H1 : (impl_RunClock.j0 k a1 true a0_0 l0_1) = some (r1, r2, r3, r4) := by rw [if_neg (show ¬ (false = true) by decide)] at H; exact H
   clear H
   have H := H1
   clear H1
   have H' := Aside0.mk H
   clear H
   have hnb13 := NB283_284.out
   have hnc13 := NB284_283.out
   have hcz14_0 := cz BK283 0 (.int .i64 a0_0)
   have hcz14_1 := cz BK283 1 (.slice A0_1 l0_1.length c0_1)
   have hfz14_0 := fz BK283 0
   have hfz14_1 := fz BK283 1
   go_wp2_with (first | ((with_reducible refine gate_callee (f := 13) rfl ?_); refine goesL_ (some 14) rfl rfl Try.func13 (by kernel_rfl) rfl #[.agg #[.int .i64 a0_0, .slice A0_1 l0_1.length c0_1]] rfl aE ?_; (with_reducible refine (impl_GoodClock.calls k a0_0 _ _ l0_1 false _ ?side1 ?side2 A6.out).mono ?_); (case side1 => exact cU (Kd.C_below HR0_1.out HB.out)); (case side2 => exact HC0_1.out); rintro e w15 ⟨rfl, hb⟩; refine ⟨_, rfl, ?_⟩; replace BK283 := bB (bV BK283) hb; replace BK284 := bB (bV BK284) hb; replace HB := bH (lV2 GE283 GE284) hb; (try clear hb)))
   go_meet
   case rel => exact ⟨_, (true), tE, H', ⟨by first | omega | exact Nat.le_refl _⟩, ⟨by refine bU ?_; exact BK283.out⟩, ⟨by refine bU ?_; exact BK284.out⟩, ⟨by repeat (first | (with_reducible first | exact HB.out | apply below_alloc | apply pw_below_drewN | apply below_drew1 | refine below_set ?_ GE283.out | refine below_set ?_ GE284.out) | exact HB.out)⟩⟩
 case rest =>
  clear HC3
  try clear c1
  try clear p2
  try clear c5
  try clear c7
  try clear c9
  try clear c13
  try clear hcz10_0
  try clear hcz10_1
  try clear hcz12_0
  try clear hcz12_1
  try clear hcz14_0
  try clear hcz14_1
  try clear hfz10_0
  try clear hfz10_1
  try clear hfz12_0
  try clear hfz12_1
  try clear hfz14_0
  try clear hfz14_1
  obtain ⟨kq, x22_2, rfl, HA, HJ2, BK283, BK284, HB⟩ := hcut
  cases kq with
  | zero => exact absurd HA.out (by simp [impl_RunClock.j0])
  | succ kj2 =>
   have H := HA.out
   clear HA
   simp only [impl_RunClock.j0] at H
   by_cases c16 : x22_2 = true
   ·subst c16
    have H1 : (some (0, ([] : List (S47)), ([] : List (S50)), false)) = some (r1, r2, r3, r4) := by rw [if_pos rfl] at H; exact H
    clear H
    have H := H1
    clear H1
    simp only [Option.some.injEq, Prod.mk.injEq] at H
    obtain ⟨rfl, rfl, rfl, rfl⟩ := H
    have hnb17 := NB284_283.out
    have hnc17 := NB283_284.out
    have hcz18_0 := cz BK284 0 (.int .i64 0)
    have hcz18_1 := cz BK284 1 (.slice none 0 0)
    have hfz18_0 := fz BK284 0
    have hfz18_1 := fz BK284 1
    go_wp2
    refine bodyPost_ret (results_ctt rfl _ _ gb284 25 #[.int .i64 0, .slice none 0 0] (0, 0) _ rfl (by refine bU ?_; refine blk_put (cs := #[.int .i64 0, .slice none 0 0]) ?_ 1 _ rfl; refine bU ?_; refine blk_put (cs := #[.int .i64 0, .slice none 0 0]) ?_ 0 _ rfl; refine bU ?_; exact BK284.out) Try.underlying25 rfl (by kernel_rfl)) rfl ?_
    exact ⟨_, _, eE, by first | exact Kd.R_nil _ _ _ _ _ | exact Kd.N_nil _ _ _ _ _ | exact Kd.V_nil _ _ _ _ _ | exact Kd.Q_nil _ _ _ _ _ | exact Kd.S_nil _ _ _ _ _, by first | exact Kd.R_nil _ _ _ _ _ | exact Kd.N_nil _ _ _ _ _ | exact Kd.V_nil _ _ _ _ _ | exact Kd.Q_nil _ _ _ _ _ | exact Kd.S_nil _ _ _ _ _, lV2 GE283 GE284⟩
   ·replace c16 := Bool.eq_false_iff.mpr c16
    subst c16
    have H1 : ((impl_Timer_15.f l0_1).bind fun t287 => (impl_RunClock.l0 kj2 a1 t287 (([] : List (S50))))) = some (r1, r2, r3, r4) := by rw [if_neg (show ¬ (false = true) by decide)] at H; exact H
    clear H
    have H := H1
    clear H1
    replace H := Option.bind_eq_some_iff.mp H
    obtain ⟨t287, A190, H⟩ := H
    replace H : (impl_RunClock.l0 kj2 a1 t287 (([] : List (S50)))) = some (r1, r2, r3, r4) := H
    have A19 := Aside0.mk A190
    clear A190
    obtain ⟨y290, hy290⟩ : ∃ y_ : List (S50), y_ = (([] : List (S50))) := ⟨_, rfl⟩
    replace H : (impl_RunClock.l0 kj2 a1 t287 y290) = some (r1, r2, r3, r4) := by first | (rw [hy290]; with_reducible exact H) | (have H2_ := (Option.bind_some _ _).symm.trans H; rw [hy290]; with_reducible exact H2_) | (have H2_ := (Option.bind_some _ _).symm.trans H; with_reducible exact H2_) | with_reducible exact H | (rw [hy290]; exact H) | exact H
    have Ny290 := Aside0.mk hy290
    clear hy290
    have H' := Aside0.mk H
    clear H
    have hnb20 := NB283_284.out
    have hnc20 := NB284_283.out
    have hcz21_0 := cz BK283 0 (.int .i64 a0_0)
    have hcz21_1 := cz BK283 1 (.slice A0_1 l0_1.length c0_1)
    have hfz21_0 := fz BK283 0
    have hfz21_1 := fz BK283 1
    go_wp2_with (first | ((with_reducible refine gate_callee (f := 15) rfl ?_); refine goesL_ (some 26) rfl rfl Try.func15 (by kernel_rfl) rfl #[.slice A0_1 l0_1.length c0_1] rfl aE ?_; (with_reducible refine (impl_Timer_15.calls _ _ l0_1 t287 _ ?side1 ?side2 A19.out).mono ?_); (case side1 => exact cU (Kd.C_below HR0_1.out HB.out)); (case side2 => exact HC0_1.out); rintro e w22 ⟨v288, rfl, ho0, hb⟩; refine ⟨_, rfl, ?_⟩; have HO289 := Aside0.mk (Kd.R_lower ho0 (below_size (lV2 GE283 GE284))); replace BK283 := bB (bV BK283) hb; replace BK284 := bB (bV BK284) hb; replace HB := bH (lV2 GE283 GE284) hb; (try clear hb); (try clear ho0)) | ((with_reducible refine gate_dst (N := 27) rfl ?_); refine Kd.R_lit k50 _ 50 ?hg (N := 27) ?hd (xs := ([] : List (S50))) (inner := []) (ok := fun _ => True) (okp := fun _ => True) ?hr ?hp (fun _ hk => hk) trivial (Below.refl _ _) (Nat.le_refl _) (by simp) ?_; (case hd => rfl); (case hg => rfl); (case hr => exact sE); (case hp => exact (Reps.none _ _)); intro v291 w23 ho24 hb hg_ hnew_; clear hg_ hnew_; (first | rw [← Ny290.out] at ho24 | (simp only [Int.reduceToNat] at ho24; rw [← Ny290.out] at ho24)); replace HO289 := Aside0.mk (Kd.R_below (rU HO289.out) hb); have HO292 := Aside0.mk (Kd.R_lower ho24 (below_size (lV2 GE283 GE284))); replace BK283 := bB (bV BK283) hb; replace BK284 := bB (bV BK284) hb; replace HB := bH (lV2 GE283 GE284) hb; clear hb ho24))
    (try simp only [Act.put, List.setIfInBounds_toArray, List.set_cons_zero, List.set_cons_succ])
    go_loopg [7, 8] kj2 (fun kq v7 v8 w' => ∃ (x7_2 : List (S47)) (x8_2 : List (S50)) (x285000_2 : Int), Aside0 (impl_RunClock.l0 kq a1 x7_2 x8_2 = some (r1, r2, r3, r4)) ∧ Aside0 (kq ≤ kj2) ∧ Aside0 (Kd.R k47 47 w' w.heap.size (fun _ => True) v7 x7_2) ∧ Aside0 (Kd.R k50 50 w' w.heap.size (fun _ => True) v8 x8_2) ∧ Aside0 (w'.heap[gb283]? = some (.cells #[.int .i64 a0_0, (.slice A0_1 l0_1.length c0_1)] 25 (0, 0))) ∧ Aside0 (w'.heap[gb284]? = some (.cells #[.int .i64 x285000_2, (.slice none 0 0)] 25 (0, 0))) ∧ Aside0 (Below w.heap.size w w'))
    case atStart => exact ⟨(t287), (y290), (0), H', ⟨Nat.le_refl _⟩, ⟨by (with_reducible repeat (first | apply Kd.R_alloc | apply Kd.R_drewN | apply Kd.R_drew)); exact HO289.out⟩, ⟨by (with_reducible repeat (first | apply Kd.R_alloc | apply Kd.R_drewN | apply Kd.R_drew)); exact HO292.out⟩, ⟨by refine bU ?_; exact BK283.out⟩, ⟨by refine bU ?_; exact BK284.out⟩, ⟨by repeat (first | (with_reducible first | exact HB.out | apply below_alloc | apply pw_below_drewN | apply below_drew1 | refine below_set ?_ GE283.out | refine below_set ?_ GE284.out) | exact HB.out)⟩⟩
    case round =>
     clear H'
     try clear c1
     try clear c2
     try clear p2
     try clear c5
     try clear c7
     try clear c9
     try clear c13
     try clear c15
     try clear c16
     try clear c17
     try clear c20
     try clear hcz10_0
     try clear hcz10_1
     try clear hcz12_0
     try clear hcz12_1
     try clear hcz14_0
     try clear hcz14_1
     try clear hcz18_0
     try clear hcz18_1
     try clear hcz21_0
     try clear hcz21_1
     try clear hfz10_0
     try clear hfz10_1
     try clear hfz12_0
     try clear hfz12_1
     try clear hfz14_0
     try clear hfz14_1
     try clear hfz18_0
     try clear hfz18_1
     try clear hfz21_0
     try clear hfz21_1
     try clear p2
     obtain ⟨x7_2, x8_2, x285000_2, HA, HK2, HO_7, HO_8, BK283, BK284, HB⟩ := hrel
     cases gk with
     | zero => exact absurd HA.out (by simp [impl_RunClock.l0])
     | succ k2 =>
      have H := HA.out
      clear HA
      simp only [impl_RunClock.l0] at H
      have H' := Aside0.mk H
      clear H
      obtain ⟨Ao25, co25, eo25⟩ := Kd.R_slice HO_7.out
      subst eo25
      go_wp2
      go_loopg [9, 30] k2 (fun kq v9 v30 w' => ∃ (x9_3 : Int) (x30_3 : Int), v9 = .int .i64 x9_3 ∧ v30 = .int .i64 x30_3 ∧ Aside0 (impl_RunClock.l1 kq a1 x7_2 x8_2 x9_3 x7_2 (x7_2.length : Int) x30_3 = some (r1, r2, r3, r4)) ∧ Aside0 (kq ≤ k2) ∧ Aside0 (Kd.R k47 47 w' w.heap.size (fun _ => True) (.slice Ao25 x7_2.length co25) x7_2) ∧ Aside0 (Kd.R k50 50 w' w.heap.size (fun _ => True) u8 x8_2) ∧ Aside0 (Kd.R k47 47 w' w.heap.size (fun _ => True) (.slice Ao25 x7_2.length co25) x7_2) ∧ Aside0 (w'.heap[gb283]? = some (.cells #[.int .i64 a0_0, (.slice A0_1 l0_1.length c0_1)] 25 (0, 0))) ∧ Aside0 (w'.heap[gb284]? = some (.cells #[.int .i64 x285000_2, (.slice none 0 0)] 25 (0, 0))) ∧ Aside0 (Below w.heap.size w w'))
      case atStart => exact ⟨((-1)), (0), tE, tE, H', ⟨Nat.le_refl _⟩, ⟨by (with_reducible repeat (first | apply Kd.R_alloc | apply Kd.R_drewN | apply Kd.R_drew)); exact HO_7.out⟩, ⟨by (with_reducible repeat (first | apply Kd.R_alloc | apply Kd.R_drewN | apply Kd.R_drew)); exact HO_8.out⟩, ⟨by (with_reducible repeat (first | apply Kd.R_alloc | apply Kd.R_drewN | apply Kd.R_drew)); exact HO_7.out⟩, ⟨by refine bU ?_; exact BK283.out⟩, ⟨by refine bU ?_; exact BK284.out⟩, ⟨by repeat (first | (with_reducible first | exact HB.out | apply below_alloc | apply pw_below_drewN | apply below_drew1 | refine below_set ?_ GE283.out | refine below_set ?_ GE284.out) | exact HB.out)⟩⟩
      case round =>
       clear H'
       try clear c1
       try clear c2
       try clear p2
       try clear c5
       try clear c7
       try clear c9
       try clear c13
       try clear c15
       try clear c16
       try clear c17
       try clear c20
       try clear hcz10_0
       try clear hcz10_1
       try clear hcz12_0
       try clear hcz12_1
       try clear hcz14_0
       try clear hcz14_1
       try clear hcz18_0
       try clear hcz18_1
       try clear hcz21_0
       try clear hcz21_1
       try clear hfz10_0
       try clear hfz10_1
       try clear hfz12_0
       try clear hfz12_1
       try clear hfz14_0
       try clear hfz14_1
       try clear hfz18_0
       try clear hfz18_1
       try clear hfz21_0
       try clear hfz21_1
       try clear p2
       obtain ⟨x9_3, x30_3, rfl, rfl, HA, HK3, HO_7, HO_8, HO_28, BK283, BK284, HB⟩ := hrel
       cases gk with
       | zero => exact absurd HA.out (by simp [impl_RunClock.l1])
       | succ k3 =>
        have H := HA.out
        clear HA
        simp only [impl_RunClock.l1] at H
        by_cases c26 : x30_3 < (x7_2.length : Int)
        ·rw [if_pos c26] at H
         have c26b0 : decide (x30_3 < (x7_2.length : Int)) = true := decide_eq_true c26
         clear c26
         by_cases c27 : 0 ≤ x30_3
         ·rw [if_pos c27] at H
          have c27b0 : decide (0 ≤ x30_3) = true := decide_eq_true c27
          clear c27
          by_cases c28 : x30_3 < (x7_2.length : Int)
          ·rw [if_pos c28] at H
           have c28b0 : decide (x30_3 < (x7_2.length : Int)) = true := decide_eq_true c28
           clear c28
           by_cases c29 : ((rd_T47 x7_2 x30_3).f1) ≤ a1
           ·rw [if_pos c29] at H
            have c29b0 : decide (((rd_T47 x7_2 x30_3).f1) ≤ a1) = true := decide_eq_true c29
            clear c29
            by_cases c30 : x9_3 < 0
            ·rw [if_pos c30] at H
             have c30b0 : decide (x9_3 < 0) = true := decide_eq_true c30
             clear c30
             have H' := Aside0.mk H
             clear H
             have p293 : 0 ≤ (x30_3 : Int) := of_decide_eq_true hE
             have q293 : x30_3 < (x7_2.length : Int) := of_decide_eq_true hE
             obtain ⟨ad293, e293, hx293_0, hx293_1, hx293_2, hx293_3⟩ := at_T47 (Kd.R_reads' HO_28.out).2.2 x30_3 p293 q293
             cases e293
             replace p293 := eq_true p293
             replace q293 := eq_true q293
             try go_wp2_with (first | ((with_reducible refine gate_dst (N := 11) rfl ?_); refine box_event rfl (N := 11) rfl (cs := #[.int .i64 0, .int .i64 0, .int .i64 0, .int .i64 0]) (t := 47) sE ?_; intro gb294 hg w31 hbox hb; replace HO_7 := Aside0.mk (Kd.R_below (Kd.R_elderB (rU HO_7.out) gb294 (Nat.le_of_eq hg.symm)) hb); replace HO_8 := Aside0.mk (Kd.R_below (rU HO_8.out) hb); replace HO_28 := Aside0.mk (Kd.R_below (Kd.R_elderB (rU HO_28.out) gb294 (Nat.le_of_eq hg.symm)) hb); have BK294 := Aside0.mk hbox; have GW294 := gS w hg (lV2 GE283 GE284); have GE294 := gS w hg (lV2 GE283 GE284); replace HB := bH (lV2 GE283 GE284) hb; have NB283_294 := nL hg (bV BK283); have NB294_283 := nG hg (bV BK283); replace BK283 := bB (bV BK283) hb; have NB284_294 := nL hg (bV BK284); have NB294_284 := nG hg (bV BK284); replace BK284 := bB (bV BK284) hb; clear hb hbox hg; have hnb32 := NB294_283.out; have hnc32 := NB283_294.out; have hnb33 := NB294_284.out; have hnc33 := NB284_294.out; have hcz34_0 := cz BK294 0 (.int .i64 0); have hcz34_1 := cz BK294 1 (.int .i64 0); have hcz34_2 := cz BK294 2 (.int .i64 0); have hcz34_3 := cz BK294 3 (.int .i64 0); have hfz34_0 := fz BK294 0; have hfz34_1 := fz BK294 1; have hfz34_2 := fz BK294 2; have hfz34_3 := fz BK294 3))
             have n0_ : Aside0 (Kd.R k47 47 ((((w31.setCell ⟨gb294, 0, none⟩ (.int .i64 ((rd_T47 x7_2 x30_3).f0))).setCell ⟨gb294, 1, none⟩ (.int .i64 ((rd_T47 x7_2 x30_3).f1))).setCell ⟨gb294, 2, none⟩ (.int .i64 ((rd_T47 x7_2 x30_3).f2))).setCell ⟨gb294, 3, none⟩ (.int .i64 ((rd_T47 x7_2 x30_3).f3))) w.heap.size (fun k_ => k_ ≠ gb294) (.slice (some ad293) x7_2.length co25) x7_2) := ⟨by (with_reducible repeat (first | apply Kd.R_alloc | apply Kd.R_drewN | apply Kd.R_drew)); exact Kd.R_mono (Kd.R_far (p := ⟨gb294, 3, none⟩) (Kd.R_far (p := ⟨gb294, 2, none⟩) (Kd.R_far (p := ⟨gb294, 1, none⟩) (Kd.R_far (p := ⟨gb294, 0, none⟩) (Kd.R_mono HO_7.out (fun k_ hk => (⟨hk, hk.2⟩ : _ ∧ k_ ≠ gb294))) (fun _ hk => hk.2) (.int .i64 ((rd_T47 x7_2 x30_3).f0))) (fun _ hk => hk.2) (.int .i64 ((rd_T47 x7_2 x30_3).f1))) (fun _ hk => hk.2) (.int .i64 ((rd_T47 x7_2 x30_3).f2))) (fun _ hk => hk.2) (.int .i64 ((rd_T47 x7_2 x30_3).f3))) (fun _ hk => hk.1.2)⟩
             have n1_ : Aside0 (Kd.R k50 50 ((((w31.setCell ⟨gb294, 0, none⟩ (.int .i64 ((rd_T47 x7_2 x30_3).f0))).setCell ⟨gb294, 1, none⟩ (.int .i64 ((rd_T47 x7_2 x30_3).f1))).setCell ⟨gb294, 2, none⟩ (.int .i64 ((rd_T47 x7_2 x30_3).f2))).setCell ⟨gb294, 3, none⟩ (.int .i64 ((rd_T47 x7_2 x30_3).f3))) w.heap.size (fun _ => True) u8 x8_2) := ⟨by (with_reducible repeat (first | apply Kd.R_alloc | apply Kd.R_drewN | apply Kd.R_drew)); exact Kd.R_mono (Kd.R_far (p := ⟨gb294, 3, none⟩) (Kd.R_far (p := ⟨gb294, 2, none⟩) (Kd.R_far (p := ⟨gb294, 1, none⟩) (Kd.R_far (p := ⟨gb294, 0, none⟩) (Kd.R_types HO_8.out BK294.out (by decide)) (fun _ hk => hk.2) (.int .i64 ((rd_T47 x7_2 x30_3).f0))) (fun _ hk => hk.2) (.int .i64 ((rd_T47 x7_2 x30_3).f1))) (fun _ hk => hk.2) (.int .i64 ((rd_T47 x7_2 x30_3).f2))) (fun _ hk => hk.2) (.int .i64 ((rd_T47 x7_2 x30_3).f3))) (fun _ hk => trivial)⟩
             have n2_ : Aside0 (Kd.R k47 47 ((((w31.setCell ⟨gb294, 0, none⟩ (.int .i64 ((rd_T47 x7_2 x30_3).f0))).setCell ⟨gb294, 1, none⟩ (.int .i64 ((rd_T47 x7_2 x30_3).f1))).setCell ⟨gb294, 2, none⟩ (.int .i64 ((rd_T47 x7_2 x30_3).f2))).setCell ⟨gb294, 3, none⟩ (.int .i64 ((rd_T47 x7_2 x30_3).f3))) w.heap.size (fun k_ => k_ ≠ gb294) (.slice (some ad293) x7_2.length co25) x7_2) := ⟨by (with_reducible repeat (first | apply Kd.R_alloc | apply Kd.R_drewN | apply Kd.R_drew)); exact Kd.R_mono (Kd.R_far (p := ⟨gb294, 3, none⟩) (Kd.R_far (p := ⟨gb294, 2, none⟩) (Kd.R_far (p := ⟨gb294, 1, none⟩) (Kd.R_far (p := ⟨gb294, 0, none⟩) (Kd.R_mono HO_28.out (fun k_ hk => (⟨hk, hk.2⟩ : _ ∧ k_ ≠ gb294))) (fun _ hk => hk.2) (.int .i64 ((rd_T47 x7_2 x30_3).f0))) (fun _ hk => hk.2) (.int .i64 ((rd_T47 x7_2 x30_3).f1))) (fun _ hk => hk.2) (.int .i64 ((rd_T47 x7_2 x30_3).f2))) (fun _ hk => hk.2) (.int .i64 ((rd_T47 x7_2 x30_3).f3))) (fun _ hk => hk.1.2)⟩
             have n3_ : Aside0 (((((w31.setCell ⟨gb294, 0, none⟩ (.int .i64 ((rd_T47 x7_2 x30_3).f0))).setCell ⟨gb294, 1, none⟩ (.int .i64 ((rd_T47 x7_2 x30_3).f1))).setCell ⟨gb294, 2, none⟩ (.int .i64 ((rd_T47 x7_2 x30_3).f2))).setCell ⟨gb294, 3, none⟩ (.int .i64 ((rd_T47 x7_2 x30_3).f3))).heap[gb283]? = some (.cells #[.int .i64 a0_0, .slice A0_1 l0_1.length c0_1] 25 (0, 0))) := ⟨by refine bU ?_; refine blk_far ?_ NB283_294.out _; refine bU ?_; refine blk_far ?_ NB283_294.out _; refine bU ?_; refine blk_far ?_ NB283_294.out _; refine bU ?_; refine blk_far ?_ NB283_294.out _; refine bU ?_; exact BK283.out⟩
             have n4_ : Aside0 (((((w31.setCell ⟨gb294, 0, none⟩ (.int .i64 ((rd_T47 x7_2 x30_3).f0))).setCell ⟨gb294, 1, none⟩ (.int .i64 ((rd_T47 x7_2 x30_3).f1))).setCell ⟨gb294, 2, none⟩ (.int .i64 ((rd_T47 x7_2 x30_3).f2))).setCell ⟨gb294, 3, none⟩ (.int .i64 ((rd_T47 x7_2 x30_3).f3))).heap[gb284]? = some (.cells #[.int .i64 x285000_2, .slice none 0 0] 25 (0, 0))) := ⟨by refine bU ?_; refine blk_far ?_ NB284_294.out _; refine bU ?_; refine blk_far ?_ NB284_294.out _; refine bU ?_; refine blk_far ?_ NB284_294.out _; refine bU ?_; refine blk_far ?_ NB284_294.out _; refine bU ?_; exact BK284.out⟩
             have n5_ : Aside0 (((((w31.setCell ⟨gb294, 0, none⟩ (.int .i64 ((rd_T47 x7_2 x30_3).f0))).setCell ⟨gb294, 1, none⟩ (.int .i64 ((rd_T47 x7_2 x30_3).f1))).setCell ⟨gb294, 2, none⟩ (.int .i64 ((rd_T47 x7_2 x30_3).f2))).setCell ⟨gb294, 3, none⟩ (.int .i64 ((rd_T47 x7_2 x30_3).f3))).heap[gb294]? = some (.cells #[.int .i64 ((rd_T47 x7_2 x30_3).f0), .int .i64 ((rd_T47 x7_2 x30_3).f1), .int .i64 ((rd_T47 x7_2 x30_3).f2), .int .i64 ((rd_T47 x7_2 x30_3).f3)] 47 (0, 0))) := ⟨by refine bU ?_; refine blk_put (cs := #[.int .i64 ((rd_T47 x7_2 x30_3).f0), .int .i64 ((rd_T47 x7_2 x30_3).f1), .int .i64 ((rd_T47 x7_2 x30_3).f2), .int .i64 0]) ?_ 3 _ rfl; refine bU ?_; refine blk_put (cs := #[.int .i64 ((rd_T47 x7_2 x30_3).f0), .int .i64 ((rd_T47 x7_2 x30_3).f1), .int .i64 0, .int .i64 0]) ?_ 2 _ rfl; refine bU ?_; refine blk_put (cs := #[.int .i64 ((rd_T47 x7_2 x30_3).f0), .int .i64 0, .int .i64 0, .int .i64 0]) ?_ 1 _ rfl; refine bU ?_; refine blk_put (cs := #[.int .i64 0, .int .i64 0, .int .i64 0, .int .i64 0]) ?_ 0 _ rfl; refine bU ?_; exact BK294.out⟩
             have n6_ : Aside0 (Below w.heap.size w ((((w31.setCell ⟨gb294, 0, none⟩ (.int .i64 ((rd_T47 x7_2 x30_3).f0))).setCell ⟨gb294, 1, none⟩ (.int .i64 ((rd_T47 x7_2 x30_3).f1))).setCell ⟨gb294, 2, none⟩ (.int .i64 ((rd_T47 x7_2 x30_3).f2))).setCell ⟨gb294, 3, none⟩ (.int .i64 ((rd_T47 x7_2 x30_3).f3)))) := ⟨by repeat (first | (with_reducible first | exact HB.out | apply below_alloc | apply pw_below_drewN | apply below_drew1 | refine below_set ?_ GE283.out | refine below_set ?_ GE284.out | refine below_set ?_ GE294.out) | exact HB.out)⟩
             (try clear HO_7)
             (try clear HO_8)
             (try clear HO_28)
             (try clear BK283)
             (try clear BK284)
             (try clear BK294)
             (try clear HB)
             generalize ((((w31.setCell ⟨gb294, 0, none⟩ (.int .i64 ((rd_T47 x7_2 x30_3).f0))).setCell ⟨gb294, 1, none⟩ (.int .i64 ((rd_T47 x7_2 x30_3).f1))).setCell ⟨gb294, 2, none⟩ (.int .i64 ((rd_T47 x7_2 x30_3).f2))).setCell ⟨gb294, 3, none⟩ (.int .i64 ((rd_T47 x7_2 x30_3).f3))) = w35 at n0_ n1_ n2_ n3_ n4_ n5_ n6_ ⊢
             have HO_7 := n0_
             have HO_8 := n1_
             have HO_28 := n2_
             have BK283 := n3_
             have BK284 := n4_
             have BK294 := n5_
             have HB := n6_
             clear n0_ n1_ n2_ n3_ n4_ n5_ n6_
             replace HO_7 := Aside0.mk (Kd.R_drew HO_7.out)
             replace HO_8 := Aside0.mk (Kd.R_drew HO_8.out)
             replace HO_28 := Aside0.mk (Kd.R_drew HO_28.out)
             replace BK283 := Aside0.mk (blk_drew BK283.out)
             replace BK284 := Aside0.mk (blk_drew BK284.out)
             replace BK294 := Aside0.mk (blk_drew BK294.out)
             replace HB := Aside0.mk (below_drew1 HB.out)
             refine start_ (n := 18) (S := fun w' => w'.cell? ⟨gb294, 0, none⟩ = some (.int .i64 ((rd_T47 x7_2 x30_3).f0)) ∧ w'.cell? ⟨gb294, 1, none⟩ = some (.int .i64 ((rd_T47 x7_2 x30_3).f1)) ∧ w'.cell? ⟨gb294, 2, none⟩ = some (.int .i64 ((rd_T47 x7_2 x30_3).f2)) ∧ w'.cell? ⟨gb294, 3, none⟩ = some (.int .i64 ((rd_T47 x7_2 x30_3).f3))) (ds := []) #[false, false, false, false, false, false, false, false, false, false, false, false, false, false, false, false, false, false] (by kernel_rfl) rfl rfl ⟨cz BK294 0 _, cz BK294 1 _, cz BK294 2 _, cz BK294 3 _⟩ (fun hHeld => ?_); refine with_tabW impl_RunClock.tab8 impl_RunClock.bits8 (fun HT_ HW_ => ?_)
             generalize w35.drew = w36 at HO_7 HO_8 HO_28 BK283 BK284 BK294 HB hHeld ⊢
             refine pureA 0 35 (bz 18 1) rfl rfl (any_of HT_.out (by kernel_rfl)) ?_
             refine pureA 2 37 (bz 18 5) rfl rfl (any_of HT_.out (by kernel_rfl)) ?_
             refine takeA 1 36 (bz 18 7) rfl rfl (take_ofW HT_.out HW_.out (by kernel_rfl)) hHeld (by rintro w' ⟨s0, s1, s2, s3⟩; go_simp; with_reducible rfl) ?_
             refine pureA 3 38 (bz 18 15) rfl rfl (any_of HT_.out (by kernel_rfl)) ?_
             refine pureA 4 39 (bz 18 31) rfl rfl (any_of HT_.out (by kernel_rfl)) ?_
             refine pureA 5 40 (bz 18 63) rfl rfl (any_of HT_.out (by kernel_rfl)) ?_
             refine pureA 6 41 (bz 18 127) rfl rfl (any_of HT_.out (by kernel_rfl)) ?_
             refine pureA 7 42 (bz 18 255) rfl rfl (any_of HT_.out (by kernel_rfl)) ?_
             refine pureU 8 43 (bz 18 511) rfl rfl (any_of HT_.out (by kernel_rfl)) ?_
             refine pureU 9 44 (bz 18 1023) rfl rfl (any_of HT_.out (by kernel_rfl)) ?_
             refine pureU 10 45 (bz 18 2047) rfl rfl (any_of HT_.out (by kernel_rfl)) ?_
             refine pureU 11 46 (bz 18 4095) rfl rfl (any_of HT_.out (by kernel_rfl)) ?_
             refine pureU 12 47 (bz 18 8191) rfl rfl (any_of HT_.out (by kernel_rfl)) ?_
             refine pureU 13 48 (bz 18 16383) rfl rfl (any_of HT_.out (by kernel_rfl)) ?_
             refine pureU 14 49 (bz 18 32767) rfl rfl (any_of HT_.out (by kernel_rfl)) ?_
             refine pureU 15 50 (bz 18 65535) rfl rfl (any_of HT_.out (by kernel_rfl)) ?_
             refine pureA 16 51 (bz 18 131071) rfl rfl (any_of HT_.out (by kernel_rfl)) ?_
             refine pureA 17 52 (bz 18 262143) rfl rfl (any_of HT_.out (by kernel_rfl)) ?_
             refine done_ (done_of HT_.out (by kernel_rfl)) ?_
             try go_wp2
             go_roundg k3
             case measure => have := HJ2.out; have := HK2.out; have := HK3.out; omega
             case rel => exact ⟨(x30_3), (wrap64 (x30_3 + 1)), tE, tE, H', ⟨by have := HJ2.out; have := HK2.out; have := HK3.out; omega⟩, ⟨by (with_reducible repeat (first | apply Kd.R_alloc | apply Kd.R_drewN | apply Kd.R_drew)); exact Kd.R_mono HO_7.out (fun _ hk => trivial)⟩, ⟨by (with_reducible repeat (first | apply Kd.R_alloc | apply Kd.R_drewN | apply Kd.R_drew)); exact HO_8.out⟩, ⟨by (with_reducible repeat (first | apply Kd.R_alloc | apply Kd.R_drewN | apply Kd.R_drew)); exact Kd.R_mono HO_28.out (fun _ hk => trivial)⟩, ⟨by refine bU ?_; exact BK283.out⟩, ⟨by refine bU ?_; exact BK284.out⟩, ⟨by repeat (first | (with_reducible first | exact HB.out | apply below_alloc | apply pw_below_drewN | apply below_drew1 | refine below_set ?_ GE283.out | refine below_set ?_ GE284.out | refine below_set ?_ GE294.out) | exact HB.out)⟩⟩
            ·rw [if_neg c30] at H
             have c30b0 : decide (x9_3 < 0) = false := decide_eq_false c30
             clear c30
             by_cases c37 : 0 ≤ x9_3
             ·rw [if_pos c37] at H
              have c37b0 : decide (0 ≤ x9_3) = true := decide_eq_true c37
              clear c37
              by_cases c38 : x9_3 < (x7_2.length : Int)
              ·rw [if_pos c38] at H
               have c38b0 : decide (x9_3 < (x7_2.length : Int)) = true := decide_eq_true c38
               clear c38
               by_cases c39 : ((rd_T47 x7_2 x30_3).f1) < ((rd_T47 x7_2 x9_3).f1)
               ·rw [if_pos c39] at H
                have c39b0 : decide (((rd_T47 x7_2 x30_3).f1) < ((rd_T47 x7_2 x9_3).f1)) = true := decide_eq_true c39
                clear c39
                have H' := Aside0.mk H
                clear H
                have p293 : 0 ≤ (x30_3 : Int) := of_decide_eq_true hE
                have q293 : x30_3 < (x7_2.length : Int) := of_decide_eq_true hE
                obtain ⟨ad293, e293, hx293_0, hx293_1, hx293_2, hx293_3⟩ := at_T47 (Kd.R_reads' HO_28.out).2.2 x30_3 p293 q293
                cases e293
                replace p293 := eq_true p293
                replace q293 := eq_true q293
                try go_wp2_with (first | ((with_reducible refine gate_dst (N := 11) rfl ?_); refine box_event rfl (N := 11) rfl (cs := #[.int .i64 0, .int .i64 0, .int .i64 0, .int .i64 0]) (t := 47) sE ?_; intro gb294 hg w40 hbox hb; replace HO_7 := Aside0.mk (Kd.R_below (Kd.R_elderB (rU HO_7.out) gb294 (Nat.le_of_eq hg.symm)) hb); replace HO_8 := Aside0.mk (Kd.R_below (rU HO_8.out) hb); replace HO_28 := Aside0.mk (Kd.R_below (Kd.R_elderB (rU HO_28.out) gb294 (Nat.le_of_eq hg.symm)) hb); have BK294 := Aside0.mk hbox; have GW294 := gS w hg (lV2 GE283 GE284); have GE294 := gS w hg (lV2 GE283 GE284); replace HB := bH (lV2 GE283 GE284) hb; have NB283_294 := nL hg (bV BK283); have NB294_283 := nG hg (bV BK283); replace BK283 := bB (bV BK283) hb; have NB284_294 := nL hg (bV BK284); have NB294_284 := nG hg (bV BK284); replace BK284 := bB (bV BK284) hb; clear hb hbox hg; have hnb41 := NB294_283.out; have hnc41 := NB283_294.out; have hnb42 := NB294_284.out; have hnc42 := NB284_294.out; have hcz43_0 := cz BK294 0 (.int .i64 0); have hcz43_1 := cz BK294 1 (.int .i64 0); have hcz43_2 := cz BK294 2 (.int .i64 0); have hcz43_3 := cz BK294 3 (.int .i64 0); have hfz43_0 := fz BK294 0; have hfz43_1 := fz BK294 1; have hfz43_2 := fz BK294 2; have hfz43_3 := fz BK294 3))
                have n0_ : Aside0 (Kd.R k47 47 ((((w40.setCell ⟨gb294, 0, none⟩ (.int .i64 ((rd_T47 x7_2 x30_3).f0))).setCell ⟨gb294, 1, none⟩ (.int .i64 ((rd_T47 x7_2 x30_3).f1))).setCell ⟨gb294, 2, none⟩ (.int .i64 ((rd_T47 x7_2 x30_3).f2))).setCell ⟨gb294, 3, none⟩ (.int .i64 ((rd_T47 x7_2 x30_3).f3))) w.heap.size (fun k_ => k_ ≠ gb294) (.slice (some ad293) x7_2.length co25) x7_2) := ⟨by (with_reducible repeat (first | apply Kd.R_alloc | apply Kd.R_drewN | apply Kd.R_drew)); exact Kd.R_mono (Kd.R_far (p := ⟨gb294, 3, none⟩) (Kd.R_far (p := ⟨gb294, 2, none⟩) (Kd.R_far (p := ⟨gb294, 1, none⟩) (Kd.R_far (p := ⟨gb294, 0, none⟩) (Kd.R_mono HO_7.out (fun k_ hk => (⟨hk, hk.2⟩ : _ ∧ k_ ≠ gb294))) (fun _ hk => hk.2) (.int .i64 ((rd_T47 x7_2 x30_3).f0))) (fun _ hk => hk.2) (.int .i64 ((rd_T47 x7_2 x30_3).f1))) (fun _ hk => hk.2) (.int .i64 ((rd_T47 x7_2 x30_3).f2))) (fun _ hk => hk.2) (.int .i64 ((rd_T47 x7_2 x30_3).f3))) (fun _ hk => hk.1.2)⟩
                have n1_ : Aside0 (Kd.R k50 50 ((((w40.setCell ⟨gb294, 0, none⟩ (.int .i64 ((rd_T47 x7_2 x30_3).f0))).setCell ⟨gb294, 1, none⟩ (.int .i64 ((rd_T47 x7_2 x30_3).f1))).setCell ⟨gb294, 2, none⟩ (.int .i64 ((rd_T47 x7_2 x30_3).f2))).setCell ⟨gb294, 3, none⟩ (.int .i64 ((rd_T47 x7_2 x30_3).f3))) w.heap.size (fun _ => True) u8 x8_2) := ⟨by (with_reducible repeat (first | apply Kd.R_alloc | apply Kd.R_drewN | apply Kd.R_drew)); exact Kd.R_mono (Kd.R_far (p := ⟨gb294, 3, none⟩) (Kd.R_far (p := ⟨gb294, 2, none⟩) (Kd.R_far (p := ⟨gb294, 1, none⟩) (Kd.R_far (p := ⟨gb294, 0, none⟩) (Kd.R_types HO_8.out BK294.out (by decide)) (fun _ hk => hk.2) (.int .i64 ((rd_T47 x7_2 x30_3).f0))) (fun _ hk => hk.2) (.int .i64 ((rd_T47 x7_2 x30_3).f1))) (fun _ hk => hk.2) (.int .i64 ((rd_T47 x7_2 x30_3).f2))) (fun _ hk => hk.2) (.int .i64 ((rd_T47 x7_2 x30_3).f3))) (fun _ hk => trivial)⟩
                have n2_ : Aside0 (Kd.R k47 47 ((((w40.setCell ⟨gb294, 0, none⟩ (.int .i64 ((rd_T47 x7_2 x30_3).f0))).setCell ⟨gb294, 1, none⟩ (.int .i64 ((rd_T47 x7_2 x30_3).f1))).setCell ⟨gb294, 2, none⟩ (.int .i64 ((rd_T47 x7_2 x30_3).f2))).setCell ⟨gb294, 3, none⟩ (.int .i64 ((rd_T47 x7_2 x30_3).f3))) w.heap.size (fun k_ => k_ ≠ gb294) (.slice (some ad293) x7_2.length co25) x7_2) := ⟨by (with_reducible repeat (first | apply Kd.R_alloc | apply Kd.R_drewN | apply Kd.R_drew)); exact Kd.R_mono (Kd.R_far (p := ⟨gb294, 3, none⟩) (Kd.R_far (p := ⟨gb294, 2, none⟩) (Kd.R_far (p := ⟨gb294, 1, none⟩) (Kd.R_far (p := ⟨gb294, 0, none⟩) (Kd.R_mono HO_28.out (fun k_ hk => (⟨hk, hk.2⟩ : _ ∧ k_ ≠ gb294))) (fun _ hk => hk.2) (.int .i64 ((rd_T47 x7_2 x30_3).f0))) (fun _ hk => hk.2) (.int .i64 ((rd_T47 x7_2 x30_3).f1))) (fun _ hk => hk.2) (.int .i64 ((rd_T47 x7_2 x30_3).f2))) (fun _ hk => hk.2) (.int .i64 ((rd_T47 x7_2 x30_3).f3))) (fun _ hk => hk.1.2)⟩
                have n3_ : Aside0 (((((w40.setCell ⟨gb294, 0, none⟩ (.int .i64 ((rd_T47 x7_2 x30_3).f0))).setCell ⟨gb294, 1, none⟩ (.int .i64 ((rd_T47 x7_2 x30_3).f1))).setCell ⟨gb294, 2, none⟩ (.int .i64 ((rd_T47 x7_2 x30_3).f2))).setCell ⟨gb294, 3, none⟩ (.int .i64 ((rd_T47 x7_2 x30_3).f3))).heap[gb283]? = some (.cells #[.int .i64 a0_0, .slice A0_1 l0_1.length c0_1] 25 (0, 0))) := ⟨by refine bU ?_; refine blk_far ?_ NB283_294.out _; refine bU ?_; refine blk_far ?_ NB283_294.out _; refine bU ?_; refine blk_far ?_ NB283_294.out _; refine bU ?_; refine blk_far ?_ NB283_294.out _; refine bU ?_; exact BK283.out⟩
                have n4_ : Aside0 (((((w40.setCell ⟨gb294, 0, none⟩ (.int .i64 ((rd_T47 x7_2 x30_3).f0))).setCell ⟨gb294, 1, none⟩ (.int .i64 ((rd_T47 x7_2 x30_3).f1))).setCell ⟨gb294, 2, none⟩ (.int .i64 ((rd_T47 x7_2 x30_3).f2))).setCell ⟨gb294, 3, none⟩ (.int .i64 ((rd_T47 x7_2 x30_3).f3))).heap[gb284]? = some (.cells #[.int .i64 x285000_2, .slice none 0 0] 25 (0, 0))) := ⟨by refine bU ?_; refine blk_far ?_ NB284_294.out _; refine bU ?_; refine blk_far ?_ NB284_294.out _; refine bU ?_; refine blk_far ?_ NB284_294.out _; refine bU ?_; refine blk_far ?_ NB284_294.out _; refine bU ?_; exact BK284.out⟩
                have n5_ : Aside0 (((((w40.setCell ⟨gb294, 0, none⟩ (.int .i64 ((rd_T47 x7_2 x30_3).f0))).setCell ⟨gb294, 1, none⟩ (.int .i64 ((rd_T47 x7_2 x30_3).f1))).setCell ⟨gb294, 2, none⟩ (.int .i64 ((rd_T47 x7_2 x30_3).f2))).setCell ⟨gb294, 3, none⟩ (.int .i64 ((rd_T47 x7_2 x30_3).f3))).heap[gb294]? = some (.cells #[.int .i64 ((rd_T47 x7_2 x30_3).f0), .int .i64 ((rd_T47 x7_2 x30_3).f1), .int .i64 ((rd_T47 x7_2 x30_3).f2), .int .i64 ((rd_T47 x7_2 x30_3).f3)] 47 (0, 0))) := ⟨by refine bU ?_; refine blk_put (cs := #[.int .i64 ((rd_T47 x7_2 x30_3).f0), .int .i64 ((rd_T47 x7_2 x30_3).f1), .int .i64 ((rd_T47 x7_2 x30_3).f2), .int .i64 0]) ?_ 3 _ rfl; refine bU ?_; refine blk_put (cs := #[.int .i64 ((rd_T47 x7_2 x30_3).f0), .int .i64 ((rd_T47 x7_2 x30_3).f1), .int .i64 0, .int .i64 0]) ?_ 2 _ rfl; refine bU ?_; refine blk_put (cs := #[.int .i64 ((rd_T47 x7_2 x30_3).f0), .int .i64 0, .int .i64 0, .int .i64 0]) ?_ 1 _ rfl; refine bU ?_; refine blk_put (cs := #[.int .i64 0, .int .i64 0, .int .i64 0, .int .i64 0]) ?_ 0 _ rfl; refine bU ?_; exact BK294.out⟩
                have n6_ : Aside0 (Below w.heap.size w ((((w40.setCell ⟨gb294, 0, none⟩ (.int .i64 ((rd_T47 x7_2 x30_3).f0))).setCell ⟨gb294, 1, none⟩ (.int .i64 ((rd_T47 x7_2 x30_3).f1))).setCell ⟨gb294, 2, none⟩ (.int .i64 ((rd_T47 x7_2 x30_3).f2))).setCell ⟨gb294, 3, none⟩ (.int .i64 ((rd_T47 x7_2 x30_3).f3)))) := ⟨by repeat (first | (with_reducible first | exact HB.out | apply below_alloc | apply pw_below_drewN | apply below_drew1 | refine below_set ?_ GE283.out | refine below_set ?_ GE284.out | refine below_set ?_ GE294.out) | exact HB.out)⟩
                (try clear HO_7)
                (try clear HO_8)
                (try clear HO_28)
                (try clear BK283)
                (try clear BK284)
                (try clear BK294)
                (try clear HB)
                generalize ((((w40.setCell ⟨gb294, 0, none⟩ (.int .i64 ((rd_T47 x7_2 x30_3).f0))).setCell ⟨gb294, 1, none⟩ (.int .i64 ((rd_T47 x7_2 x30_3).f1))).setCell ⟨gb294, 2, none⟩ (.int .i64 ((rd_T47 x7_2 x30_3).f2))).setCell ⟨gb294, 3, none⟩ (.int .i64 ((rd_T47 x7_2 x30_3).f3))) = w44 at n0_ n1_ n2_ n3_ n4_ n5_ n6_ ⊢
                have HO_7 := n0_
                have HO_8 := n1_
                have HO_28 := n2_
                have BK283 := n3_
                have BK284 := n4_
                have BK294 := n5_
                have HB := n6_
                clear n0_ n1_ n2_ n3_ n4_ n5_ n6_
                replace HO_7 := Aside0.mk (Kd.R_drew HO_7.out)
                replace HO_8 := Aside0.mk (Kd.R_drew HO_8.out)
                replace HO_28 := Aside0.mk (Kd.R_drew HO_28.out)
                replace BK283 := Aside0.mk (blk_drew BK283.out)
                replace BK284 := Aside0.mk (blk_drew BK284.out)
                replace BK294 := Aside0.mk (blk_drew BK294.out)
                replace HB := Aside0.mk (below_drew1 HB.out)
                have p295 : 0 ≤ (x9_3 : Int) := of_decide_eq_true hE
                have q295 : x9_3 < (x7_2.length : Int) := of_decide_eq_true hE
                obtain ⟨ad295, e295, hx295_0, hx295_1, hx295_2, hx295_3⟩ := at_T47 (Kd.R_reads' HO_7.out).2.2 x9_3 p295 q295
                obtain rfl : ad293 = ad295 := (by injection e295)
                replace p295 := eq_true p295
                replace q295 := eq_true q295
                refine start_ (n := 18) (S := fun w' => w'.cell? ⟨gb294, 0, none⟩ = some (.int .i64 ((rd_T47 x7_2 x30_3).f0)) ∧ w'.cell? ⟨gb294, 1, none⟩ = some (.int .i64 ((rd_T47 x7_2 x30_3).f1)) ∧ w'.cell? ⟨gb294, 2, none⟩ = some (.int .i64 ((rd_T47 x7_2 x30_3).f2)) ∧ w'.cell? ⟨gb294, 3, none⟩ = some (.int .i64 ((rd_T47 x7_2 x30_3).f3)) ∧ w'.cell? (ad293.add ((x9_3).toNat * 4)) = some (.int .i64 ((rd_T47 x7_2 x9_3).f0)) ∧ w'.cell? ⟨(ad293.add ((x9_3).toNat * 4)).block, (ad293.add ((x9_3).toNat * 4)).off + 1, none⟩ = some (.int .i64 ((rd_T47 x7_2 x9_3).f1)) ∧ w'.cell? ⟨(ad293.add ((x9_3).toNat * 4)).block, (ad293.add ((x9_3).toNat * 4)).off + 2, none⟩ = some (.int .i64 ((rd_T47 x7_2 x9_3).f2)) ∧ w'.cell? ⟨(ad293.add ((x9_3).toNat * 4)).block, (ad293.add ((x9_3).toNat * 4)).off + 3, none⟩ = some (.int .i64 ((rd_T47 x7_2 x9_3).f3))) (ds := []) #[false, false, false, false, false, false, false, false, false, false, false, false, false, false, false, false, false, false] (by kernel_rfl) rfl rfl ⟨cz BK294 0 _, cz BK294 1 _, cz BK294 2 _, cz BK294 3 _, hx295_0, hx295_1, hx295_2, hx295_3⟩ (fun hHeld => ?_); refine with_tabW impl_RunClock.tab8 impl_RunClock.bits8 (fun HT_ HW_ => ?_)
                generalize w44.drew = w45 at HO_7 HO_8 HO_28 BK283 BK284 BK294 HB hx295_0 hx295_1 hx295_2 hx295_3 hHeld ⊢
                refine pureA 0 35 (bz 18 1) rfl rfl (any_of HT_.out (by kernel_rfl)) ?_
                refine pureA 2 37 (bz 18 5) rfl rfl (any_of HT_.out (by kernel_rfl)) ?_
                refine takeA 1 36 (bz 18 7) rfl rfl (take_ofW HT_.out HW_.out (by kernel_rfl)) hHeld (by rintro w' ⟨s0, s1, s2, s3, s4, s5, s6, s7⟩; go_simp; with_reducible rfl) ?_
                refine pureA 3 38 (bz 18 15) rfl rfl (any_of HT_.out (by kernel_rfl)) ?_
                refine pureA 4 39 (bz 18 31) rfl rfl (any_of HT_.out (by kernel_rfl)) ?_
                refine pureA 5 40 (bz 18 63) rfl rfl (any_of HT_.out (by kernel_rfl)) ?_
                refine pureA 6 41 (bz 18 127) rfl rfl (any_of HT_.out (by kernel_rfl)) ?_
                refine pureA 7 42 (bz 18 255) rfl rfl (any_of HT_.out (by kernel_rfl)) ?_
                refine pureA 8 43 (bz 18 511) rfl rfl (any_of HT_.out (by kernel_rfl)) ?_
                refine pureA 10 45 (bz 18 1535) rfl rfl (any_of HT_.out (by kernel_rfl)) ?_
                refine pureA 11 46 (bz 18 3583) rfl rfl (any_of HT_.out (by kernel_rfl)) ?_
                refine pureA 12 47 (bz 18 7679) rfl rfl (any_of HT_.out (by kernel_rfl)) ?_
                refine pureA 13 48 (bz 18 15871) rfl rfl (any_of HT_.out (by kernel_rfl)) ?_
                refine takeA 9 44 (bz 18 16383) rfl rfl (take_ofW HT_.out HW_.out (by kernel_rfl)) hHeld (by rintro w' ⟨s0, s1, s2, s3, s4, s5, s6, s7⟩; go_simp; with_reducible rfl) ?_
                refine takeA 14 49 (bz 18 32767) rfl rfl (take_ofW HT_.out HW_.out (by kernel_rfl)) hHeld (by rintro w' ⟨s0, s1, s2, s3, s4, s5, s6, s7⟩; go_simp; with_reducible rfl) ?_
                refine pureA 15 50 (bz 18 65535) rfl rfl (any_of HT_.out (by kernel_rfl)) ?_
                refine pureA 16 51 (bz 18 131071) rfl rfl (any_of HT_.out (by kernel_rfl)) ?_
                refine pureA 17 52 (bz 18 262143) rfl rfl (any_of HT_.out (by kernel_rfl)) ?_
                refine done_ (done_of HT_.out (by kernel_rfl)) ?_
                try go_wp2
                go_roundg k3
                case measure => have := HJ2.out; have := HK2.out; have := HK3.out; omega
                case rel => exact ⟨(x30_3), (wrap64 (x30_3 + 1)), tE, tE, H', ⟨by have := HJ2.out; have := HK2.out; have := HK3.out; omega⟩, ⟨by (with_reducible repeat (first | apply Kd.R_alloc | apply Kd.R_drewN | apply Kd.R_drew)); exact Kd.R_mono HO_7.out (fun _ hk => trivial)⟩, ⟨by (with_reducible repeat (first | apply Kd.R_alloc | apply Kd.R_drewN | apply Kd.R_drew)); exact HO_8.out⟩, ⟨by (with_reducible repeat (first | apply Kd.R_alloc | apply Kd.R_drewN | apply Kd.R_drew)); exact Kd.R_mono HO_28.out (fun _ hk => trivial)⟩, ⟨by refine bU ?_; exact BK283.out⟩, ⟨by refine bU ?_; exact BK284.out⟩, ⟨by repeat (first | (with_reducible first | exact HB.out | apply below_alloc | apply pw_below_drewN | apply below_drew1 | refine below_set ?_ GE283.out | refine below_set ?_ GE284.out | refine below_set ?_ GE294.out) | exact HB.out)⟩⟩
               ·rw [if_neg c39] at H
                have c39b0 : decide (((rd_T47 x7_2 x30_3).f1) < ((rd_T47 x7_2 x9_3).f1)) = false := decide_eq_false c39
                clear c39
                have H' := Aside0.mk H
                clear H
                have p293 : 0 ≤ (x30_3 : Int) := of_decide_eq_true hE
                have q293 : x30_3 < (x7_2.length : Int) := of_decide_eq_true hE
                obtain ⟨ad293, e293, hx293_0, hx293_1, hx293_2, hx293_3⟩ := at_T47 (Kd.R_reads' HO_28.out).2.2 x30_3 p293 q293
                cases e293
                replace p293 := eq_true p293
                replace q293 := eq_true q293
                try go_wp2_with (first | ((with_reducible refine gate_dst (N := 11) rfl ?_); refine box_event rfl (N := 11) rfl (cs := #[.int .i64 0, .int .i64 0, .int .i64 0, .int .i64 0]) (t := 47) sE ?_; intro gb294 hg w46 hbox hb; replace HO_7 := Aside0.mk (Kd.R_below (Kd.R_elderB (rU HO_7.out) gb294 (Nat.le_of_eq hg.symm)) hb); replace HO_8 := Aside0.mk (Kd.R_below (rU HO_8.out) hb); replace HO_28 := Aside0.mk (Kd.R_below (Kd.R_elderB (rU HO_28.out) gb294 (Nat.le_of_eq hg.symm)) hb); have BK294 := Aside0.mk hbox; have GW294 := gS w hg (lV2 GE283 GE284); have GE294 := gS w hg (lV2 GE283 GE284); replace HB := bH (lV2 GE283 GE284) hb; have NB283_294 := nL hg (bV BK283); have NB294_283 := nG hg (bV BK283); replace BK283 := bB (bV BK283) hb; have NB284_294 := nL hg (bV BK284); have NB294_284 := nG hg (bV BK284); replace BK284 := bB (bV BK284) hb; clear hb hbox hg; have hnb47 := NB294_283.out; have hnc47 := NB283_294.out; have hnb48 := NB294_284.out; have hnc48 := NB284_294.out; have hcz49_0 := cz BK294 0 (.int .i64 0); have hcz49_1 := cz BK294 1 (.int .i64 0); have hcz49_2 := cz BK294 2 (.int .i64 0); have hcz49_3 := cz BK294 3 (.int .i64 0); have hfz49_0 := fz BK294 0; have hfz49_1 := fz BK294 1; have hfz49_2 := fz BK294 2; have hfz49_3 := fz BK294 3))
                have n0_ : Aside0 (Kd.R k47 47 ((((w46.setCell ⟨gb294, 0, none⟩ (.int .i64 ((rd_T47 x7_2 x30_3).f0))).setCell ⟨gb294, 1, none⟩ (.int .i64 ((rd_T47 x7_2 x30_3).f1))).setCell ⟨gb294, 2, none⟩ (.int .i64 ((rd_T47 x7_2 x30_3).f2))).setCell ⟨gb294, 3, none⟩ (.int .i64 ((rd_T47 x7_2 x30_3).f3))) w.heap.size (fun k_ => k_ ≠ gb294) (.slice (some ad293) x7_2.length co25) x7_2) := ⟨by (with_reducible repeat (first | apply Kd.R_alloc | apply Kd.R_drewN | apply Kd.R_drew)); exact Kd.R_mono (Kd.R_far (p := ⟨gb294, 3, none⟩) (Kd.R_far (p := ⟨gb294, 2, none⟩) (Kd.R_far (p := ⟨gb294, 1, none⟩) (Kd.R_far (p := ⟨gb294, 0, none⟩) (Kd.R_mono HO_7.out (fun k_ hk => (⟨hk, hk.2⟩ : _ ∧ k_ ≠ gb294))) (fun _ hk => hk.2) (.int .i64 ((rd_T47 x7_2 x30_3).f0))) (fun _ hk => hk.2) (.int .i64 ((rd_T47 x7_2 x30_3).f1))) (fun _ hk => hk.2) (.int .i64 ((rd_T47 x7_2 x30_3).f2))) (fun _ hk => hk.2) (.int .i64 ((rd_T47 x7_2 x30_3).f3))) (fun _ hk => hk.1.2)⟩
                have n1_ : Aside0 (Kd.R k50 50 ((((w46.setCell ⟨gb294, 0, none⟩ (.int .i64 ((rd_T47 x7_2 x30_3).f0))).setCell ⟨gb294, 1, none⟩ (.int .i64 ((rd_T47 x7_2 x30_3).f1))).setCell ⟨gb294, 2, none⟩ (.int .i64 ((rd_T47 x7_2 x30_3).f2))).setCell ⟨gb294, 3, none⟩ (.int .i64 ((rd_T47 x7_2 x30_3).f3))) w.heap.size (fun _ => True) u8 x8_2) := ⟨by (with_reducible repeat (first | apply Kd.R_alloc | apply Kd.R_drewN | apply Kd.R_drew)); exact Kd.R_mono (Kd.R_far (p := ⟨gb294, 3, none⟩) (Kd.R_far (p := ⟨gb294, 2, none⟩) (Kd.R_far (p := ⟨gb294, 1, none⟩) (Kd.R_far (p := ⟨gb294, 0, none⟩) (Kd.R_types HO_8.out BK294.out (by decide)) (fun _ hk => hk.2) (.int .i64 ((rd_T47 x7_2 x30_3).f0))) (fun _ hk => hk.2) (.int .i64 ((rd_T47 x7_2 x30_3).f1))) (fun _ hk => hk.2) (.int .i64 ((rd_T47 x7_2 x30_3).f2))) (fun _ hk => hk.2) (.int .i64 ((rd_T47 x7_2 x30_3).f3))) (fun _ hk => trivial)⟩
                have n2_ : Aside0 (Kd.R k47 47 ((((w46.setCell ⟨gb294, 0, none⟩ (.int .i64 ((rd_T47 x7_2 x30_3).f0))).setCell ⟨gb294, 1, none⟩ (.int .i64 ((rd_T47 x7_2 x30_3).f1))).setCell ⟨gb294, 2, none⟩ (.int .i64 ((rd_T47 x7_2 x30_3).f2))).setCell ⟨gb294, 3, none⟩ (.int .i64 ((rd_T47 x7_2 x30_3).f3))) w.heap.size (fun k_ => k_ ≠ gb294) (.slice (some ad293) x7_2.length co25) x7_2) := ⟨by (with_reducible repeat (first | apply Kd.R_alloc | apply Kd.R_drewN | apply Kd.R_drew)); exact Kd.R_mono (Kd.R_far (p := ⟨gb294, 3, none⟩) (Kd.R_far (p := ⟨gb294, 2, none⟩) (Kd.R_far (p := ⟨gb294, 1, none⟩) (Kd.R_far (p := ⟨gb294, 0, none⟩) (Kd.R_mono HO_28.out (fun k_ hk => (⟨hk, hk.2⟩ : _ ∧ k_ ≠ gb294))) (fun _ hk => hk.2) (.int .i64 ((rd_T47 x7_2 x30_3).f0))) (fun _ hk => hk.2) (.int .i64 ((rd_T47 x7_2 x30_3).f1))) (fun _ hk => hk.2) (.int .i64 ((rd_T47 x7_2 x30_3).f2))) (fun _ hk => hk.2) (.int .i64 ((rd_T47 x7_2 x30_3).f3))) (fun _ hk => hk.1.2)⟩
                have n3_ : Aside0 (((((w46.setCell ⟨gb294, 0, none⟩ (.int .i64 ((rd_T47 x7_2 x30_3).f0))).setCell ⟨gb294, 1, none⟩ (.int .i64 ((rd_T47 x7_2 x30_3).f1))).setCell ⟨gb294, 2, none⟩ (.int .i64 ((rd_T47 x7_2 x30_3).f2))).setCell ⟨gb294, 3, none⟩ (.int .i64 ((rd_T47 x7_2 x30_3).f3))).heap[gb283]? = some (.cells #[.int .i64 a0_0, .slice A0_1 l0_1.length c0_1] 25 (0, 0))) := ⟨by refine bU ?_; refine blk_far ?_ NB283_294.out _; refine bU ?_; refine blk_far ?_ NB283_294.out _; refine bU ?_; refine blk_far ?_ NB283_294.out _; refine bU ?_; refine blk_far ?_ NB283_294.out _; refine bU ?_; exact BK283.out⟩
                have n4_ : Aside0 (((((w46.setCell ⟨gb294, 0, none⟩ (.int .i64 ((rd_T47 x7_2 x30_3).f0))).setCell ⟨gb294, 1, none⟩ (.int .i64 ((rd_T47 x7_2 x30_3).f1))).setCell ⟨gb294, 2, none⟩ (.int .i64 ((rd_T47 x7_2 x30_3).f2))).setCell ⟨gb294, 3, none⟩ (.int .i64 ((rd_T47 x7_2 x30_3).f3))).heap[gb284]? = some (.cells #[.int .i64 x285000_2, .slice none 0 0] 25 (0, 0))) := ⟨by refine bU ?_; refine blk_far ?_ NB284_294.out _; refine bU ?_; refine blk_far ?_ NB284_294.out _; refine bU ?_; refine blk_far ?_ NB284_294.out _; refine bU ?_; refine blk_far ?_ NB284_294.out _; refine bU ?_; exact BK284.out⟩
                have n5_ : Aside0 (((((w46.setCell ⟨gb294, 0, none⟩ (.int .i64 ((rd_T47 x7_2 x30_3).f0))).setCell ⟨gb294, 1, none⟩ (.int .i64 ((rd_T47 x7_2 x30_3).f1))).setCell ⟨gb294, 2, none⟩ (.int .i64 ((rd_T47 x7_2 x30_3).f2))).setCell ⟨gb294, 3, none⟩ (.int .i64 ((rd_T47 x7_2 x30_3).f3))).heap[gb294]? = some (.cells #[.int .i64 ((rd_T47 x7_2 x30_3).f0), .int .i64 ((rd_T47 x7_2 x30_3).f1), .int .i64 ((rd_T47 x7_2 x30_3).f2), .int .i64 ((rd_T47 x7_2 x30_3).f3)] 47 (0, 0))) := ⟨by refine bU ?_; refine blk_put (cs := #[.int .i64 ((rd_T47 x7_2 x30_3).f0), .int .i64 ((rd_T47 x7_2 x30_3).f1), .int .i64 ((rd_T47 x7_2 x30_3).f2), .int .i64 0]) ?_ 3 _ rfl; refine bU ?_; refine blk_put (cs := #[.int .i64 ((rd_T47 x7_2 x30_3).f0), .int .i64 ((rd_T47 x7_2 x30_3).f1), .int .i64 0, .int .i64 0]) ?_ 2 _ rfl; refine bU ?_; refine blk_put (cs := #[.int .i64 ((rd_T47 x7_2 x30_3).f0), .int .i64 0, .int .i64 0, .int .i64 0]) ?_ 1 _ rfl; refine bU ?_; refine blk_put (cs := #[.int .i64 0, .int .i64 0, .int .i64 0, .int .i64 0]) ?_ 0 _ rfl; refine bU ?_; exact BK294.out⟩
                have n6_ : Aside0 (Below w.heap.size w ((((w46.setCell ⟨gb294, 0, none⟩ (.int .i64 ((rd_T47 x7_2 x30_3).f0))).setCell ⟨gb294, 1, none⟩ (.int .i64 ((rd_T47 x7_2 x30_3).f1))).setCell ⟨gb294, 2, none⟩ (.int .i64 ((rd_T47 x7_2 x30_3).f2))).setCell ⟨gb294, 3, none⟩ (.int .i64 ((rd_T47 x7_2 x30_3).f3)))) := ⟨by repeat (first | (with_reducible first | exact HB.out | apply below_alloc | apply pw_below_drewN | apply below_drew1 | refine below_set ?_ GE283.out | refine below_set ?_ GE284.out | refine below_set ?_ GE294.out) | exact HB.out)⟩
                (try clear HO_7)
                (try clear HO_8)
                (try clear HO_28)
                (try clear BK283)
                (try clear BK284)
                (try clear BK294)
                (try clear HB)
                generalize ((((w46.setCell ⟨gb294, 0, none⟩ (.int .i64 ((rd_T47 x7_2 x30_3).f0))).setCell ⟨gb294, 1, none⟩ (.int .i64 ((rd_T47 x7_2 x30_3).f1))).setCell ⟨gb294, 2, none⟩ (.int .i64 ((rd_T47 x7_2 x30_3).f2))).setCell ⟨gb294, 3, none⟩ (.int .i64 ((rd_T47 x7_2 x30_3).f3))) = w50 at n0_ n1_ n2_ n3_ n4_ n5_ n6_ ⊢
                have HO_7 := n0_
                have HO_8 := n1_
                have HO_28 := n2_
                have BK283 := n3_
                have BK284 := n4_
                have BK294 := n5_
                have HB := n6_
                clear n0_ n1_ n2_ n3_ n4_ n5_ n6_
                replace HO_7 := Aside0.mk (Kd.R_drew HO_7.out)
                replace HO_8 := Aside0.mk (Kd.R_drew HO_8.out)
                replace HO_28 := Aside0.mk (Kd.R_drew HO_28.out)
                replace BK283 := Aside0.mk (blk_drew BK283.out)
                replace BK284 := Aside0.mk (blk_drew BK284.out)
                replace BK294 := Aside0.mk (blk_drew BK294.out)
                replace HB := Aside0.mk (below_drew1 HB.out)
                have p295 : 0 ≤ (x9_3 : Int) := of_decide_eq_true hE
                have q295 : x9_3 < (x7_2.length : Int) := of_decide_eq_true hE
                obtain ⟨ad295, e295, hx295_0, hx295_1, hx295_2, hx295_3⟩ := at_T47 (Kd.R_reads' HO_7.out).2.2 x9_3 p295 q295
                obtain rfl : ad293 = ad295 := (by injection e295)
                replace p295 := eq_true p295
                replace q295 := eq_true q295
                refine start_ (n := 18) (S := fun w' => w'.cell? ⟨gb294, 0, none⟩ = some (.int .i64 ((rd_T47 x7_2 x30_3).f0)) ∧ w'.cell? ⟨gb294, 1, none⟩ = some (.int .i64 ((rd_T47 x7_2 x30_3).f1)) ∧ w'.cell? ⟨gb294, 2, none⟩ = some (.int .i64 ((rd_T47 x7_2 x30_3).f2)) ∧ w'.cell? ⟨gb294, 3, none⟩ = some (.int .i64 ((rd_T47 x7_2 x30_3).f3)) ∧ w'.cell? (ad293.add ((x9_3).toNat * 4)) = some (.int .i64 ((rd_T47 x7_2 x9_3).f0)) ∧ w'.cell? ⟨(ad293.add ((x9_3).toNat * 4)).block, (ad293.add ((x9_3).toNat * 4)).off + 1, none⟩ = some (.int .i64 ((rd_T47 x7_2 x9_3).f1)) ∧ w'.cell? ⟨(ad293.add ((x9_3).toNat * 4)).block, (ad293.add ((x9_3).toNat * 4)).off + 2, none⟩ = some (.int .i64 ((rd_T47 x7_2 x9_3).f2)) ∧ w'.cell? ⟨(ad293.add ((x9_3).toNat * 4)).block, (ad293.add ((x9_3).toNat * 4)).off + 3, none⟩ = some (.int .i64 ((rd_T47 x7_2 x9_3).f3))) (ds := []) #[false, false, false, false, false, false, false, false, false, false, false, false, false, false, false, false, false, false] (by kernel_rfl) rfl rfl ⟨cz BK294 0 _, cz BK294 1 _, cz BK294 2 _, cz BK294 3 _, hx295_0, hx295_1, hx295_2, hx295_3⟩ (fun hHeld => ?_); refine with_tabW impl_RunClock.tab8 impl_RunClock.bits8 (fun HT_ HW_ => ?_)
                generalize w50.drew = w51 at HO_7 HO_8 HO_28 BK283 BK284 BK294 HB hx295_0 hx295_1 hx295_2 hx295_3 hHeld ⊢
                refine pureA 0 35 (bz 18 1) rfl rfl (any_of HT_.out (by kernel_rfl)) ?_
                refine pureA 2 37 (bz 18 5) rfl rfl (any_of HT_.out (by kernel_rfl)) ?_
                refine takeA 1 36 (bz 18 7) rfl rfl (take_ofW HT_.out HW_.out (by kernel_rfl)) hHeld (by rintro w' ⟨s0, s1, s2, s3, s4, s5, s6, s7⟩; go_simp; with_reducible rfl) ?_
                refine pureA 3 38 (bz 18 15) rfl rfl (any_of HT_.out (by kernel_rfl)) ?_
                refine pureA 4 39 (bz 18 31) rfl rfl (any_of HT_.out (by kernel_rfl)) ?_
                refine pureA 5 40 (bz 18 63) rfl rfl (any_of HT_.out (by kernel_rfl)) ?_
                refine pureA 6 41 (bz 18 127) rfl rfl (any_of HT_.out (by kernel_rfl)) ?_
                refine pureA 7 42 (bz 18 255) rfl rfl (any_of HT_.out (by kernel_rfl)) ?_
                refine pureA 8 43 (bz 18 511) rfl rfl (any_of HT_.out (by kernel_rfl)) ?_
                refine pureA 10 45 (bz 18 1535) rfl rfl (any_of HT_.out (by kernel_rfl)) ?_
                refine pureA 11 46 (bz 18 3583) rfl rfl (any_of HT_.out (by kernel_rfl)) ?_
                refine pureA 12 47 (bz 18 7679) rfl rfl (any_of HT_.out (by kernel_rfl)) ?_
                refine pureA 13 48 (bz 18 15871) rfl rfl (any_of HT_.out (by kernel_rfl)) ?_
                refine takeA 9 44 (bz 18 16383) rfl rfl (take_ofW HT_.out HW_.out (by kernel_rfl)) hHeld (by rintro w' ⟨s0, s1, s2, s3, s4, s5, s6, s7⟩; go_simp; with_reducible rfl) ?_
                refine takeA 14 49 (bz 18 32767) rfl rfl (take_ofW HT_.out HW_.out (by kernel_rfl)) hHeld (by rintro w' ⟨s0, s1, s2, s3, s4, s5, s6, s7⟩; go_simp; with_reducible rfl) ?_
                refine pureA 15 50 (bz 18 65535) rfl rfl (any_of HT_.out (by kernel_rfl)) ?_
                refine pureA 16 51 (bz 18 131071) rfl rfl (any_of HT_.out (by kernel_rfl)) ?_
                refine pureA 17 52 (bz 18 262143) rfl rfl (any_of HT_.out (by kernel_rfl)) ?_
                refine done_ (done_of HT_.out (by kernel_rfl)) ?_
                try go_wp2
                go_roundg k3
                case measure => have := HJ2.out; have := HK2.out; have := HK3.out; omega
                case rel => exact ⟨(x9_3), (wrap64 (x30_3 + 1)), tE, tE, H', ⟨by have := HJ2.out; have := HK2.out; have := HK3.out; omega⟩, ⟨by (with_reducible repeat (first | apply Kd.R_alloc | apply Kd.R_drewN | apply Kd.R_drew)); exact Kd.R_mono HO_7.out (fun _ hk => trivial)⟩, ⟨by (with_reducible repeat (first | apply Kd.R_alloc | apply Kd.R_drewN | apply Kd.R_drew)); exact HO_8.out⟩, ⟨by (with_reducible repeat (first | apply Kd.R_alloc | apply Kd.R_drewN | apply Kd.R_drew)); exact Kd.R_mono HO_28.out (fun _ hk => trivial)⟩, ⟨by refine bU ?_; exact BK283.out⟩, ⟨by refine bU ?_; exact BK284.out⟩, ⟨by repeat (first | (with_reducible first | exact HB.out | apply below_alloc | apply pw_below_drewN | apply below_drew1 | refine below_set ?_ GE283.out | refine below_set ?_ GE284.out | refine below_set ?_ GE294.out) | exact HB.out)⟩⟩
              ·rw [if_neg c38] at H
               exact absurd H (by simp)
             ·rw [if_neg c37] at H
              exact absurd H (by simp)
           ·rw [if_neg c29] at H
            have c29b0 : decide (((rd_T47 x7_2 x30_3).f1) ≤ a1) = false := decide_eq_false c29
            clear c29
            have H' := Aside0.mk H
            clear H
            have p293 : 0 ≤ (x30_3 : Int) := of_decide_eq_true hE
            have q293 : x30_3 < (x7_2.length : Int) := of_decide_eq_true hE
            obtain ⟨ad293, e293, hx293_0, hx293_1, hx293_2, hx293_3⟩ := at_T47 (Kd.R_reads' HO_28.out).2.2 x30_3 p293 q293
            cases e293
            replace p293 := eq_true p293
            replace q293 := eq_true q293
            try go_wp2_with (first | ((with_reducible refine gate_dst (N := 11) rfl ?_); refine box_event rfl (N := 11) rfl (cs := #[.int .i64 0, .int .i64 0, .int .i64 0, .int .i64 0]) (t := 47) sE ?_; intro gb294 hg w52 hbox hb; replace HO_7 := Aside0.mk (Kd.R_below (Kd.R_elderB (rU HO_7.out) gb294 (Nat.le_of_eq hg.symm)) hb); replace HO_8 := Aside0.mk (Kd.R_below (rU HO_8.out) hb); replace HO_28 := Aside0.mk (Kd.R_below (Kd.R_elderB (rU HO_28.out) gb294 (Nat.le_of_eq hg.symm)) hb); have BK294 := Aside0.mk hbox; have GW294 := gS w hg (lV2 GE283 GE284); have GE294 := gS w hg (lV2 GE283 GE284); replace HB := bH (lV2 GE283 GE284) hb; have NB283_294 := nL hg (bV BK283); have NB294_283 := nG hg (bV BK283); replace BK283 := bB (bV BK283) hb; have NB284_294 := nL hg (bV BK284); have NB294_284 := nG hg (bV BK284); replace BK284 := bB (bV BK284) hb; clear hb hbox hg; have hnb53 := NB294_283.out; have hnc53 := NB283_294.out; have hnb54 := NB294_284.out; have hnc54 := NB284_294.out; have hcz55_0 := cz BK294 0 (.int .i64 0); have hcz55_1 := cz BK294 1 (.int .i64 0); have hcz55_2 := cz BK294 2 (.int .i64 0); have hcz55_3 := cz BK294 3 (.int .i64 0); have hfz55_0 := fz BK294 0; have hfz55_1 := fz BK294 1; have hfz55_2 := fz BK294 2; have hfz55_3 := fz BK294 3))
            have n0_ : Aside0 (Kd.R k47 47 ((((w52.setCell ⟨gb294, 0, none⟩ (.int .i64 ((rd_T47 x7_2 x30_3).f0))).setCell ⟨gb294, 1, none⟩ (.int .i64 ((rd_T47 x7_2 x30_3).f1))).setCell ⟨gb294, 2, none⟩ (.int .i64 ((rd_T47 x7_2 x30_3).f2))).setCell ⟨gb294, 3, none⟩ (.int .i64 ((rd_T47 x7_2 x30_3).f3))) w.heap.size (fun k_ => k_ ≠ gb294) (.slice (some ad293) x7_2.length co25) x7_2) := ⟨by (with_reducible repeat (first | apply Kd.R_alloc | apply Kd.R_drewN | apply Kd.R_drew)); exact Kd.R_mono (Kd.R_far (p := ⟨gb294, 3, none⟩) (Kd.R_far (p := ⟨gb294, 2, none⟩) (Kd.R_far (p := ⟨gb294, 1, none⟩) (Kd.R_far (p := ⟨gb294, 0, none⟩) (Kd.R_mono HO_7.out (fun k_ hk => (⟨hk, hk.2⟩ : _ ∧ k_ ≠ gb294))) (fun _ hk => hk.2) (.int .i64 ((rd_T47 x7_2 x30_3).f0))) (fun _ hk => hk.2) (.int .i64 ((rd_T47 x7_2 x30_3).f1))) (fun _ hk => hk.2) (.int .i64 ((rd_T47 x7_2 x30_3).f2))) (fun _ hk => hk.2) (.int .i64 ((rd_T47 x7_2 x30_3).f3))) (fun _ hk => hk.1.2)⟩
            have n1_ : Aside0 (Kd.R k50 50 ((((w52.setCell ⟨gb294, 0, none⟩ (.int .i64 ((rd_T47 x7_2 x30_3).f0))).setCell ⟨gb294, 1, none⟩ (.int .i64 ((rd_T47 x7_2 x30_3).f1))).setCell ⟨gb294, 2, none⟩ (.int .i64 ((rd_T47 x7_2 x30_3).f2))).setCell ⟨gb294, 3, none⟩ (.int .i64 ((rd_T47 x7_2 x30_3).f3))) w.heap.size (fun _ => True) u8 x8_2) := ⟨by (with_reducible repeat (first | apply Kd.R_alloc | apply Kd.R_drewN | apply Kd.R_drew)); exact Kd.R_mono (Kd.R_far (p := ⟨gb294, 3, none⟩) (Kd.R_far (p := ⟨gb294, 2, none⟩) (Kd.R_far (p := ⟨gb294, 1, none⟩) (Kd.R_far (p := ⟨gb294, 0, none⟩) (Kd.R_types HO_8.out BK294.out (by decide)) (fun _ hk => hk.2) (.int .i64 ((rd_T47 x7_2 x30_3).f0))) (fun _ hk => hk.2) (.int .i64 ((rd_T47 x7_2 x30_3).f1))) (fun _ hk => hk.2) (.int .i64 ((rd_T47 x7_2 x30_3).f2))) (fun _ hk => hk.2) (.int .i64 ((rd_T47 x7_2 x30_3).f3))) (fun _ hk => trivial)⟩
            have n2_ : Aside0 (Kd.R k47 47 ((((w52.setCell ⟨gb294, 0, none⟩ (.int .i64 ((rd_T47 x7_2 x30_3).f0))).setCell ⟨gb294, 1, none⟩ (.int .i64 ((rd_T47 x7_2 x30_3).f1))).setCell ⟨gb294, 2, none⟩ (.int .i64 ((rd_T47 x7_2 x30_3).f2))).setCell ⟨gb294, 3, none⟩ (.int .i64 ((rd_T47 x7_2 x30_3).f3))) w.heap.size (fun k_ => k_ ≠ gb294) (.slice (some ad293) x7_2.length co25) x7_2) := ⟨by (with_reducible repeat (first | apply Kd.R_alloc | apply Kd.R_drewN | apply Kd.R_drew)); exact Kd.R_mono (Kd.R_far (p := ⟨gb294, 3, none⟩) (Kd.R_far (p := ⟨gb294, 2, none⟩) (Kd.R_far (p := ⟨gb294, 1, none⟩) (Kd.R_far (p := ⟨gb294, 0, none⟩) (Kd.R_mono HO_28.out (fun k_ hk => (⟨hk, hk.2⟩ : _ ∧ k_ ≠ gb294))) (fun _ hk => hk.2) (.int .i64 ((rd_T47 x7_2 x30_3).f0))) (fun _ hk => hk.2) (.int .i64 ((rd_T47 x7_2 x30_3).f1))) (fun _ hk => hk.2) (.int .i64 ((rd_T47 x7_2 x30_3).f2))) (fun _ hk => hk.2) (.int .i64 ((rd_T47 x7_2 x30_3).f3))) (fun _ hk => hk.1.2)⟩
            have n3_ : Aside0 (((((w52.setCell ⟨gb294, 0, none⟩ (.int .i64 ((rd_T47 x7_2 x30_3).f0))).setCell ⟨gb294, 1, none⟩ (.int .i64 ((rd_T47 x7_2 x30_3).f1))).setCell ⟨gb294, 2, none⟩ (.int .i64 ((rd_T47 x7_2 x30_3).f2))).setCell ⟨gb294, 3, none⟩ (.int .i64 ((rd_T47 x7_2 x30_3).f3))).heap[gb283]? = some (.cells #[.int .i64 a0_0, .slice A0_1 l0_1.length c0_1] 25 (0, 0))) := ⟨by refine bU ?_; refine blk_far ?_ NB283_294.out _; refine bU ?_; refine blk_far ?_ NB283_294.out _; refine bU ?_; refine blk_far ?_ NB283_294.out _; refine bU ?_; refine blk_far ?_ NB283_294.out _; refine bU ?_; exact BK283.out⟩
            have n4_ : Aside0 (((((w52.setCell ⟨gb294, 0, none⟩ (.int .i64 ((rd_T47 x7_2 x30_3).f0))).setCell ⟨gb294, 1, none⟩ (.int .i64 ((rd_T47 x7_2 x30_3).f1))).setCell ⟨gb294, 2, none⟩ (.int .i64 ((rd_T47 x7_2 x30_3).f2))).setCell ⟨gb294, 3, none⟩ (.int .i64 ((rd_T47 x7_2 x30_3).f3))).heap[gb284]? = some (.cells #[.int .i64 x285000_2, .slice none 0 0] 25 (0, 0))) := ⟨by refine bU ?_; refine blk_far ?_ NB284_294.out _; refine bU ?_; refine blk_far ?_ NB284_294.out _; refine bU ?_; refine blk_far ?_ NB284_294.out _; refine bU ?_; refine blk_far ?_ NB284_294.out _; refine bU ?_; exact BK284.out⟩
            have n5_ : Aside0 (((((w52.setCell ⟨gb294, 0, none⟩ (.int .i64 ((rd_T47 x7_2 x30_3).f0))).setCell ⟨gb294, 1, none⟩ (.int .i64 ((rd_T47 x7_2 x30_3).f1))).setCell ⟨gb294, 2, none⟩ (.int .i64 ((rd_T47 x7_2 x30_3).f2))).setCell ⟨gb294, 3, none⟩ (.int .i64 ((rd_T47 x7_2 x30_3).f3))).heap[gb294]? = some (.cells #[.int .i64 ((rd_T47 x7_2 x30_3).f0), .int .i64 ((rd_T47 x7_2 x30_3).f1), .int .i64 ((rd_T47 x7_2 x30_3).f2), .int .i64 ((rd_T47 x7_2 x30_3).f3)] 47 (0, 0))) := ⟨by refine bU ?_; refine blk_put (cs := #[.int .i64 ((rd_T47 x7_2 x30_3).f0), .int .i64 ((rd_T47 x7_2 x30_3).f1), .int .i64 ((rd_T47 x7_2 x30_3).f2), .int .i64 0]) ?_ 3 _ rfl; refine bU ?_; refine blk_put (cs := #[.int .i64 ((rd_T47 x7_2 x30_3).f0), .int .i64 ((rd_T47 x7_2 x30_3).f1), .int .i64 0, .int .i64 0]) ?_ 2 _ rfl; refine bU ?_; refine blk_put (cs := #[.int .i64 ((rd_T47 x7_2 x30_3).f0), .int .i64 0, .int .i64 0, .int .i64 0]) ?_ 1 _ rfl; refine bU ?_; refine blk_put (cs := #[.int .i64 0, .int .i64 0, .int .i64 0, .int .i64 0]) ?_ 0 _ rfl; refine bU ?_; exact BK294.out⟩
            have n6_ : Aside0 (Below w.heap.size w ((((w52.setCell ⟨gb294, 0, none⟩ (.int .i64 ((rd_T47 x7_2 x30_3).f0))).setCell ⟨gb294, 1, none⟩ (.int .i64 ((rd_T47 x7_2 x30_3).f1))).setCell ⟨gb294, 2, none⟩ (.int .i64 ((rd_T47 x7_2 x30_3).f2))).setCell ⟨gb294, 3, none⟩ (.int .i64 ((rd_T47 x7_2 x30_3).f3)))) := ⟨by repeat (first | (with_reducible first | exact HB.out | apply below_alloc | apply pw_below_drewN | apply below_drew1 | refine below_set ?_ GE283.out | refine below_set ?_ GE284.out | refine below_set ?_ GE294.out) | exact HB.out)⟩
            (try clear HO_7)
            (try clear HO_8)
            (try clear HO_28)
            (try clear BK283)
            (try clear BK284)
            (try clear BK294)
            (try clear HB)
            generalize ((((w52.setCell ⟨gb294, 0, none⟩ (.int .i64 ((rd_T47 x7_2 x30_3).f0))).setCell ⟨gb294, 1, none⟩ (.int .i64 ((rd_T47 x7_2 x30_3).f1))).setCell ⟨gb294, 2, none⟩ (.int .i64 ((rd_T47 x7_2 x30_3).f2))).setCell ⟨gb294, 3, none⟩ (.int .i64 ((rd_T47 x7_2 x30_3).f3))) = w56 at n0_ n1_ n2_ n3_ n4_ n5_ n6_ ⊢
            have HO_7 := n0_
            have HO_8 := n1_
            have HO_28 := n2_
            have BK283 := n3_
            have BK284 := n4_
            have BK294 := n5_
            have HB := n6_
            clear n0_ n1_ n2_ n3_ n4_ n5_ n6_
            replace HO_7 := Aside0.mk (Kd.R_drew HO_7.out)
            replace HO_8 := Aside0.mk (Kd.R_drew HO_8.out)
            replace HO_28 := Aside0.mk (Kd.R_drew HO_28.out)
            replace BK283 := Aside0.mk (blk_drew BK283.out)
            replace BK284 := Aside0.mk (blk_drew BK284.out)
            replace BK294 := Aside0.mk (blk_drew BK294.out)
            replace HB := Aside0.mk (below_drew1 HB.out)
            refine start_ (n := 18) (S := fun w' => w'.cell? ⟨gb294, 0, none⟩ = some (.int .i64 ((rd_T47 x7_2 x30_3).f0)) ∧ w'.cell? ⟨gb294, 1, none⟩ = some (.int .i64 ((rd_T47 x7_2 x30_3).f1)) ∧ w'.cell? ⟨gb294, 2, none⟩ = some (.int .i64 ((rd_T47 x7_2 x30_3).f2)) ∧ w'.cell? ⟨gb294, 3, none⟩ = some (.int .i64 ((rd_T47 x7_2 x30_3).f3))) (ds := []) #[false, false, false, false, false, false, false, false, false, false, false, false, false, false, false, false, false, false] (by kernel_rfl) rfl rfl ⟨cz BK294 0 _, cz BK294 1 _, cz BK294 2 _, cz BK294 3 _⟩ (fun hHeld => ?_); refine with_tabW impl_RunClock.tab8 impl_RunClock.bits8 (fun HT_ HW_ => ?_)
            generalize w56.drew = w57 at HO_7 HO_8 HO_28 BK283 BK284 BK294 HB hHeld ⊢
            refine pureA 0 35 (bz 18 1) rfl rfl (any_of HT_.out (by kernel_rfl)) ?_
            refine pureA 2 37 (bz 18 5) rfl rfl (any_of HT_.out (by kernel_rfl)) ?_
            refine takeA 1 36 (bz 18 7) rfl rfl (take_ofW HT_.out HW_.out (by kernel_rfl)) hHeld (by rintro w' ⟨s0, s1, s2, s3⟩; go_simp; with_reducible rfl) ?_
            refine pureA 3 38 (bz 18 15) rfl rfl (any_of HT_.out (by kernel_rfl)) ?_
            refine pureA 4 39 (bz 18 31) rfl rfl (any_of HT_.out (by kernel_rfl)) ?_
            refine pureU 5 40 (bz 18 63) rfl rfl (any_of HT_.out (by kernel_rfl)) ?_
            refine pureU 6 41 (bz 18 127) rfl rfl (any_of HT_.out (by kernel_rfl)) ?_
            refine pureU 7 42 (bz 18 255) rfl rfl (any_of HT_.out (by kernel_rfl)) ?_
            refine pureU 8 43 (bz 18 511) rfl rfl (any_of HT_.out (by kernel_rfl)) ?_
            refine pureU 9 44 (bz 18 1023) rfl rfl (any_of HT_.out (by kernel_rfl)) ?_
            refine pureU 10 45 (bz 18 2047) rfl rfl (any_of HT_.out (by kernel_rfl)) ?_
            refine pureU 11 46 (bz 18 4095) rfl rfl (any_of HT_.out (by kernel_rfl)) ?_
            refine pureU 12 47 (bz 18 8191) rfl rfl (any_of HT_.out (by kernel_rfl)) ?_
            refine pureU 13 48 (bz 18 16383) rfl rfl (any_of HT_.out (by kernel_rfl)) ?_
            refine pureU 14 49 (bz 18 32767) rfl rfl (any_of HT_.out (by kernel_rfl)) ?_
            refine pureU 15 50 (bz 18 65535) rfl rfl (any_of HT_.out (by kernel_rfl)) ?_
            refine pureU 16 51 (bz 18 131071) rfl rfl (any_of HT_.out (by kernel_rfl)) ?_
            refine pureA 17 52 (bz 18 262143) rfl rfl (any_of HT_.out (by kernel_rfl)) ?_
            refine done_ (done_of HT_.out (by kernel_rfl)) ?_
            try go_wp2
            go_roundg k3
            case measure => have := HJ2.out; have := HK2.out; have := HK3.out; omega
            case rel => exact ⟨(x9_3), (wrap64 (x30_3 + 1)), tE, tE, H', ⟨by have := HJ2.out; have := HK2.out; have := HK3.out; omega⟩, ⟨by (with_reducible repeat (first | apply Kd.R_alloc | apply Kd.R_drewN | apply Kd.R_drew)); exact Kd.R_mono HO_7.out (fun _ hk => trivial)⟩, ⟨by (with_reducible repeat (first | apply Kd.R_alloc | apply Kd.R_drewN | apply Kd.R_drew)); exact HO_8.out⟩, ⟨by (with_reducible repeat (first | apply Kd.R_alloc | apply Kd.R_drewN | apply Kd.R_drew)); exact Kd.R_mono HO_28.out (fun _ hk => trivial)⟩, ⟨by refine bU ?_; exact BK283.out⟩, ⟨by refine bU ?_; exact BK284.out⟩, ⟨by repeat (first | (with_reducible first | exact HB.out | apply below_alloc | apply pw_below_drewN | apply below_drew1 | refine below_set ?_ GE283.out | refine below_set ?_ GE284.out | refine below_set ?_ GE294.out) | exact HB.out)⟩⟩
          ·rw [if_neg c28] at H
           exact absurd H (by simp)
         ·rw [if_neg c27] at H
          exact absurd H (by simp)
        ·rw [if_neg c26] at H
         have c26b0 : decide (x30_3 < (x7_2.length : Int)) = false := decide_eq_false c26
         clear c26
         by_cases c58 : x9_3 < 0
         ·rw [if_pos c58] at H
          have c58b0 : decide (x9_3 < 0) = true := decide_eq_true c58
          clear c58
          simp only [Option.some.injEq, Prod.mk.injEq] at H
          obtain ⟨rfl, rfl, rfl, rfl⟩ := H
          have hnb59 := NB284_283.out
          have hnc59 := NB283_284.out
          have hcz60_0 := cz BK284 0 (.int .i64 x285000_2)
          have hcz60_1 := cz BK284 1 (.slice none 0 0)
          have hfz60_0 := fz BK284 0
          have hfz60_1 := fz BK284 1
          go_wp2
          refine bodyPost_ret (results_ctt rfl _ _ gb284 25 #[.int .i64 a1, .slice Ao25 x7_2.length co25] (0, 0) _ rfl (by refine bU ?_; refine blk_put (cs := #[.int .i64 a1, .slice none 0 0]) ?_ 1 _ rfl; refine bU ?_; refine blk_put (cs := #[.int .i64 x285000_2, .slice none 0 0]) ?_ 0 _ rfl; refine bU ?_; exact BK284.out) Try.underlying25 rfl (by kernel_rfl)) rfl ?_
          exact ⟨_, _, eE, by (with_reducible repeat (first | apply Kd.R_alloc | apply Kd.R_drewN | apply Kd.R_drew)); exact Kd.R_mono (Kd.R_far (p := ⟨gb284, 1, none⟩) (Kd.R_far (p := ⟨gb284, 0, none⟩) (Kd.R_types HO_7.out BK284.out (by decide)) (fun _ hk => hk.2) (.int .i64 a1)) (fun _ hk => hk.2) (.slice Ao25 x7_2.length co25)) (fun _ hk => trivial), by (with_reducible repeat (first | apply Kd.R_alloc | apply Kd.R_drewN | apply Kd.R_drew)); exact Kd.R_mono (Kd.R_far (p := ⟨gb284, 1, none⟩) (Kd.R_far (p := ⟨gb284, 0, none⟩) (Kd.R_types HO_8.out BK284.out (by decide)) (fun _ hk => hk.2) (.int .i64 a1)) (fun _ hk => hk.2) (.slice Ao25 x7_2.length co25)) (fun _ hk => trivial), lV2 GE283 GE284⟩
         ·rw [if_neg c58] at H
          have c58b0 : decide (x9_3 < 0) = false := decide_eq_false c58
          clear c58
          by_cases c61 : 0 ≤ x9_3
          ·rw [if_pos c61] at H
           have c61b0 : decide (0 ≤ x9_3) = true := decide_eq_true c61
           clear c61
           by_cases c62 : x9_3 < (x7_2.length : Int)
           ·rw [if_pos c62] at H
            have c62b0 : decide (x9_3 < (x7_2.length : Int)) = true := decide_eq_true c62
            clear c62
            by_cases c64 : x8_2.length < 8796093022208
            ·rw [if_pos c64] at H
             have LMc64 := Aside0.mk c64
             clear c64
             obtain ⟨y298, hy298⟩ : ∃ y_ : List (S50), y_ = (x8_2 ++ [(⟨(rd_T47 x7_2 x9_3).f1, (rd_T47 x7_2 x9_3).f0⟩ : S50)]) := ⟨_, rfl⟩
             replace H : (if (y298.length : Int) > 2000 then (some (0, ([] : List (S47)), ([] : List (S50)), false)) else (if ((rd_T47 x7_2 x9_3).f2) > 0 then (if ((rd_T47 x7_2 x9_3).f3) > 1 then ((some (x7_2.set (x9_3 : Int).toNat (⟨(rd_T47 x7_2 x9_3).f0, (rd_T47 x7_2 x9_3).f1, (rd_T47 x7_2 x9_3).f2, wrap64 (((rd_T47 x7_2 x9_3).f3) - 1)⟩ : S47) : List (S47))).bind fun y304 => (impl_RunClock.l0 k3 a1 (y304.set (x9_3 : Int).toNat (⟨(rd_T47 y304 x9_3).f0, wrap64 (((rd_T47 y304 x9_3).f1) + ((rd_T47 y304 x9_3).f2)), (rd_T47 y304 x9_3).f2, (rd_T47 y304 x9_3).f3⟩ : S47)) y298)) else ((impl_Timer_16.f x7_2 x9_3 (wrap64 (x9_3 + 1))).bind fun t308 => (impl_RunClock.l0 k3 a1 t308 y298))) else ((impl_Timer_16.f x7_2 x9_3 (wrap64 (x9_3 + 1))).bind fun t311 => (impl_RunClock.l0 k3 a1 t311 y298)))) = some (r1, r2, r3, r4) := by first | (rw [hy298]; with_reducible exact H) | (have H2_ := (Option.bind_some _ _).symm.trans H; rw [hy298]; with_reducible exact H2_) | (have H2_ := (Option.bind_some _ _).symm.trans H; with_reducible exact H2_) | with_reducible exact H | (rw [hy298]; exact H) | exact H
             have Ny298 := Aside0.mk hy298
             clear hy298
             by_cases c65 : (y298.length : Int) > 2000
             ·rw [if_pos c65] at H
              have c65b0 : decide (2000 < (y298.length : Int)) = true := decide_eq_true c65
              have c65b1 : decide (2000 < y298.length) = true := decide_eq_true (by omega)
              clear c65
              simp only [Option.some.injEq, Prod.mk.injEq] at H
              obtain ⟨rfl, rfl, rfl, rfl⟩ := H
              have p63 : 0 ≤ (x9_3 : Int) := of_decide_eq_true hE
              have q63 : (x9_3 : Int) < ((x7_2.length : Int) : Int) := of_decide_eq_true hE
              obtain ⟨go63, co63, eo63, gb63, gl63, cl63, HG63⟩ := Kd.R_form HO_7.out (by omega)
              (first | cases eo63 | (injection eo63 with ea_ en_ ec_; (first | subst ea_ | (injection ea_ with ea_; subst ea_)); subst ec_; clear en_))
              have GB63 := Aside0.mk gb63
              have GG63 := Aside0.mk HG63
              clear gb63 gl63 HG63
              obtain ⟨ce63, hcl63, hM63, hcc63, hfr63⟩ := Kd.R_elem HO_7.out z47 (x9_3 : Int) p63 q63
              obtain rfl := k47_openM hM63
              have hx63_0 : wr.cell? ⟨go63, (x9_3 : Int).toNat * 4, none⟩ = some (.int .i64 ((rd_T47 x7_2 x9_3).f0)) := hcc63 0 _ rfl
              have hx63_1 : wr.cell? ⟨go63, (x9_3 : Int).toNat * 4 + 1, none⟩ = some (.int .i64 ((rd_T47 x7_2 x9_3).f1)) := hcc63 1 _ rfl
              have hx63_2 : wr.cell? ⟨go63, (x9_3 : Int).toNat * 4 + 2, none⟩ = some (.int .i64 ((rd_T47 x7_2 x9_3).f2)) := hcc63 2 _ rfl
              have hx63_3 : wr.cell? ⟨go63, (x9_3 : Int).toNat * 4 + 3, none⟩ = some (.int .i64 ((rd_T47 x7_2 x9_3).f3)) := hcc63 3 _ rfl
              have hf63_0 : wr.frozen? ⟨go63, (x9_3 : Int).toNat * 4, none⟩ = false := hfr63 0
              have hf63_1 : wr.frozen? ⟨go63, (x9_3 : Int).toNat * 4 + 1, none⟩ = false := hfr63 1
              have hf63_2 : wr.frozen? ⟨go63, (x9_3 : Int).toNat * 4 + 2, none⟩ = false := hfr63 2
              have hf63_3 : wr.frozen? ⟨go63, (x9_3 : Int).toNat * 4 + 3, none⟩ = false := hfr63 3
              (try clear hcl63)
              (try clear hcc63)
              (try clear hfr63)
              (try clear hM63)
              replace p63 := eq_true p63
              replace q63 := eq_true q63
              try go_wp2
              replace HO_7 := Aside0.mk (Kd.R_drew HO_7.out)
              replace HO_8 := Aside0.mk (Kd.R_drew HO_8.out)
              replace HO_28 := Aside0.mk (Kd.R_drew HO_28.out)
              replace BK283 := Aside0.mk (blk_drew BK283.out)
              replace BK284 := Aside0.mk (blk_drew BK284.out)
              replace HB := Aside0.mk (below_drew1 HB.out)
              have p296 : 0 ≤ (x9_3 : Int) := of_decide_eq_true hE
              have q296 : x9_3 < (x7_2.length : Int) := of_decide_eq_true hE
              obtain ⟨ad296, e296, hx296_0, hx296_1, hx296_2, hx296_3⟩ := at_T47 (Kd.R_reads' HO_7.out).2.2 x9_3 p296 q296
              obtain rfl : (⟨go63, 0, none⟩ : Addr) = ad296 := (by injection e296)
              (first | simp only [add_plain] at hx296_0 | simp only [add_at] at hx296_0 | simp only [Addr.add, Nat.zero_add] at hx296_0 | skip)
              (first | simp only [add_plain] at hx296_1 | simp only [add_at] at hx296_1 | simp only [Addr.add, Nat.zero_add] at hx296_1 | skip)
              (first | simp only [add_plain] at hx296_2 | simp only [add_at] at hx296_2 | simp only [Addr.add, Nat.zero_add] at hx296_2 | skip)
              (first | simp only [add_plain] at hx296_3 | simp only [add_at] at hx296_3 | simp only [Addr.add, Nat.zero_add] at hx296_3 | skip)
              replace p296 := eq_true p296
              replace q296 := eq_true q296
              have p297 : 0 ≤ (x9_3 : Int) := of_decide_eq_true hE
              have q297 : x9_3 < (x7_2.length : Int) := of_decide_eq_true hE
              obtain ⟨ad297, e297, hx297_0, hx297_1, hx297_2, hx297_3⟩ := at_T47 (Kd.R_reads' HO_7.out).2.2 x9_3 p297 q297
              obtain rfl : (⟨go63, 0, none⟩ : Addr) = ad297 := (by injection e297)
              (first | simp only [add_plain] at hx297_0 | simp only [add_at] at hx297_0 | simp only [Addr.add, Nat.zero_add] at hx297_0 | skip)
              (first | simp only [add_plain] at hx297_1 | simp only [add_at] at hx297_1 | simp only [Addr.add, Nat.zero_add] at hx297_1 | skip)
              (first | simp only [add_plain] at hx297_2 | simp only [add_at] at hx297_2 | simp only [Addr.add, Nat.zero_add] at hx297_2 | skip)
              (first | simp only [add_plain] at hx297_3 | simp only [add_at] at hx297_3 | simp only [Addr.add, Nat.zero_add] at hx297_3 | skip)
              replace p297 := eq_true p297
              replace q297 := eq_true q297
              refine start_ (n := 13) (S := fun w' => w'.cell? ⟨go63, (x9_3).toNat * 4, none⟩ = some (.int .i64 ((rd_T47 x7_2 x9_3).f0)) ∧ w'.cell? ⟨go63, (x9_3).toNat * 4 + 1, none⟩ = some (.int .i64 ((rd_T47 x7_2 x9_3).f1)) ∧ w'.cell? ⟨go63, (x9_3).toNat * 4 + 2, none⟩ = some (.int .i64 ((rd_T47 x7_2 x9_3).f2)) ∧ w'.cell? ⟨go63, (x9_3).toNat * 4 + 3, none⟩ = some (.int .i64 ((rd_T47 x7_2 x9_3).f3)) ∧ w'.cell? ⟨go63, (x9_3).toNat * 4, none⟩ = some (.int .i64 ((rd_T47 x7_2 x9_3).f0)) ∧ w'.cell? ⟨go63, (x9_3).toNat * 4 + 1, none⟩ = some (.int .i64 ((rd_T47 x7_2 x9_3).f1)) ∧ w'.cell? ⟨go63, (x9_3).toNat * 4 + 2, none⟩ = some (.int .i64 ((rd_T47 x7_2 x9_3).f2)) ∧ w'.cell? ⟨go63, (x9_3).toNat * 4 + 3, none⟩ = some (.int .i64 ((rd_T47 x7_2 x9_3).f3))) (ds := [10, 11]) #[false, false, false, false, false, false, false, false, false, false, false, false, false] (by kernel_rfl) rfl rfl ⟨hx296_0, hx296_1, hx296_2, hx296_3, hx297_0, hx297_1, hx297_2, hx297_3⟩ (fun hHeld => ?_); refine with_tabW impl_RunClock.tab14 impl_RunClock.bits14 (fun HT_ HW_ => ?_)
              generalize wr.drew = w66 at HO_7 HO_8 HO_28 BK283 BK284 HB hx296_0 hx296_1 hx296_2 hx296_3 hx297_0 hx297_1 hx297_2 hx297_3 hHeld ⊢
              refine pureA 0 64 (bz 13 1) rfl rfl (any_of HT_.out (by kernel_rfl)) ?_
              refine pureA 1 65 (bz 13 3) rfl rfl (any_of HT_.out (by kernel_rfl)) ?_
              refine pureA 2 66 (bz 13 7) rfl rfl (any_of HT_.out (by kernel_rfl)) ?_
              refine pureA 3 67 (bz 13 15) rfl rfl (any_of HT_.out (by kernel_rfl)) ?_
              refine pureA 5 69 (bz 13 47) rfl rfl (any_of HT_.out (by kernel_rfl)) ?_
              refine pureA 6 70 (bz 13 111) rfl rfl (any_of HT_.out (by kernel_rfl)) ?_
              refine pureA 7 71 (bz 13 239) rfl rfl (any_of HT_.out (by kernel_rfl)) ?_
              refine takeA 4 68 (bz 13 255) rfl rfl (take_ofW HT_.out HW_.out (by kernel_rfl)) hHeld (by rintro w' ⟨s0, s1, s2, s3, s4, s5, s6, s7⟩; go_simp; with_reducible rfl) ?_
              refine takeA 8 72 (bz 13 511) rfl rfl (take_ofW HT_.out HW_.out (by kernel_rfl)) hHeld (by rintro w' ⟨s0, s1, s2, s3, s4, s5, s6, s7⟩; go_simp; with_reducible rfl) ?_
              refine pureA 9 73 (bz 13 1023) rfl rfl (any_of HT_.out (by kernel_rfl)) ?_
              refine last_ (i := 10) (N := some 74) (bz 13 2047) rfl rfl (one_of HT_.out (by kernel_rfl)) (by decide) (fun K hK => ?_)
              refine value_ (w1 := ?_) (v := ?_) (by rfl) rfl ?_ ?_
              rotate_left 2
              ·go_simp
               constructor
               ·rfl
               ·rfl
              refine hK.out _ _ ?_
              clear hK K
              refine norm_ (a' := ?_) ?_ ?_
              rotate_left
              ·show Act.put _ (some 74) _ = _
               simp only [Act.put, List.setIfInBounds_toArray, List.set_cons_zero, List.set_cons_succ, i64_w, i32_w]
               rfl
              refine last_ (i := 11) (N := some 75) (bz 13 4095) rfl rfl (one_of HT_.out (by kernel_rfl)) (by decide) (fun K hK => ?_)
              refine Kd.R_append_step k50 (w0 := w) w.heap.size (by rfl) (.tmp 64) (.tmp 74) 28 50 (.agg #[(.int .i64 0), (.int .i64 0)]) 16 rfl Try.underlying28 info50 rfl (by decide) (by omega) u8 x8_2 (⟨(rd_T47 x7_2 x9_3).f1, (rd_T47 x7_2 x9_3).f0⟩ : S50) [.int .i64 ((rd_T47 x7_2 x9_3).f1), .int .i64 ((rd_T47 x7_2 x9_3).f0)] (fun _ => True) (fun _ => False) rfl rfl ?aP (fun _ hk => hk.elim) ?aF ?aO ?aB ?aS ?aL ?_
              (case aP => exact k50_mkM _ _ _ (⟨(rd_T47 x7_2 x9_3).f1, (rd_T47 x7_2 x9_3).f0⟩ : S50))
              (case aB => exact (lV2 GE283 GE284))
              (case aF => exact (fun _ _ => trivial))
              (case aO => exact (rU HO_8.out))
              (case aS => exact (below_size (lV2 GE283 GE284)))
              (case aL => have := LMc64.out; omega)
              intro v299 w67 ho hb hg hat
              rw [← Ny298.out] at ho
              replace HO_7 := Aside0.mk (Kd.R_over' (rU HO_7.out) (Kd.R_typed (rU HO_8.out)) (by decide) hg)
              replace HO_28 := Aside0.mk (Kd.R_over' (rU HO_28.out) (Kd.R_typed (rU HO_8.out)) (by decide) hg)
              replace BK283 := Aside0.mk (blk_grown (g := gb283) (o := .cells #[.int .i64 a0_0, .slice A0_1 l0_1.length c0_1] 25 (0, 0)) (bV BK283) hg (Kd.R_ne HO_8.out BK283.out (by decide)))
              replace BK284 := Aside0.mk (blk_grown (g := gb284) (o := .cells #[.int .i64 x285000_2, .slice none 0 0] 25 (0, 0)) (bV BK284) hg (Kd.R_ne HO_8.out BK284.out (by decide)))
              replace HB := Aside0.mk hb
              have HO300 := Aside0.mk ho
              clear HO_8
              clear ho hb hg hat
              refine hK.out _ _ ?_
              clear hK K
              refine norm_ (a' := ?_) ?_ ?_
              rotate_left
              ·show Act.put _ (some 75) _ = _
               simp only [Act.put, List.setIfInBounds_toArray, List.set_cons_zero, List.set_cons_succ, i64_w, i32_w]
               rfl
              refine pureA 12 8 (bz 13 8191) rfl rfl (any_of HT_.out (by kernel_rfl)) ?_
              refine done_ (done_of HT_.out (by kernel_rfl)) ?_
              obtain ⟨Ao68, co68, eo68⟩ := Kd.R_slice HO300.out
              subst eo68
              have hnb69 := NB284_283.out
              have hnc69 := NB283_284.out
              have hcz70_0 := cz BK284 0 (.int .i64 x285000_2)
              have hcz70_1 := cz BK284 1 (.slice none 0 0)
              have hfz70_0 := fz BK284 0
              have hfz70_1 := fz BK284 1
              try go_wp2
              refine bodyPost_ret (results_ctt rfl _ _ gb284 25 #[.int .i64 0, .slice none 0 0] (0, 0) _ rfl (by refine bU ?_; refine blk_put (cs := #[.int .i64 0, .slice none 0 0]) ?_ 1 _ rfl; refine bU ?_; refine blk_put (cs := #[.int .i64 x285000_2, .slice none 0 0]) ?_ 0 _ rfl; refine bU ?_; exact BK284.out) Try.underlying25 rfl (by kernel_rfl)) rfl ?_
              exact ⟨_, _, eE, by first | exact Kd.R_nil _ _ _ _ _ | exact Kd.N_nil _ _ _ _ _ | exact Kd.V_nil _ _ _ _ _ | exact Kd.Q_nil _ _ _ _ _ | exact Kd.S_nil _ _ _ _ _, by first | exact Kd.R_nil _ _ _ _ _ | exact Kd.N_nil _ _ _ _ _ | exact Kd.V_nil _ _ _ _ _ | exact Kd.Q_nil _ _ _ _ _ | exact Kd.S_nil _ _ _ _ _, lV2 GE283 GE284⟩
             ·rw [if_neg c65] at H
              have c65b0 : decide (2000 < (y298.length : Int)) = false := decide_eq_false c65
              have c65b1 : decide (2000 < y298.length) = false := decide_eq_false (by omega)
              clear c65
              by_cases c71 : ((rd_T47 x7_2 x9_3).f2) > 0
              ·rw [if_pos c71] at H
               have c71b0 : decide (0 < ((rd_T47 x7_2 x9_3).f2)) = true := decide_eq_true c71
               clear c71
               by_cases c72 : ((rd_T47 x7_2 x9_3).f3) > 1
               ·rw [if_pos c72] at H
                have c72b0 : decide (1 < ((rd_T47 x7_2 x9_3).f3)) = true := decide_eq_true c72
                clear c72
                obtain ⟨y304, hy304⟩ : ∃ y_ : List (S47), y_ = (x7_2.set (x9_3 : Int).toNat (⟨(rd_T47 x7_2 x9_3).f0, (rd_T47 x7_2 x9_3).f1, (rd_T47 x7_2 x9_3).f2, wrap64 (((rd_T47 x7_2 x9_3).f3) - 1)⟩ : S47)) := ⟨_, rfl⟩
                replace H : (impl_RunClock.l0 k3 a1 (y304.set (x9_3 : Int).toNat (⟨(rd_T47 y304 x9_3).f0, wrap64 (((rd_T47 y304 x9_3).f1) + ((rd_T47 y304 x9_3).f2)), (rd_T47 y304 x9_3).f2, (rd_T47 y304 x9_3).f3⟩ : S47)) y298) = some (r1, r2, r3, r4) := by first | (rw [hy304]; with_reducible exact H) | (have H2_ := (Option.bind_some _ _).symm.trans H; rw [hy304]; with_reducible exact H2_) | (have H2_ := (Option.bind_some _ _).symm.trans H; with_reducible exact H2_) | with_reducible exact H | (rw [hy304]; exact H) | exact H
                have Ny304 := Aside0.mk hy304
                clear hy304
                obtain ⟨y307, hy307⟩ : ∃ y_ : List (S47), y_ = (y304.set (x9_3 : Int).toNat (⟨(rd_T47 y304 x9_3).f0, wrap64 (((rd_T47 y304 x9_3).f1) + ((rd_T47 y304 x9_3).f2)), (rd_T47 y304 x9_3).f2, (rd_T47 y304 x9_3).f3⟩ : S47)) := ⟨_, rfl⟩
                replace H : (impl_RunClock.l0 k3 a1 y307 y298) = some (r1, r2, r3, r4) := by first | (rw [hy307]; with_reducible exact H) | (have H2_ := (Option.bind_some _ _).symm.trans H; rw [hy307]; with_reducible exact H2_) | (have H2_ := (Option.bind_some _ _).symm.trans H; with_reducible exact H2_) | with_reducible exact H | (rw [hy307]; exact H) | exact H
                have Ny307 := Aside0.mk hy307
                clear hy307
                have H' := Aside0.mk H
                clear H
                have p63 : 0 ≤ (x9_3 : Int) := of_decide_eq_true hE
                have q63 : (x9_3 : Int) < ((x7_2.length : Int) : Int) := of_decide_eq_true hE
                obtain ⟨go63, co63, eo63, gb63, gl63, cl63, HG63⟩ := Kd.R_form HO_7.out (by omega)
                (first | cases eo63 | (injection eo63 with ea_ en_ ec_; (first | subst ea_ | (injection ea_ with ea_; subst ea_)); subst ec_; clear en_))
                have GB63 := Aside0.mk gb63
                have GG63 := Aside0.mk HG63
                clear gb63 gl63 HG63
                obtain ⟨ce63, hcl63, hM63, hcc63, hfr63⟩ := Kd.R_elem HO_7.out z47 (x9_3 : Int) p63 q63
                obtain rfl := k47_openM hM63
                have hx63_0 : wr.cell? ⟨go63, (x9_3 : Int).toNat * 4, none⟩ = some (.int .i64 ((rd_T47 x7_2 x9_3).f0)) := hcc63 0 _ rfl
                have hx63_1 : wr.cell? ⟨go63, (x9_3 : Int).toNat * 4 + 1, none⟩ = some (.int .i64 ((rd_T47 x7_2 x9_3).f1)) := hcc63 1 _ rfl
                have hx63_2 : wr.cell? ⟨go63, (x9_3 : Int).toNat * 4 + 2, none⟩ = some (.int .i64 ((rd_T47 x7_2 x9_3).f2)) := hcc63 2 _ rfl
                have hx63_3 : wr.cell? ⟨go63, (x9_3 : Int).toNat * 4 + 3, none⟩ = some (.int .i64 ((rd_T47 x7_2 x9_3).f3)) := hcc63 3 _ rfl
                have hf63_0 : wr.frozen? ⟨go63, (x9_3 : Int).toNat * 4, none⟩ = false := hfr63 0
                have hf63_1 : wr.frozen? ⟨go63, (x9_3 : Int).toNat * 4 + 1, none⟩ = false := hfr63 1
                have hf63_2 : wr.frozen? ⟨go63, (x9_3 : Int).toNat * 4 + 2, none⟩ = false := hfr63 2
                have hf63_3 : wr.frozen? ⟨go63, (x9_3 : Int).toNat * 4 + 3, none⟩ = false := hfr63 3
                (try clear hcl63)
                (try clear hcc63)
                (try clear hfr63)
                (try clear hM63)
                replace p63 := eq_true p63
                replace q63 := eq_true q63
                try go_wp2
                replace HO_7 := Aside0.mk (Kd.R_drew HO_7.out)
                replace HO_8 := Aside0.mk (Kd.R_drew HO_8.out)
                replace HO_28 := Aside0.mk (Kd.R_drew HO_28.out)
                replace BK283 := Aside0.mk (blk_drew BK283.out)
                replace BK284 := Aside0.mk (blk_drew BK284.out)
                replace HB := Aside0.mk (below_drew1 HB.out)
                have p296 : 0 ≤ (x9_3 : Int) := of_decide_eq_true hE
                have q296 : x9_3 < (x7_2.length : Int) := of_decide_eq_true hE
                obtain ⟨ad296, e296, hx296_0, hx296_1, hx296_2, hx296_3⟩ := at_T47 (Kd.R_reads' HO_7.out).2.2 x9_3 p296 q296
                obtain rfl : (⟨go63, 0, none⟩ : Addr) = ad296 := (by injection e296)
                (first | simp only [add_plain] at hx296_0 | simp only [add_at] at hx296_0 | simp only [Addr.add, Nat.zero_add] at hx296_0 | skip)
                (first | simp only [add_plain] at hx296_1 | simp only [add_at] at hx296_1 | simp only [Addr.add, Nat.zero_add] at hx296_1 | skip)
                (first | simp only [add_plain] at hx296_2 | simp only [add_at] at hx296_2 | simp only [Addr.add, Nat.zero_add] at hx296_2 | skip)
                (first | simp only [add_plain] at hx296_3 | simp only [add_at] at hx296_3 | simp only [Addr.add, Nat.zero_add] at hx296_3 | skip)
                replace p296 := eq_true p296
                replace q296 := eq_true q296
                have p297 : 0 ≤ (x9_3 : Int) := of_decide_eq_true hE
                have q297 : x9_3 < (x7_2.length : Int) := of_decide_eq_true hE
                obtain ⟨ad297, e297, hx297_0, hx297_1, hx297_2, hx297_3⟩ := at_T47 (Kd.R_reads' HO_7.out).2.2 x9_3 p297 q297
                obtain rfl : (⟨go63, 0, none⟩ : Addr) = ad297 := (by injection e297)
                (first | simp only [add_plain] at hx297_0 | simp only [add_at] at hx297_0 | simp only [Addr.add, Nat.zero_add] at hx297_0 | skip)
                (first | simp only [add_plain] at hx297_1 | simp only [add_at] at hx297_1 | simp only [Addr.add, Nat.zero_add] at hx297_1 | skip)
                (first | simp only [add_plain] at hx297_2 | simp only [add_at] at hx297_2 | simp only [Addr.add, Nat.zero_add] at hx297_2 | skip)
                (first | simp only [add_plain] at hx297_3 | simp only [add_at] at hx297_3 | simp only [Addr.add, Nat.zero_add] at hx297_3 | skip)
                replace p297 := eq_true p297
                replace q297 := eq_true q297
                refine start_ (n := 13) (S := fun w' => w'.cell? ⟨go63, (x9_3).toNat * 4, none⟩ = some (.int .i64 ((rd_T47 x7_2 x9_3).f0)) ∧ w'.cell? ⟨go63, (x9_3).toNat * 4 + 1, none⟩ = some (.int .i64 ((rd_T47 x7_2 x9_3).f1)) ∧ w'.cell? ⟨go63, (x9_3).toNat * 4 + 2, none⟩ = some (.int .i64 ((rd_T47 x7_2 x9_3).f2)) ∧ w'.cell? ⟨go63, (x9_3).toNat * 4 + 3, none⟩ = some (.int .i64 ((rd_T47 x7_2 x9_3).f3)) ∧ w'.cell? ⟨go63, (x9_3).toNat * 4, none⟩ = some (.int .i64 ((rd_T47 x7_2 x9_3).f0)) ∧ w'.cell? ⟨go63, (x9_3).toNat * 4 + 1, none⟩ = some (.int .i64 ((rd_T47 x7_2 x9_3).f1)) ∧ w'.cell? ⟨go63, (x9_3).toNat * 4 + 2, none⟩ = some (.int .i64 ((rd_T47 x7_2 x9_3).f2)) ∧ w'.cell? ⟨go63, (x9_3).toNat * 4 + 3, none⟩ = some (.int .i64 ((rd_T47 x7_2 x9_3).f3))) (ds := [10, 11]) #[false, false, false, false, false, false, false, false, false, false, false, false, false] (by kernel_rfl) rfl rfl ⟨hx296_0, hx296_1, hx296_2, hx296_3, hx297_0, hx297_1, hx297_2, hx297_3⟩ (fun hHeld => ?_); refine with_tabW impl_RunClock.tab14 impl_RunClock.bits14 (fun HT_ HW_ => ?_)
                generalize wr.drew = w75 at HO_7 HO_8 HO_28 BK283 BK284 HB hx296_0 hx296_1 hx296_2 hx296_3 hx297_0 hx297_1 hx297_2 hx297_3 hHeld ⊢
                refine pureA 0 64 (bz 13 1) rfl rfl (any_of HT_.out (by kernel_rfl)) ?_
                refine pureA 1 65 (bz 13 3) rfl rfl (any_of HT_.out (by kernel_rfl)) ?_
                refine pureA 2 66 (bz 13 7) rfl rfl (any_of HT_.out (by kernel_rfl)) ?_
                refine pureA 3 67 (bz 13 15) rfl rfl (any_of HT_.out (by kernel_rfl)) ?_
                refine pureA 5 69 (bz 13 47) rfl rfl (any_of HT_.out (by kernel_rfl)) ?_
                refine pureA 6 70 (bz 13 111) rfl rfl (any_of HT_.out (by kernel_rfl)) ?_
                refine pureA 7 71 (bz 13 239) rfl rfl (any_of HT_.out (by kernel_rfl)) ?_
                refine takeA 4 68 (bz 13 255) rfl rfl (take_ofW HT_.out HW_.out (by kernel_rfl)) hHeld (by rintro w' ⟨s0, s1, s2, s3, s4, s5, s6, s7⟩; go_simp; with_reducible rfl) ?_
                refine takeA 8 72 (bz 13 511) rfl rfl (take_ofW HT_.out HW_.out (by kernel_rfl)) hHeld (by rintro w' ⟨s0, s1, s2, s3, s4, s5, s6, s7⟩; go_simp; with_reducible rfl) ?_
                refine pureA 9 73 (bz 13 1023) rfl rfl (any_of HT_.out (by kernel_rfl)) ?_
                refine last_ (i := 10) (N := some 74) (bz 13 2047) rfl rfl (one_of HT_.out (by kernel_rfl)) (by decide) (fun K hK => ?_)
                refine value_ (w1 := ?_) (v := ?_) (by rfl) rfl ?_ ?_
                rotate_left 2
                ·go_simp
                 constructor
                 ·rfl
                 ·rfl
                refine hK.out _ _ ?_
                clear hK K
                refine norm_ (a' := ?_) ?_ ?_
                rotate_left
                ·show Act.put _ (some 74) _ = _
                 simp only [Act.put, List.setIfInBounds_toArray, List.set_cons_zero, List.set_cons_succ, i64_w, i32_w]
                 rfl
                refine last_ (i := 11) (N := some 75) (bz 13 4095) rfl rfl (one_of HT_.out (by kernel_rfl)) (by decide) (fun K hK => ?_)
                refine Kd.R_append_step k50 (w0 := w) w.heap.size (by rfl) (.tmp 64) (.tmp 74) 28 50 (.agg #[(.int .i64 0), (.int .i64 0)]) 16 rfl Try.underlying28 info50 rfl (by decide) (by omega) u8 x8_2 (⟨(rd_T47 x7_2 x9_3).f1, (rd_T47 x7_2 x9_3).f0⟩ : S50) [.int .i64 ((rd_T47 x7_2 x9_3).f1), .int .i64 ((rd_T47 x7_2 x9_3).f0)] (fun _ => True) (fun _ => False) rfl rfl ?aP (fun _ hk => hk.elim) ?aF ?aO ?aB ?aS ?aL ?_
                (case aP => exact k50_mkM _ _ _ (⟨(rd_T47 x7_2 x9_3).f1, (rd_T47 x7_2 x9_3).f0⟩ : S50))
                (case aB => exact (lV2 GE283 GE284))
                (case aF => exact (fun _ _ => trivial))
                (case aO => exact (rU HO_8.out))
                (case aS => exact (below_size (lV2 GE283 GE284)))
                (case aL => have := LMc64.out; omega)
                intro v299 w76 ho hb hg hat
                rw [← Ny298.out] at ho
                replace HO_7 := Aside0.mk (Kd.R_over' (rU HO_7.out) (Kd.R_typed (rU HO_8.out)) (by decide) hg)
                replace HO_28 := Aside0.mk (Kd.R_over' (rU HO_28.out) (Kd.R_typed (rU HO_8.out)) (by decide) hg)
                replace BK283 := Aside0.mk (blk_grown (g := gb283) (o := .cells #[.int .i64 a0_0, .slice A0_1 l0_1.length c0_1] 25 (0, 0)) (bV BK283) hg (Kd.R_ne HO_8.out BK283.out (by decide)))
                replace BK284 := Aside0.mk (blk_grown (g := gb284) (o := .cells #[.int .i64 x285000_2, .slice none 0 0] 25 (0, 0)) (bV BK284) hg (Kd.R_ne HO_8.out BK284.out (by decide)))
                replace HB := Aside0.mk hb
                have HO300 := Aside0.mk ho
                clear HO_8
                clear ho hb hg hat
                refine hK.out _ _ ?_
                clear hK K
                refine norm_ (a' := ?_) ?_ ?_
                rotate_left
                ·show Act.put _ (some 75) _ = _
                 simp only [Act.put, List.setIfInBounds_toArray, List.set_cons_zero, List.set_cons_succ, i64_w, i32_w]
                 rfl
                refine pureA 12 8 (bz 13 8191) rfl rfl (any_of HT_.out (by kernel_rfl)) ?_
                refine done_ (done_of HT_.out (by kernel_rfl)) ?_
                obtain ⟨Ao77, co77, eo77⟩ := Kd.R_slice HO300.out
                subst eo77
                have p301 : 0 ≤ (x9_3 : Int) := of_decide_eq_true hE
                have q301 : x9_3 < (x7_2.length : Int) := of_decide_eq_true hE
                obtain ⟨ad301, e301, hx301_0, hx301_1, hx301_2, hx301_3⟩ := at_T47 (Kd.R_reads' HO_7.out).2.2 x9_3 p301 q301
                obtain rfl : (⟨go63, 0, none⟩ : Addr) = ad301 := (by injection e301)
                (first | simp only [add_plain] at hx301_0 | simp only [add_at] at hx301_0 | simp only [Addr.add, Nat.zero_add] at hx301_0 | skip)
                (first | simp only [add_plain] at hx301_1 | simp only [add_at] at hx301_1 | simp only [Addr.add, Nat.zero_add] at hx301_1 | skip)
                (first | simp only [add_plain] at hx301_2 | simp only [add_at] at hx301_2 | simp only [Addr.add, Nat.zero_add] at hx301_2 | skip)
                (first | simp only [add_plain] at hx301_3 | simp only [add_at] at hx301_3 | simp only [Addr.add, Nat.zero_add] at hx301_3 | skip)
                replace p301 := eq_true p301
                replace q301 := eq_true q301
                have p302 : 0 ≤ (x9_3 : Int) := of_decide_eq_true hE
                have q302 : x9_3 < (x7_2.length : Int) := of_decide_eq_true hE
                obtain ⟨ad302, e302, hx302_0, hx302_1, hx302_2, hx302_3⟩ := at_T47 (Kd.R_reads' HO_7.out).2.2 x9_3 p302 q302
                obtain rfl : (⟨go63, 0, none⟩ : Addr) = ad302 := (by injection e302)
                (first | simp only [add_plain] at hx302_0 | simp only [add_at] at hx302_0 | simp only [Addr.add, Nat.zero_add] at hx302_0 | skip)
                (first | simp only [add_plain] at hx302_1 | simp only [add_at] at hx302_1 | simp only [Addr.add, Nat.zero_add] at hx302_1 | skip)
                (first | simp only [add_plain] at hx302_2 | simp only [add_at] at hx302_2 | simp only [Addr.add, Nat.zero_add] at hx302_2 | skip)
                (first | simp only [add_plain] at hx302_3 | simp only [add_at] at hx302_3 | simp only [Addr.add, Nat.zero_add] at hx302_3 | skip)
                replace p302 := eq_true p302
                replace q302 := eq_true q302
                have p303 : 0 ≤ (x9_3 : Int) := of_decide_eq_true hE
                have q303 : x9_3 < (x7_2.length : Int) := of_decide_eq_true hE
                obtain ⟨ad303, e303, hx303_0, hx303_1, hx303_2, hx303_3⟩ := at_T47 (Kd.R_reads' HO_7.out).2.2 x9_3 p303 q303
                obtain rfl : (⟨go63, 0, none⟩ : Addr) = ad303 := (by injection e303)
                (first | simp only [add_plain] at hx303_0 | simp only [add_at] at hx303_0 | simp only [Addr.add, Nat.zero_add] at hx303_0 | skip)
                (first | simp only [add_plain] at hx303_1 | simp only [add_at] at hx303_1 | simp only [Addr.add, Nat.zero_add] at hx303_1 | skip)
                (first | simp only [add_plain] at hx303_2 | simp only [add_at] at hx303_2 | simp only [Addr.add, Nat.zero_add] at hx303_2 | skip)
                (first | simp only [add_plain] at hx303_3 | simp only [add_at] at hx303_3 | simp only [Addr.add, Nat.zero_add] at hx303_3 | skip)
                replace p303 := eq_true p303
                replace q303 := eq_true q303
                have p73 : 0 ≤ (x9_3 : Int) := of_decide_eq_true hE
                have q73 : (x9_3 : Int) < ((x7_2.length : Int) : Int) := of_decide_eq_true hE
                obtain ⟨ce73, hcl73, hM73, hcc73, hfr73⟩ := Kd.R_elem HO_7.out z47 (x9_3 : Int) p73 q73
                obtain rfl := k47_openM hM73
                have hx73_0 : w76.cell? ⟨go63, (x9_3 : Int).toNat * 4, none⟩ = some (.int .i64 ((rd_T47 x7_2 x9_3).f0)) := hcc73 0 _ rfl
                have hx73_1 : w76.cell? ⟨go63, (x9_3 : Int).toNat * 4 + 1, none⟩ = some (.int .i64 ((rd_T47 x7_2 x9_3).f1)) := hcc73 1 _ rfl
                have hx73_2 : w76.cell? ⟨go63, (x9_3 : Int).toNat * 4 + 2, none⟩ = some (.int .i64 ((rd_T47 x7_2 x9_3).f2)) := hcc73 2 _ rfl
                have hx73_3 : w76.cell? ⟨go63, (x9_3 : Int).toNat * 4 + 3, none⟩ = some (.int .i64 ((rd_T47 x7_2 x9_3).f3)) := hcc73 3 _ rfl
                have hf73_0 : w76.frozen? ⟨go63, (x9_3 : Int).toNat * 4, none⟩ = false := hfr73 0
                have hf73_1 : w76.frozen? ⟨go63, (x9_3 : Int).toNat * 4 + 1, none⟩ = false := hfr73 1
                have hf73_2 : w76.frozen? ⟨go63, (x9_3 : Int).toNat * 4 + 2, none⟩ = false := hfr73 2
                have hf73_3 : w76.frozen? ⟨go63, (x9_3 : Int).toNat * 4 + 3, none⟩ = false := hfr73 3
                (try clear hcl73)
                (try clear hcc73)
                (try clear hfr73)
                (try clear hM73)
                replace p73 := eq_true p73
                replace q73 := eq_true q73
                have HX78 := Aside0.mk (show Kd.R k47 47 w76 w.heap.size (fun _ => True) (.slice (some ⟨go63, 0, none⟩) x7_2.length co25) x7_2 from (rU HO_7.out))
                obtain ⟨ce78, hcl78, hM78, hcc78, hfr78⟩ := Kd.R_elem HX78.out z47 (x9_3 : Int) (of_decide_eq_true hE) (by have h_ : (x9_3 : Int) < ((x7_2.length : Int) : Int) := of_decide_eq_true hE; first | exact h_ | (have e_ := (Kd.R_reads' HO_7.out).1; omega) | simpa using h_)
                obtain rfl := k47_openM hM78
                have HP78 := Kd.R_seg HX78.out (x9_3 : Int) (of_decide_eq_true hE) (by have h_ : (x9_3 : Int) < ((x7_2.length : Int) : Int) := of_decide_eq_true hE; first | exact h_ | (have e_ := (Kd.R_reads' HO_7.out).1; omega) | simpa using h_) (seg := [.int .i64 (wrap64 (((rd_T47 x7_2 x9_3).f3) - 1))]) (j := 3) hcl78 hcc78 (show 4 ≤ 4 from by decide) (x' := (⟨(rd_T47 x7_2 x9_3).f0, (rd_T47 x7_2 x9_3).f1, (rd_T47 x7_2 x9_3).f2, wrap64 (((rd_T47 x7_2 x9_3).f3) - 1)⟩ : S47)) (k47_mkM _ _ _ (⟨(rd_T47 x7_2 x9_3).f0, (rd_T47 x7_2 x9_3).f1, (rd_T47 x7_2 x9_3).f2, wrap64 (((rd_T47 x7_2 x9_3).f3) - 1)⟩ : S47) ) (fun _ hk => hk)
                have hx78_3 := hcc78 3 _ rfl
                (try simp only [show (k47).sz = 4 from rfl, Nat.mul_one, Nat.add_zero] at hx78_3)
                have hf78_3 := hfr78 3
                (try simp only [show (k47).sz = 4 from rfl, Nat.mul_one, Nat.add_zero] at hf78_3)
                (try clear hcl78)
                (try clear hcc78)
                (try clear hfr78)
                (try clear hM78)
                try go_wp2_with (first | ((with_reducible refine gate_store (t := 3) (p := 98) rfl ?_); refine store_event (t := 3) (p := 98) (v := ?vo_w79) (w1 := (w76.setCell ⟨go63, (x9_3 : Int).toNat * 4 + 3, none⟩ (.int .i64 (wrap64 (((rd_T47 x7_2 x9_3).f3) - 1))))) ?hg ?ho ?hn ?hr ?_; (case ho => rfl); (case hg => rfl); (case hn => rfl); (case hr => exact sE); intro w79 hw; have hg : w76.grownBy w79 (some go63) := (by rw [hw]; exact HP78.2); have hp_ : Kd.R k47 47 w79 w.heap.size (fun _ => True) (.slice (some ⟨go63, 0, none⟩) x7_2.length co25) y304 := (by rw [hw, Ny304.out]; exact HP78.1); clear HP78; replace BK283 := Aside0.mk (blk_grown (g := gb283) (o := .cells #[.int .i64 a0_0, .slice A0_1 l0_1.length c0_1] 25 (0, 0)) (bV BK283) hg (Kd.R_ne HO_7.out BK283.out (by decide))); replace BK284 := Aside0.mk (blk_grown (g := gb284) (o := .cells #[.int .i64 x285000_2, .slice none 0 0] 25 (0, 0)) (bV BK284) hg (Kd.R_ne HO_7.out BK284.out (by decide))); replace HO300 := Aside0.mk (Kd.R_over' (v := (.slice (some ⟨go63, 0, none⟩) x7_2.length co25)) (rU HO300.out) (Kd.R_typed HO_7.out) (by decide) hg); replace HO_7 := Aside0.mk hp_; replace HB := Aside0.mk ((by rw [hw]; exact below_set (HB.out) GB63.out : Below w.heap.size w w79)); clear hg hw hp_))
                replace HO_7 := Aside0.mk (Kd.R_drew HO_7.out)
                replace HO300 := Aside0.mk (Kd.R_drew HO300.out)
                replace BK283 := Aside0.mk (blk_drew BK283.out)
                replace BK284 := Aside0.mk (blk_drew BK284.out)
                replace HB := Aside0.mk (below_drew1 HB.out)
                have p305 : 0 ≤ (x9_3 : Int) := of_decide_eq_true hE
                have q305 : x9_3 < (y304.length : Int) := (by have h_ : (x9_3 : Int) < ((x7_2.length : Int) : Int) := of_decide_eq_true hE; first | (have e_ := (Kd.R_reads' HO_7.out).1; omega) | simpa only [Ny304.out, List.length_set] using h_)
                have ql305 : ((x9_3 : Int) < ((x7_2.length : Int) : Int)) = True := eq_true (of_decide_eq_true hE)
                obtain ⟨ad305, e305, hx305_0, hx305_1, hx305_2, hx305_3⟩ := at_T47 (Kd.R_reads' HO_7.out).2.2 x9_3 p305 q305
                obtain rfl : (⟨go63, 0, none⟩ : Addr) = ad305 := (by injection e305)
                (first | simp only [add_plain] at hx305_0 | simp only [add_at] at hx305_0 | simp only [Addr.add, Nat.zero_add] at hx305_0 | skip)
                (first | simp only [add_plain] at hx305_1 | simp only [add_at] at hx305_1 | simp only [Addr.add, Nat.zero_add] at hx305_1 | skip)
                (first | simp only [add_plain] at hx305_2 | simp only [add_at] at hx305_2 | simp only [Addr.add, Nat.zero_add] at hx305_2 | skip)
                (first | simp only [add_plain] at hx305_3 | simp only [add_at] at hx305_3 | simp only [Addr.add, Nat.zero_add] at hx305_3 | skip)
                replace p305 := eq_true p305
                replace q305 := eq_true q305
                have p306 : 0 ≤ (x9_3 : Int) := of_decide_eq_true hE
                have q306 : x9_3 < (y304.length : Int) := (by have h_ : (x9_3 : Int) < ((x7_2.length : Int) : Int) := of_decide_eq_true hE; first | (have e_ := (Kd.R_reads' HO_7.out).1; omega) | simpa only [Ny304.out, List.length_set] using h_)
                have ql306 : ((x9_3 : Int) < ((x7_2.length : Int) : Int)) = True := eq_true (of_decide_eq_true hE)
                obtain ⟨ad306, e306, hx306_0, hx306_1, hx306_2, hx306_3⟩ := at_T47 (Kd.R_reads' HO_7.out).2.2 x9_3 p306 q306
                obtain rfl : (⟨go63, 0, none⟩ : Addr) = ad306 := (by injection e306)
                (first | simp only [add_plain] at hx306_0 | simp only [add_at] at hx306_0 | simp only [Addr.add, Nat.zero_add] at hx306_0 | skip)
                (first | simp only [add_plain] at hx306_1 | simp only [add_at] at hx306_1 | simp only [Addr.add, Nat.zero_add] at hx306_1 | skip)
                (first | simp only [add_plain] at hx306_2 | simp only [add_at] at hx306_2 | simp only [Addr.add, Nat.zero_add] at hx306_2 | skip)
                (first | simp only [add_plain] at hx306_3 | simp only [add_at] at hx306_3 | simp only [Addr.add, Nat.zero_add] at hx306_3 | skip)
                replace p306 := eq_true p306
                replace q306 := eq_true q306
                have p74 : 0 ≤ (x9_3 : Int) := of_decide_eq_true hE
                have q74 : (x9_3 : Int) < ((x7_2.length : Int) : Int) := of_decide_eq_true hE
                obtain ⟨ce74, hcl74, hM74, hcc74, hfr74⟩ := Kd.R_elem HO_7.out z47 (x9_3 : Int) p74 q74
                obtain rfl := k47_openM hM74
                have hx74_0 : World.cell? _ ⟨go63, (x9_3 : Int).toNat * 4, none⟩ = some (.int .i64 ((rd_T47 y304 x9_3).f0)) := hcc74 0 _ rfl
                have hx74_1 : World.cell? _ ⟨go63, (x9_3 : Int).toNat * 4 + 1, none⟩ = some (.int .i64 ((rd_T47 y304 x9_3).f1)) := hcc74 1 _ rfl
                have hx74_2 : World.cell? _ ⟨go63, (x9_3 : Int).toNat * 4 + 2, none⟩ = some (.int .i64 ((rd_T47 y304 x9_3).f2)) := hcc74 2 _ rfl
                have hx74_3 : World.cell? _ ⟨go63, (x9_3 : Int).toNat * 4 + 3, none⟩ = some (.int .i64 ((rd_T47 y304 x9_3).f3)) := hcc74 3 _ rfl
                have hf74_0 : World.frozen? _ ⟨go63, (x9_3 : Int).toNat * 4, none⟩ = false := hfr74 0
                have hf74_1 : World.frozen? _ ⟨go63, (x9_3 : Int).toNat * 4 + 1, none⟩ = false := hfr74 1
                have hf74_2 : World.frozen? _ ⟨go63, (x9_3 : Int).toNat * 4 + 2, none⟩ = false := hfr74 2
                have hf74_3 : World.frozen? _ ⟨go63, (x9_3 : Int).toNat * 4 + 3, none⟩ = false := hfr74 3
                (try clear hcl74)
                (try clear hcc74)
                (try clear hfr74)
                (try clear hM74)
                replace p74 := eq_true p74
                replace q74 := eq_true q74
                obtain ⟨ce81, hcl81, hM81, hcc81, hfr81⟩ := Kd.R_elem HO_7.out z47 (x9_3 : Int) (of_decide_eq_true hE) (by have h_ : (x9_3 : Int) < ((x7_2.length : Int) : Int) := of_decide_eq_true hE; first | exact h_ | (have e_ := (Kd.R_reads' HO_7.out).1; omega) | simpa using h_)
                obtain rfl := k47_openM hM81
                have HP81 := (Kd.R_seg HO_7.out (x9_3 : Int) (of_decide_eq_true hE) (by have h_ : (x9_3 : Int) < ((x7_2.length : Int) : Int) := of_decide_eq_true hE; first | exact h_ | (have e_ := (Kd.R_reads' HO_7.out).1; omega) | simpa using h_) (seg := [.int .i64 (wrap64 (((rd_T47 y304 x9_3).f1) + ((rd_T47 y304 x9_3).f2)))]) (j := 1) hcl81 hcc81 (show 2 ≤ 4 from by decide) (x' := (⟨(rd_T47 y304 x9_3).f0, wrap64 (((rd_T47 y304 x9_3).f1) + ((rd_T47 y304 x9_3).f2)), (rd_T47 y304 x9_3).f2, (rd_T47 y304 x9_3).f3⟩ : S47)) (k47_mkM _ _ _ (⟨(rd_T47 y304 x9_3).f0, wrap64 (((rd_T47 y304 x9_3).f1) + ((rd_T47 y304 x9_3).f2)), (rd_T47 y304 x9_3).f2, (rd_T47 y304 x9_3).f3⟩ : S47) ) (fun _ hk => hk)).1
                rw [← Ny307.out] at HP81
                have HQ81 := Aside0.mk HP81
                clear hcl81 hcc81 hfr81 hM81 HP81
                refine start_ (n := 12) (S := fun w' => w'.cell? ⟨go63, (x9_3).toNat * 4, none⟩ = some (.int .i64 ((rd_T47 y304 x9_3).f0)) ∧ w'.cell? ⟨go63, (x9_3).toNat * 4 + 1, none⟩ = some (.int .i64 ((rd_T47 y304 x9_3).f1)) ∧ w'.cell? ⟨go63, (x9_3).toNat * 4 + 2, none⟩ = some (.int .i64 ((rd_T47 y304 x9_3).f2)) ∧ w'.cell? ⟨go63, (x9_3).toNat * 4 + 3, none⟩ = some (.int .i64 ((rd_T47 y304 x9_3).f3)) ∧ w'.cell? ⟨go63, (x9_3).toNat * 4, none⟩ = some (.int .i64 ((rd_T47 y304 x9_3).f0)) ∧ w'.cell? ⟨go63, (x9_3).toNat * 4 + 1, none⟩ = some (.int .i64 ((rd_T47 y304 x9_3).f1)) ∧ w'.cell? ⟨go63, (x9_3).toNat * 4 + 2, none⟩ = some (.int .i64 ((rd_T47 y304 x9_3).f2)) ∧ w'.cell? ⟨go63, (x9_3).toNat * 4 + 3, none⟩ = some (.int .i64 ((rd_T47 y304 x9_3).f3))) (ds := [11]) #[false, false, false, false, false, false, false, false, false, false, false, false] (by kernel_rfl) rfl rfl ⟨hx305_0, hx305_1, hx305_2, hx305_3, hx306_0, hx306_1, hx306_2, hx306_3⟩ (fun hHeld => ?_); refine with_tabW impl_RunClock.tab19 impl_RunClock.bits19 (fun HT_ HW_ => ?_)
                generalize w79.drew = w80 at HO_7 HO300 BK283 BK284 HB HQ81 hf74_0 hf74_1 hf74_2 hf74_3 hx305_0 hx305_1 hx305_2 hx305_3 hx306_0 hx306_1 hx306_2 hx306_3 hx74_0 hx74_1 hx74_2 hx74_3 hHeld ⊢
                refine pureA 0 99 (bz 12 1) rfl rfl (any_of HT_.out (by kernel_rfl)) ?_
                refine pureA 1 100 (bz 12 3) rfl rfl (any_of HT_.out (by kernel_rfl)) ?_
                refine pureA 2 101 (bz 12 7) rfl rfl (any_of HT_.out (by kernel_rfl)) ?_
                refine pureA 4 103 (bz 12 23) rfl rfl (any_of HT_.out (by kernel_rfl)) ?_
                refine pureA 5 104 (bz 12 55) rfl rfl (any_of HT_.out (by kernel_rfl)) ?_
                refine pureA 6 105 (bz 12 119) rfl rfl (any_of HT_.out (by kernel_rfl)) ?_
                refine takeA 3 102 (bz 12 127) rfl rfl (take_ofW HT_.out HW_.out (by kernel_rfl)) hHeld (by rintro w' ⟨s0, s1, s2, s3, s4, s5, s6, s7⟩; go_simp; with_reducible rfl) ?_
                refine takeA 7 106 (bz 12 255) rfl rfl (take_ofW HT_.out HW_.out (by kernel_rfl)) hHeld (by rintro w' ⟨s0, s1, s2, s3, s4, s5, s6, s7⟩; go_simp; with_reducible rfl) ?_
                refine pureA 8 107 (bz 12 511) rfl rfl (any_of HT_.out (by kernel_rfl)) ?_
                refine pureA 9 108 (bz 12 1023) rfl rfl (any_of HT_.out (by kernel_rfl)) ?_
                refine pureA 10 109 (bz 12 2047) rfl rfl (any_of HT_.out (by kernel_rfl)) ?_
                refine last_ (i := 11) (N := none) (bz 12 4095) rfl rfl (one_of HT_.out (by kernel_rfl)) (by decide) (fun K hK => ?_)
                refine skip_ (w1 := ?_) (by rfl) rfl ?_ ?_
                rotate_left
                ·go_simp
                 rfl
                refine hK.out _ _ ?_
                clear hK K
                refine done_ (done_of HT_.out (by kernel_rfl)) ?_
                try go_wp2
                go_roundg k3
                case measure => have := HJ2.out; have := HK2.out; have := HK3.out; omega
                case rel => exact ⟨(y307), (y298), (x285000_2), H', ⟨by have := HJ2.out; have := HK2.out; have := HK3.out; omega⟩, ⟨by (with_reducible repeat (first | apply Kd.R_alloc | apply Kd.R_drewN | apply Kd.R_drew)); exact HQ81.out⟩, ⟨by (with_reducible repeat (first | apply Kd.R_alloc | apply Kd.R_drewN | apply Kd.R_drew)); exact Kd.R_mono (Kd.R_far (p := ⟨go63, (x9_3 : Int).toNat * 4 + 1, none⟩) (Kd.R_types HO300.out (Kd.R_typed HO_7.out go63 rfl).choose_spec (by decide)) (fun _ hk => hk.2) (.int .i64 (wrap64 (((rd_T47 y304 x9_3).f1) + ((rd_T47 y304 x9_3).f2))))) (fun _ hk => trivial)⟩, ⟨by refine bU ?_; refine blk_far ?_ (by have h_ := Kd.R_ne HO_7.out BK283.out (by decide); intro e_; exact h_ (by rw [e_]; rfl)) _; refine bU ?_; exact BK283.out⟩, ⟨by refine bU ?_; refine blk_far ?_ (by have h_ := Kd.R_ne HO_7.out BK284.out (by decide); intro e_; exact h_ (by rw [e_]; rfl)) _; refine bU ?_; exact BK284.out⟩, ⟨by repeat (first | (with_reducible first | exact HB.out | apply below_alloc | apply pw_below_drewN | apply below_drew1 | refine below_set ?_ GB63.out | refine below_set ?_ GE283.out | refine below_set ?_ GE284.out) | exact HB.out)⟩⟩
               ·rw [if_neg c72] at H
                have c72b0 : decide (1 < ((rd_T47 x7_2 x9_3).f3)) = false := decide_eq_false c72
                clear c72
                replace H := Option.bind_eq_some_iff.mp H
                obtain ⟨t308, A820, H⟩ := H
                replace H : (impl_RunClock.l0 k3 a1 t308 y298) = some (r1, r2, r3, r4) := H
                have A82 := Aside0.mk A820
                clear A820
                have H' := Aside0.mk H
                clear H
                have p63 : 0 ≤ (x9_3 : Int) := of_decide_eq_true hE
                have q63 : (x9_3 : Int) < ((x7_2.length : Int) : Int) := of_decide_eq_true hE
                obtain ⟨go63, co63, eo63, gb63, gl63, cl63, HG63⟩ := Kd.R_form HO_7.out (by omega)
                (first | cases eo63 | (injection eo63 with ea_ en_ ec_; (first | subst ea_ | (injection ea_ with ea_; subst ea_)); subst ec_; clear en_))
                have GB63 := Aside0.mk gb63
                have GG63 := Aside0.mk HG63
                clear gb63 gl63 HG63
                obtain ⟨ce63, hcl63, hM63, hcc63, hfr63⟩ := Kd.R_elem HO_7.out z47 (x9_3 : Int) p63 q63
                obtain rfl := k47_openM hM63
                have hx63_0 : wr.cell? ⟨go63, (x9_3 : Int).toNat * 4, none⟩ = some (.int .i64 ((rd_T47 x7_2 x9_3).f0)) := hcc63 0 _ rfl
                have hx63_1 : wr.cell? ⟨go63, (x9_3 : Int).toNat * 4 + 1, none⟩ = some (.int .i64 ((rd_T47 x7_2 x9_3).f1)) := hcc63 1 _ rfl
                have hx63_2 : wr.cell? ⟨go63, (x9_3 : Int).toNat * 4 + 2, none⟩ = some (.int .i64 ((rd_T47 x7_2 x9_3).f2)) := hcc63 2 _ rfl
                have hx63_3 : wr.cell? ⟨go63, (x9_3 : Int).toNat * 4 + 3, none⟩ = some (.int .i64 ((rd_T47 x7_2 x9_3).f3)) := hcc63 3 _ rfl
                have hf63_0 : wr.frozen? ⟨go63, (x9_3 : Int).toNat * 4, none⟩ = false := hfr63 0
                have hf63_1 : wr.frozen? ⟨go63, (x9_3 : Int).toNat * 4 + 1, none⟩ = false := hfr63 1
                have hf63_2 : wr.frozen? ⟨go63, (x9_3 : Int).toNat * 4 + 2, none⟩ = false := hfr63 2
                have hf63_3 : wr.frozen? ⟨go63, (x9_3 : Int).toNat * 4 + 3, none⟩ = false := hfr63 3
                (try clear hcl63)
                (try clear hcc63)
                (try clear hfr63)
                (try clear hM63)
                replace p63 := eq_true p63
                replace q63 := eq_true q63
                try go_wp2
                replace HO_7 := Aside0.mk (Kd.R_drew HO_7.out)
                replace HO_8 := Aside0.mk (Kd.R_drew HO_8.out)
                replace HO_28 := Aside0.mk (Kd.R_drew HO_28.out)
                replace BK283 := Aside0.mk (blk_drew BK283.out)
                replace BK284 := Aside0.mk (blk_drew BK284.out)
                replace HB := Aside0.mk (below_drew1 HB.out)
                have p296 : 0 ≤ (x9_3 : Int) := of_decide_eq_true hE
                have q296 : x9_3 < (x7_2.length : Int) := of_decide_eq_true hE
                obtain ⟨ad296, e296, hx296_0, hx296_1, hx296_2, hx296_3⟩ := at_T47 (Kd.R_reads' HO_7.out).2.2 x9_3 p296 q296
                obtain rfl : (⟨go63, 0, none⟩ : Addr) = ad296 := (by injection e296)
                (first | simp only [add_plain] at hx296_0 | simp only [add_at] at hx296_0 | simp only [Addr.add, Nat.zero_add] at hx296_0 | skip)
                (first | simp only [add_plain] at hx296_1 | simp only [add_at] at hx296_1 | simp only [Addr.add, Nat.zero_add] at hx296_1 | skip)
                (first | simp only [add_plain] at hx296_2 | simp only [add_at] at hx296_2 | simp only [Addr.add, Nat.zero_add] at hx296_2 | skip)
                (first | simp only [add_plain] at hx296_3 | simp only [add_at] at hx296_3 | simp only [Addr.add, Nat.zero_add] at hx296_3 | skip)
                replace p296 := eq_true p296
                replace q296 := eq_true q296
                have p297 : 0 ≤ (x9_3 : Int) := of_decide_eq_true hE
                have q297 : x9_3 < (x7_2.length : Int) := of_decide_eq_true hE
                obtain ⟨ad297, e297, hx297_0, hx297_1, hx297_2, hx297_3⟩ := at_T47 (Kd.R_reads' HO_7.out).2.2 x9_3 p297 q297
                obtain rfl : (⟨go63, 0, none⟩ : Addr) = ad297 := (by injection e297)
                (first | simp only [add_plain] at hx297_0 | simp only [add_at] at hx297_0 | simp only [Addr.add, Nat.zero_add] at hx297_0 | skip)
                (first | simp only [add_plain] at hx297_1 | simp only [add_at] at hx297_1 | simp only [Addr.add, Nat.zero_add] at hx297_1 | skip)
                (first | simp only [add_plain] at hx297_2 | simp only [add_at] at hx297_2 | simp only [Addr.add, Nat.zero_add] at hx297_2 | skip)
                (first | simp only [add_plain] at hx297_3 | simp only [add_at] at hx297_3 | simp only [Addr.add, Nat.zero_add] at hx297_3 | skip)
                replace p297 := eq_true p297
                replace q297 := eq_true q297
                refine start_ (n := 13) (S := fun w' => w'.cell? ⟨go63, (x9_3).toNat * 4, none⟩ = some (.int .i64 ((rd_T47 x7_2 x9_3).f0)) ∧ w'.cell? ⟨go63, (x9_3).toNat * 4 + 1, none⟩ = some (.int .i64 ((rd_T47 x7_2 x9_3).f1)) ∧ w'.cell? ⟨go63, (x9_3).toNat * 4 + 2, none⟩ = some (.int .i64 ((rd_T47 x7_2 x9_3).f2)) ∧ w'.cell? ⟨go63, (x9_3).toNat * 4 + 3, none⟩ = some (.int .i64 ((rd_T47 x7_2 x9_3).f3)) ∧ w'.cell? ⟨go63, (x9_3).toNat * 4, none⟩ = some (.int .i64 ((rd_T47 x7_2 x9_3).f0)) ∧ w'.cell? ⟨go63, (x9_3).toNat * 4 + 1, none⟩ = some (.int .i64 ((rd_T47 x7_2 x9_3).f1)) ∧ w'.cell? ⟨go63, (x9_3).toNat * 4 + 2, none⟩ = some (.int .i64 ((rd_T47 x7_2 x9_3).f2)) ∧ w'.cell? ⟨go63, (x9_3).toNat * 4 + 3, none⟩ = some (.int .i64 ((rd_T47 x7_2 x9_3).f3))) (ds := [10, 11]) #[false, false, false, false, false, false, false, false, false, false, false, false, false] (by kernel_rfl) rfl rfl ⟨hx296_0, hx296_1, hx296_2, hx296_3, hx297_0, hx297_1, hx297_2, hx297_3⟩ (fun hHeld => ?_); refine with_tabW impl_RunClock.tab14 impl_RunClock.bits14 (fun HT_ HW_ => ?_)
                generalize wr.drew = w83 at HO_7 HO_8 HO_28 BK283 BK284 HB hx296_0 hx296_1 hx296_2 hx296_3 hx297_0 hx297_1 hx297_2 hx297_3 hHeld ⊢
                refine pureA 0 64 (bz 13 1) rfl rfl (any_of HT_.out (by kernel_rfl)) ?_
                refine pureA 1 65 (bz 13 3) rfl rfl (any_of HT_.out (by kernel_rfl)) ?_
                refine pureA 2 66 (bz 13 7) rfl rfl (any_of HT_.out (by kernel_rfl)) ?_
                refine pureA 3 67 (bz 13 15) rfl rfl (any_of HT_.out (by kernel_rfl)) ?_
                refine pureA 5 69 (bz 13 47) rfl rfl (any_of HT_.out (by kernel_rfl)) ?_
                refine pureA 6 70 (bz 13 111) rfl rfl (any_of HT_.out (by kernel_rfl)) ?_
                refine pureA 7 71 (bz 13 239) rfl rfl (any_of HT_.out (by kernel_rfl)) ?_
                refine takeA 4 68 (bz 13 255) rfl rfl (take_ofW HT_.out HW_.out (by kernel_rfl)) hHeld (by rintro w' ⟨s0, s1, s2, s3, s4, s5, s6, s7⟩; go_simp; with_reducible rfl) ?_
                refine takeA 8 72 (bz 13 511) rfl rfl (take_ofW HT_.out HW_.out (by kernel_rfl)) hHeld (by rintro w' ⟨s0, s1, s2, s3, s4, s5, s6, s7⟩; go_simp; with_reducible rfl) ?_
                refine pureA 9 73 (bz 13 1023) rfl rfl (any_of HT_.out (by kernel_rfl)) ?_
                refine last_ (i := 10) (N := some 74) (bz 13 2047) rfl rfl (one_of HT_.out (by kernel_rfl)) (by decide) (fun K hK => ?_)
                refine value_ (w1 := ?_) (v := ?_) (by rfl) rfl ?_ ?_
                rotate_left 2
                ·go_simp
                 constructor
                 ·rfl
                 ·rfl
                refine hK.out _ _ ?_
                clear hK K
                refine norm_ (a' := ?_) ?_ ?_
                rotate_left
                ·show Act.put _ (some 74) _ = _
                 simp only [Act.put, List.setIfInBounds_toArray, List.set_cons_zero, List.set_cons_succ, i64_w, i32_w]
                 rfl
                refine last_ (i := 11) (N := some 75) (bz 13 4095) rfl rfl (one_of HT_.out (by kernel_rfl)) (by decide) (fun K hK => ?_)
                refine Kd.R_append_step k50 (w0 := w) w.heap.size (by rfl) (.tmp 64) (.tmp 74) 28 50 (.agg #[(.int .i64 0), (.int .i64 0)]) 16 rfl Try.underlying28 info50 rfl (by decide) (by omega) u8 x8_2 (⟨(rd_T47 x7_2 x9_3).f1, (rd_T47 x7_2 x9_3).f0⟩ : S50) [.int .i64 ((rd_T47 x7_2 x9_3).f1), .int .i64 ((rd_T47 x7_2 x9_3).f0)] (fun _ => True) (fun _ => False) rfl rfl ?aP (fun _ hk => hk.elim) ?aF ?aO ?aB ?aS ?aL ?_
                (case aP => exact k50_mkM _ _ _ (⟨(rd_T47 x7_2 x9_3).f1, (rd_T47 x7_2 x9_3).f0⟩ : S50))
                (case aB => exact (lV2 GE283 GE284))
                (case aF => exact (fun _ _ => trivial))
                (case aO => exact (rU HO_8.out))
                (case aS => exact (below_size (lV2 GE283 GE284)))
                (case aL => have := LMc64.out; omega)
                intro v299 w84 ho hb hg hat
                rw [← Ny298.out] at ho
                replace HO_7 := Aside0.mk (Kd.R_over' (rU HO_7.out) (Kd.R_typed (rU HO_8.out)) (by decide) hg)
                replace HO_28 := Aside0.mk (Kd.R_over' (rU HO_28.out) (Kd.R_typed (rU HO_8.out)) (by decide) hg)
                replace BK283 := Aside0.mk (blk_grown (g := gb283) (o := .cells #[.int .i64 a0_0, .slice A0_1 l0_1.length c0_1] 25 (0, 0)) (bV BK283) hg (Kd.R_ne HO_8.out BK283.out (by decide)))
                replace BK284 := Aside0.mk (blk_grown (g := gb284) (o := .cells #[.int .i64 x285000_2, .slice none 0 0] 25 (0, 0)) (bV BK284) hg (Kd.R_ne HO_8.out BK284.out (by decide)))
                replace HB := Aside0.mk hb
                have HO300 := Aside0.mk ho
                clear HO_8
                clear ho hb hg hat
                refine hK.out _ _ ?_
                clear hK K
                refine norm_ (a' := ?_) ?_ ?_
                rotate_left
                ·show Act.put _ (some 75) _ = _
                 simp only [Act.put, List.setIfInBounds_toArray, List.set_cons_zero, List.set_cons_succ, i64_w, i32_w]
                 rfl
                refine pureA 12 8 (bz 13 8191) rfl rfl (any_of HT_.out (by kernel_rfl)) ?_
                refine done_ (done_of HT_.out (by kernel_rfl)) ?_
                obtain ⟨Ao85, co85, eo85⟩ := Kd.R_slice HO300.out
                subst eo85
                have p301 : 0 ≤ (x9_3 : Int) := of_decide_eq_true hE
                have q301 : x9_3 < (x7_2.length : Int) := of_decide_eq_true hE
                obtain ⟨ad301, e301, hx301_0, hx301_1, hx301_2, hx301_3⟩ := at_T47 (Kd.R_reads' HO_7.out).2.2 x9_3 p301 q301
                obtain rfl : (⟨go63, 0, none⟩ : Addr) = ad301 := (by injection e301)
                (first | simp only [add_plain] at hx301_0 | simp only [add_at] at hx301_0 | simp only [Addr.add, Nat.zero_add] at hx301_0 | skip)
                (first | simp only [add_plain] at hx301_1 | simp only [add_at] at hx301_1 | simp only [Addr.add, Nat.zero_add] at hx301_1 | skip)
                (first | simp only [add_plain] at hx301_2 | simp only [add_at] at hx301_2 | simp only [Addr.add, Nat.zero_add] at hx301_2 | skip)
                (first | simp only [add_plain] at hx301_3 | simp only [add_at] at hx301_3 | simp only [Addr.add, Nat.zero_add] at hx301_3 | skip)
                replace p301 := eq_true p301
                replace q301 := eq_true q301
                have p302 : 0 ≤ (x9_3 : Int) := of_decide_eq_true hE
                have q302 : x9_3 < (x7_2.length : Int) := of_decide_eq_true hE
                obtain ⟨ad302, e302, hx302_0, hx302_1, hx302_2, hx302_3⟩ := at_T47 (Kd.R_reads' HO_7.out).2.2 x9_3 p302 q302
                obtain rfl : (⟨go63, 0, none⟩ : Addr) = ad302 := (by injection e302)
                (first | simp only [add_plain] at hx302_0 | simp only [add_at] at hx302_0 | simp only [Addr.add, Nat.zero_add] at hx302_0 | skip)
                (first | simp only [add_plain] at hx302_1 | simp only [add_at] at hx302_1 | simp only [Addr.add, Nat.zero_add] at hx302_1 | skip)
                (first | simp only [add_plain] at hx302_2 | simp only [add_at] at hx302_2 | simp only [Addr.add, Nat.zero_add] at hx302_2 | skip)
                (first | simp only [add_plain] at hx302_3 | simp only [add_at] at hx302_3 | simp only [Addr.add, Nat.zero_add] at hx302_3 | skip)
                replace p302 := eq_true p302
                replace q302 := eq_true q302
                try go_wp2_with (first | ((with_reducible refine gate_callee (f := 16) rfl ?_); refine goesL_ (some 114) rfl rfl Try.func16 (by kernel_rfl) rfl #[.slice (some ⟨go63, 0, none⟩) x7_2.length co25, .int .i64 x9_3, .int .i64 (wrap64 (x9_3 + 1))] rfl aE ?_; (with_reducible refine (impl_Timer_16.calls (fun k_ => some k_ = (.slice (some ⟨go63, 0, none⟩) x7_2.length co25 : Value).ownBlock) (.slice (some ⟨go63, 0, none⟩) x7_2.length co25) x7_2 x9_3 (wrap64 (x9_3 + 1)) t308 w _ ?side1 ?side2 A82.out).mono ?_); (case side1 => repeat (first | (with_reducible first | exact HB.out | apply below_alloc | apply pw_below_drewN | apply below_drew1 | refine below_set ?_ GE283.out | refine below_set ?_ GE284.out) | exact HB.out)); (case side2 => exact Kd.R_tight rfl HO_7.out); rintro e w86 ⟨v309, rfl, ho0, hb, hkp⟩; refine ⟨_, rfl, ?_⟩; replace BK283 := Aside0.mk (blk_kept (bV BK283) hkp (fun hs_ => (fun e_ => (Kd.R_ne HO_7.out BK283.out (by decide)) e_) hs_)); replace BK284 := Aside0.mk (blk_kept (bV BK284) hkp (fun hs_ => (fun e_ => (Kd.R_ne HO_7.out BK284.out (by decide)) e_) hs_)); replace HO300 := Aside0.mk (Kd.R_mono (ok' := fun k_ => True) (Kd.R_keptB ((Kd.R_apart' HO300.out (Kd.R_typed HO_7.out) (by decide))) hkp (fun k_ hk_ hs_ => (hk_.2) hs_)) (fun k_ hk_ => trivial)); have HO310 := Aside0.mk (Kd.R_mono (ok' := fun k_ => True) ho0 (fun k_ hk_ => trivial)); replace HB := Aside0.mk hb; clear HO_7; (try clear hb); (try clear hkp); (try clear hg_); (try clear hp_); (try clear ho0)))
                go_roundg k3
                case measure => have := HJ2.out; have := HK2.out; have := HK3.out; omega
                case rel => exact ⟨(t308), (y298), (x285000_2), H', ⟨by have := HJ2.out; have := HK2.out; have := HK3.out; omega⟩, ⟨by (with_reducible repeat (first | apply Kd.R_alloc | apply Kd.R_drewN | apply Kd.R_drew)); exact HO310.out⟩, ⟨by (with_reducible repeat (first | apply Kd.R_alloc | apply Kd.R_drewN | apply Kd.R_drew)); exact HO300.out⟩, ⟨by refine bU ?_; exact BK283.out⟩, ⟨by refine bU ?_; exact BK284.out⟩, ⟨by repeat (first | (with_reducible first | exact HB.out | apply below_alloc | apply pw_below_drewN | apply below_drew1 | refine below_set ?_ GE283.out | refine below_set ?_ GE284.out) | exact HB.out)⟩⟩
              ·rw [if_neg c71] at H
               have c71b0 : decide (0 < ((rd_T47 x7_2 x9_3).f2)) = false := decide_eq_false c71
               clear c71
               replace H := Option.bind_eq_some_iff.mp H
               obtain ⟨t311, A870, H⟩ := H
               replace H : (impl_RunClock.l0 k3 a1 t311 y298) = some (r1, r2, r3, r4) := H
               have A87 := Aside0.mk A870
               clear A870
               have H' := Aside0.mk H
               clear H
               have p63 : 0 ≤ (x9_3 : Int) := of_decide_eq_true hE
               have q63 : (x9_3 : Int) < ((x7_2.length : Int) : Int) := of_decide_eq_true hE
               obtain ⟨go63, co63, eo63, gb63, gl63, cl63, HG63⟩ := Kd.R_form HO_7.out (by omega)
               (first | cases eo63 | (injection eo63 with ea_ en_ ec_; (first | subst ea_ | (injection ea_ with ea_; subst ea_)); subst ec_; clear en_))
               have GB63 := Aside0.mk gb63
               have GG63 := Aside0.mk HG63
               clear gb63 gl63 HG63
               obtain ⟨ce63, hcl63, hM63, hcc63, hfr63⟩ := Kd.R_elem HO_7.out z47 (x9_3 : Int) p63 q63
               obtain rfl := k47_openM hM63
               have hx63_0 : wr.cell? ⟨go63, (x9_3 : Int).toNat * 4, none⟩ = some (.int .i64 ((rd_T47 x7_2 x9_3).f0)) := hcc63 0 _ rfl
               have hx63_1 : wr.cell? ⟨go63, (x9_3 : Int).toNat * 4 + 1, none⟩ = some (.int .i64 ((rd_T47 x7_2 x9_3).f1)) := hcc63 1 _ rfl
               have hx63_2 : wr.cell? ⟨go63, (x9_3 : Int).toNat * 4 + 2, none⟩ = some (.int .i64 ((rd_T47 x7_2 x9_3).f2)) := hcc63 2 _ rfl
               have hx63_3 : wr.cell? ⟨go63, (x9_3 : Int).toNat * 4 + 3, none⟩ = some (.int .i64 ((rd_T47 x7_2 x9_3).f3)) := hcc63 3 _ rfl
               have hf63_0 : wr.frozen? ⟨go63, (x9_3 : Int).toNat * 4, none⟩ = false := hfr63 0
               have hf63_1 : wr.frozen? ⟨go63, (x9_3 : Int).toNat * 4 + 1, none⟩ = false := hfr63 1
               have hf63_2 : wr.frozen? ⟨go63, (x9_3 : Int).toNat * 4 + 2, none⟩ = false := hfr63 2
               have hf63_3 : wr.frozen? ⟨go63, (x9_3 : Int).toNat * 4 + 3, none⟩ = false := hfr63 3
               (try clear hcl63)
               (try clear hcc63)
               (try clear hfr63)
               (try clear hM63)
               replace p63 := eq_true p63
               replace q63 := eq_true q63
               try go_wp2
               replace HO_7 := Aside0.mk (Kd.R_drew HO_7.out)
               replace HO_8 := Aside0.mk (Kd.R_drew HO_8.out)
               replace HO_28 := Aside0.mk (Kd.R_drew HO_28.out)
               replace BK283 := Aside0.mk (blk_drew BK283.out)
               replace BK284 := Aside0.mk (blk_drew BK284.out)
               replace HB := Aside0.mk (below_drew1 HB.out)
               have p296 : 0 ≤ (x9_3 : Int) := of_decide_eq_true hE
               have q296 : x9_3 < (x7_2.length : Int) := of_decide_eq_true hE
               obtain ⟨ad296, e296, hx296_0, hx296_1, hx296_2, hx296_3⟩ := at_T47 (Kd.R_reads' HO_7.out).2.2 x9_3 p296 q296
               obtain rfl : (⟨go63, 0, none⟩ : Addr) = ad296 := (by injection e296)
               (first | simp only [add_plain] at hx296_0 | simp only [add_at] at hx296_0 | simp only [Addr.add, Nat.zero_add] at hx296_0 | skip)
               (first | simp only [add_plain] at hx296_1 | simp only [add_at] at hx296_1 | simp only [Addr.add, Nat.zero_add] at hx296_1 | skip)
               (first | simp only [add_plain] at hx296_2 | simp only [add_at] at hx296_2 | simp only [Addr.add, Nat.zero_add] at hx296_2 | skip)
               (first | simp only [add_plain] at hx296_3 | simp only [add_at] at hx296_3 | simp only [Addr.add, Nat.zero_add] at hx296_3 | skip)
               replace p296 := eq_true p296
               replace q296 := eq_true q296
               have p297 : 0 ≤ (x9_3 : Int) := of_decide_eq_true hE
               have q297 : x9_3 < (x7_2.length : Int) := of_decide_eq_true hE
               obtain ⟨ad297, e297, hx297_0, hx297_1, hx297_2, hx297_3⟩ := at_T47 (Kd.R_reads' HO_7.out).2.2 x9_3 p297 q297
               obtain rfl : (⟨go63, 0, none⟩ : Addr) = ad297 := (by injection e297)
               (first | simp only [add_plain] at hx297_0 | simp only [add_at] at hx297_0 | simp only [Addr.add, Nat.zero_add] at hx297_0 | skip)
               (first | simp only [add_plain] at hx297_1 | simp only [add_at] at hx297_1 | simp only [Addr.add, Nat.zero_add] at hx297_1 | skip)
               (first | simp only [add_plain] at hx297_2 | simp only [add_at] at hx297_2 | simp only [Addr.add, Nat.zero_add] at hx297_2 | skip)
               (first | simp only [add_plain] at hx297_3 | simp only [add_at] at hx297_3 | simp only [Addr.add, Nat.zero_add] at hx297_3 | skip)
               replace p297 := eq_true p297
               replace q297 := eq_true q297
               refine start_ (n := 13) (S := fun w' => w'.cell? ⟨go63, (x9_3).toNat * 4, none⟩ = some (.int .i64 ((rd_T47 x7_2 x9_3).f0)) ∧ w'.cell? ⟨go63, (x9_3).toNat * 4 + 1, none⟩ = some (.int .i64 ((rd_T47 x7_2 x9_3).f1)) ∧ w'.cell? ⟨go63, (x9_3).toNat * 4 + 2, none⟩ = some (.int .i64 ((rd_T47 x7_2 x9_3).f2)) ∧ w'.cell? ⟨go63, (x9_3).toNat * 4 + 3, none⟩ = some (.int .i64 ((rd_T47 x7_2 x9_3).f3)) ∧ w'.cell? ⟨go63, (x9_3).toNat * 4, none⟩ = some (.int .i64 ((rd_T47 x7_2 x9_3).f0)) ∧ w'.cell? ⟨go63, (x9_3).toNat * 4 + 1, none⟩ = some (.int .i64 ((rd_T47 x7_2 x9_3).f1)) ∧ w'.cell? ⟨go63, (x9_3).toNat * 4 + 2, none⟩ = some (.int .i64 ((rd_T47 x7_2 x9_3).f2)) ∧ w'.cell? ⟨go63, (x9_3).toNat * 4 + 3, none⟩ = some (.int .i64 ((rd_T47 x7_2 x9_3).f3))) (ds := [10, 11]) #[false, false, false, false, false, false, false, false, false, false, false, false, false] (by kernel_rfl) rfl rfl ⟨hx296_0, hx296_1, hx296_2, hx296_3, hx297_0, hx297_1, hx297_2, hx297_3⟩ (fun hHeld => ?_); refine with_tabW impl_RunClock.tab14 impl_RunClock.bits14 (fun HT_ HW_ => ?_)
               generalize wr.drew = w88 at HO_7 HO_8 HO_28 BK283 BK284 HB hx296_0 hx296_1 hx296_2 hx296_3 hx297_0 hx297_1 hx297_2 hx297_3 hHeld ⊢
               refine pureA 0 64 (bz 13 1) rfl rfl (any_of HT_.out (by kernel_rfl)) ?_
               refine pureA 1 65 (bz 13 3) rfl rfl (any_of HT_.out (by kernel_rfl)) ?_
               refine pureA 2 66 (bz 13 7) rfl rfl (any_of HT_.out (by kernel_rfl)) ?_
               refine pureA 3 67 (bz 13 15) rfl rfl (any_of HT_.out (by kernel_rfl)) ?_
               refine pureA 5 69 (bz 13 47) rfl rfl (any_of HT_.out (by kernel_rfl)) ?_
               refine pureA 6 70 (bz 13 111) rfl rfl (any_of HT_.out (by kernel_rfl)) ?_
               refine pureA 7 71 (bz 13 239) rfl rfl (any_of HT_.out (by kernel_rfl)) ?_
               refine takeA 4 68 (bz 13 255) rfl rfl (take_ofW HT_.out HW_.out (by kernel_rfl)) hHeld (by rintro w' ⟨s0, s1, s2, s3, s4, s5, s6, s7⟩; go_simp; with_reducible rfl) ?_
               refine takeA 8 72 (bz 13 511) rfl rfl (take_ofW HT_.out HW_.out (by kernel_rfl)) hHeld (by rintro w' ⟨s0, s1, s2, s3, s4, s5, s6, s7⟩; go_simp; with_reducible rfl) ?_
               refine pureA 9 73 (bz 13 1023) rfl rfl (any_of HT_.out (by kernel_rfl)) ?_
               refine last_ (i := 10) (N := some 74) (bz 13 2047) rfl rfl (one_of HT_.out (by kernel_rfl)) (by decide) (fun K hK => ?_)
               refine value_ (w1 := ?_) (v := ?_) (by rfl) rfl ?_ ?_
               rotate_left 2
               ·go_simp
                constructor
                ·rfl
                ·rfl
               refine hK.out _ _ ?_
               clear hK K
               refine norm_ (a' := ?_) ?_ ?_
               rotate_left
               ·show Act.put _ (some 74) _ = _
                simp only [Act.put, List.setIfInBounds_toArray, List.set_cons_zero, List.set_cons_succ, i64_w, i32_w]
                rfl
               refine last_ (i := 11) (N := some 75) (bz 13 4095) rfl rfl (one_of HT_.out (by kernel_rfl)) (by decide) (fun K hK => ?_)
               refine Kd.R_append_step k50 (w0 := w) w.heap.size (by rfl) (.tmp 64) (.tmp 74) 28 50 (.agg #[(.int .i64 0), (.int .i64 0)]) 16 rfl Try.underlying28 info50 rfl (by decide) (by omega) u8 x8_2 (⟨(rd_T47 x7_2 x9_3).f1, (rd_T47 x7_2 x9_3).f0⟩ : S50) [.int .i64 ((rd_T47 x7_2 x9_3).f1), .int .i64 ((rd_T47 x7_2 x9_3).f0)] (fun _ => True) (fun _ => False) rfl rfl ?aP (fun _ hk => hk.elim) ?aF ?aO ?aB ?aS ?aL ?_
               (case aP => exact k50_mkM _ _ _ (⟨(rd_T47 x7_2 x9_3).f1, (rd_T47 x7_2 x9_3).f0⟩ : S50))
               (case aB => exact (lV2 GE283 GE284))
               (case aF => exact (fun _ _ => trivial))
               (case aO => exact (rU HO_8.out))
               (case aS => exact (below_size (lV2 GE283 GE284)))
               (case aL => have := LMc64.out; omega)
               intro v299 w89 ho hb hg hat
               rw [← Ny298.out] at ho
               replace HO_7 := Aside0.mk (Kd.R_over' (rU HO_7.out) (Kd.R_typed (rU HO_8.out)) (by decide) hg)
               replace HO_28 := Aside0.mk (Kd.R_over' (rU HO_28.out) (Kd.R_typed (rU HO_8.out)) (by decide) hg)
               replace BK283 := Aside0.mk (blk_grown (g := gb283) (o := .cells #[.int .i64 a0_0, .slice A0_1 l0_1.length c0_1] 25 (0, 0)) (bV BK283) hg (Kd.R_ne HO_8.out BK283.out (by decide)))
               replace BK284 := Aside0.mk (blk_grown (g := gb284) (o := .cells #[.int .i64 x285000_2, .slice none 0 0] 25 (0, 0)) (bV BK284) hg (Kd.R_ne HO_8.out BK284.out (by decide)))
               replace HB := Aside0.mk hb
               have HO300 := Aside0.mk ho
               clear HO_8
               clear ho hb hg hat
               refine hK.out _ _ ?_
               clear hK K
               refine norm_ (a' := ?_) ?_ ?_
               rotate_left
               ·show Act.put _ (some 75) _ = _
                simp only [Act.put, List.setIfInBounds_toArray, List.set_cons_zero, List.set_cons_succ, i64_w, i32_w]
                rfl
               refine pureA 12 8 (bz 13 8191) rfl rfl (any_of HT_.out (by kernel_rfl)) ?_
               refine done_ (done_of HT_.out (by kernel_rfl)) ?_
               obtain ⟨Ao90, co90, eo90⟩ := Kd.R_slice HO300.out
               subst eo90
               have p301 : 0 ≤ (x9_3 : Int) := of_decide_eq_true hE
               have q301 : x9_3 < (x7_2.length : Int) := of_decide_eq_true hE
               obtain ⟨ad301, e301, hx301_0, hx301_1, hx301_2, hx301_3⟩ := at_T47 (Kd.R_reads' HO_7.out).2.2 x9_3 p301 q301
               obtain rfl : (⟨go63, 0, none⟩ : Addr) = ad301 := (by injection e301)
               (first | simp only [add_plain] at hx301_0 | simp only [add_at] at hx301_0 | simp only [Addr.add, Nat.zero_add] at hx301_0 | skip)
               (first | simp only [add_plain] at hx301_1 | simp only [add_at] at hx301_1 | simp only [Addr.add, Nat.zero_add] at hx301_1 | skip)
               (first | simp only [add_plain] at hx301_2 | simp only [add_at] at hx301_2 | simp only [Addr.add, Nat.zero_add] at hx301_2 | skip)
               (first | simp only [add_plain] at hx301_3 | simp only [add_at] at hx301_3 | simp only [Addr.add, Nat.zero_add] at hx301_3 | skip)
               replace p301 := eq_true p301
               replace q301 := eq_true q301
               try go_wp2_with (first | ((with_reducible refine gate_callee (f := 16) rfl ?_); refine goesL_ (some 114) rfl rfl Try.func16 (by kernel_rfl) rfl #[.slice (some ⟨go63, 0, none⟩) x7_2.length co25, .int .i64 x9_3, .int .i64 (wrap64 (x9_3 + 1))] rfl aE ?_; (with_reducible refine (impl_Timer_16.calls (fun k_ => some k_ = (.slice (some ⟨go63, 0, none⟩) x7_2.length co25 : Value).ownBlock) (.slice (some ⟨go63, 0, none⟩) x7_2.length co25) x7_2 x9_3 (wrap64 (x9_3 + 1)) t311 w _ ?side1 ?side2 A87.out).mono ?_); (case side1 => repeat (first | (with_reducible first | exact HB.out | apply below_alloc | apply pw_below_drewN | apply below_drew1 | refine below_set ?_ GE283.out | refine below_set ?_ GE284.out) | exact HB.out)); (case side2 => exact Kd.R_tight rfl HO_7.out); rintro e w91 ⟨v312, rfl, ho0, hb, hkp⟩; refine ⟨_, rfl, ?_⟩; replace BK283 := Aside0.mk (blk_kept (bV BK283) hkp (fun hs_ => (fun e_ => (Kd.R_ne HO_7.out BK283.out (by decide)) e_) hs_)); replace BK284 := Aside0.mk (blk_kept (bV BK284) hkp (fun hs_ => (fun e_ => (Kd.R_ne HO_7.out BK284.out (by decide)) e_) hs_)); replace HO300 := Aside0.mk (Kd.R_mono (ok' := fun k_ => True) (Kd.R_keptB ((Kd.R_apart' HO300.out (Kd.R_typed HO_7.out) (by decide))) hkp (fun k_ hk_ hs_ => (hk_.2) hs_)) (fun k_ hk_ => trivial)); have HO313 := Aside0.mk (Kd.R_mono (ok' := fun k_ => True) ho0 (fun k_ hk_ => trivial)); replace HB := Aside0.mk hb; clear HO_7; (try clear hb); (try clear hkp); (try clear hg_); (try clear hp_); (try clear ho0)))
               go_roundg k3
               case measure => have := HJ2.out; have := HK2.out; have := HK3.out; omega
               case rel => exact ⟨(t311), (y298), (x285000_2), H', ⟨by have := HJ2.out; have := HK2.out; have := HK3.out; omega⟩, ⟨by (with_reducible repeat (first | apply Kd.R_alloc | apply Kd.R_drewN | apply Kd.R_drew)); exact HO313.out⟩, ⟨by (with_reducible repeat (first | apply Kd.R_alloc | apply Kd.R_drewN | apply Kd.R_drew)); exact HO300.out⟩, ⟨by refine bU ?_; exact BK283.out⟩, ⟨by refine bU ?_; exact BK284.out⟩, ⟨by repeat (first | (with_reducible first | exact HB.out | apply below_alloc | apply pw_below_drewN | apply below_drew1 | refine below_set ?_ GE283.out | refine below_set ?_ GE284.out) | exact HB.out)⟩⟩
            ·rw [if_neg c64] at H
             exact absurd H (by simp)
           ·rw [if_neg c62] at H
            exact absurd H (by simp)
          ·rw [if_neg c61] at H
           exact absurd H (by simp)
end Go.Proofs.Ythacmchmppnldaa.PFnPieces
