/- Texts of a row. -/
import Derived.Test.YtdgaphefgpjbfaaZFnExactMigrateSave3
import Derived.Test.YtdgaphefgpjbfaaZFnExactMigrateSave6
import Derived.Test.YtdgaphefgpjbfaaZFnExactMigrateSave4
import Derived.Test.YtdgaphefgpjbfaaZFnExactMigrateSave5
import Derived.Test.YtdgaphefgpjbfaaZFnExactMigrateSave0
import Derived.SizedLaws
import Derived.ChangeArms
import Derived.OpenShut
import Derived.WideShapes
import Derived.WalkKit
import Derived.KernelRfl
import Derived.Laws.BitsLemmas
namespace Go.Proofs.Ytdgaphefgpjbfaa.PFnExactMigrateSave
open Go.RowKit Go.Proofs.YtdgaphefgpjbfaaW.PrintWords Go.Proofs.YtdgaphefgpjbfaaW.PrintLast Go.Proofs.YtdgaphefgpjbfaaW.PrintMore
attribute [local go_sem] max2_int min2_int max_two min_two max_three min_three max_four min_four   -- for this text's walks alone
set_option linter.unusedVariables false
set_option linter.unusedSimpArgs false
def laws_heldValueS.l0 : Nat → List (S59) → Int → Int → Option (Int)
 | 0, _, _, _ => none
 | k + 1, x0, x1, x5 => if x5 < (x0.length : Int) then (if 0 ≤ x5 then ((laws_markText.f k x1).bind fun t345 => (if ((rd_T59 x0 x5).f0).toList = t345.toList then (if ((rd_T59 x0 x5).f1) = (wrap64 (x1 + 1)) then ((laws_markText.f k (wrap64 ((wrap64 (x1 + 1)) + 1))).bind fun t348 => (if ((rd_T59 x0 x5).f2).toList = t348.toList then (laws_heldValueS.l0 k x0 (wrap64 ((wrap64 ((wrap64 (x1 + 1)) + 1)) + 1)) (wrap64 (x5 + 1))) else (some (-1)))) else (some (-1))) else (some (-1)))) else (none)) else (some x1)
def laws_heldValueS.f (k : Nat) (l0 : List (S59)) (a1 : Int) : Option (Int) := laws_heldValueS.l0 k l0 a1 0
theorem laws_heldValueS.mono_l : ∀ k, (∀ y0 y1 y2, LeO (laws_heldValueS.l0 k y0 y1 y2) (laws_heldValueS.l0 (k + 1) y0 y1 y2))
 | 0 => fun _ _ _ r h => by simp [laws_heldValueS.l0] at h
 | k + 1 => by
  have ih0 := laws_heldValueS.mono_l k
  ·intro y0 y1 y2
   unfold laws_heldValueS.l0
   repeat' first
   | (with_reducible exact ih0 _ _ _)
   | (with_reducible exact laws_markText.mono _ _)
   | (with_reducible first | exact LeO.refl _ | exact LeO.none _ | refine LeO.ite ?_ ?_ | refine LeO.bind ?_ (fun _ => ?_))
   | exact ih0 _ _ _
   | exact laws_markText.mono _ _ | exact LeO.none _ | refine LeO.ite ?_ ?_ | refine LeO.bind ?_ (fun _ => ?_)
theorem laws_heldValueS.mono : ∀ a0 a1 k, LeO (laws_heldValueS.f k a0 a1) (laws_heldValueS.f (k + 1) a0 a1) := by
 intro a0 a1 k
 have ih0 := laws_heldValueS.mono_l k
 unfold laws_heldValueS.f
 repeat' first
   | (with_reducible exact ih0 _ _ _)
   | (with_reducible exact laws_markText.mono _ _)
   | (with_reducible first | exact LeO.refl _ | exact LeO.none _ | refine LeO.ite ?_ ?_ | refine LeO.bind ?_ (fun _ => ?_))
   | exact ih0 _ _ _
   | exact laws_markText.mono _ _ | exact LeO.none _ | refine LeO.ite ?_ ?_ | refine LeO.bind ?_ (fun _ => ?_)
def laws_heldValueS.T4 : Bool × List (List Nat × List Nat) := (true, [([], []), ([], []), ([0, 1], [0, 1]), ([2], [2]), ([3], [3]), ([], []), ([5], [5]), ([4, 6], [4, 6])])
def laws_heldValueS.B4 : List Nat := [0, 0, 3, 7, 15, 0, 32, 127]
theorem laws_heldValueS.tab4 : rtab .any (opsOf Try.f16 4) = laws_heldValueS.T4 := by kernel_rfl
theorem laws_heldValueS.bits4 : waitsOk laws_heldValueS.T4.2 laws_heldValueS.B4 = true := by kernel_rfl
def laws_heldValueS.T10 : Bool × List (List Nat × List Nat) := (true, [([], []), ([], []), ([0, 1], [0, 1]), ([2], [2]), ([3], [3]), ([], []), ([5], [5]), ([4, 6], [4, 6])])
def laws_heldValueS.B10 : List Nat := [0, 0, 3, 7, 15, 0, 32, 127]
theorem laws_heldValueS.tab10 : rtab .any (opsOf Try.f16 10) = laws_heldValueS.T10 := by kernel_rfl
theorem laws_heldValueS.bits10 : waitsOk laws_heldValueS.T10.2 laws_heldValueS.B10 = true := by kernel_rfl
set_option maxHeartbeats 8000000 in
set_option maxRecDepth 100000 in
theorem laws_heldValueS.calls (k : Nat) (A0 : Option Addr) (c0 : Nat) (l0 : List (S59)) (a1 : Int) (r : Int) (w : World) (hr0 : Kd.C k59 w A0 l0.length l0) (hc0 : l0.length ≤ c0) (h : laws_heldValueS.f k l0 a1 = some r) :
  Calls Try.prog 16 #[.slice A0 l0.length c0, .int .i64 a1] w fun e w' => e = .returned (.int .i64 r) ∧ Below w.heap.size w w' := by
 have HR0 := Aside0.mk hr0
 have HC0 := Aside0.mk hc0
 clear hr0 hc0
 have HB := Aside0.mk (Below.refl w.heap.size w)
 have H : (laws_heldValueS.l0 k l0 a1 0) = some r := h
 clear h
 have H' := Aside0.mk H
 clear H
 go_enter Try.func16, Try.ntmps16
 go_wp2
 go_loopg [1, 5] k (fun kq v1 v5 w' => ∃ (x1_1 : Int) (x5_1 : Int), v1 = .int .i64 x1_1 ∧ v5 = .int .i64 x5_1 ∧ Aside0 (laws_heldValueS.l0 kq l0 x1_1 x5_1 = some r) ∧ Aside0 (kq ≤ k) ∧ Aside0 (Below w.heap.size w w'))
 case atStart => exact ⟨(a1), (0), tE, tE, H', ⟨Nat.le_refl _⟩, ⟨by repeat (first | (with_reducible first | exact HB.out | apply below_alloc | apply pw_below_drewN | apply below_drew1) | exact HB.out)⟩⟩
 case round =>
  clear H'
  try clear c1
  try clear p2
  obtain ⟨x1_1, x5_1, rfl, rfl, HA, HK1, HB⟩ := hrel
  cases gk with
  | zero => exact absurd HA.out (by simp [laws_heldValueS.l0])
  | succ k1 =>
   have H := HA.out
   clear HA
   simp only [laws_heldValueS.l0] at H
   by_cases c3 : x5_1 < (l0.length : Int)
   ·rw [if_pos c3] at H
    have c3b0 : decide (x5_1 < (l0.length : Int)) = true := decide_eq_true c3
    clear c3
    by_cases c4 : 0 ≤ x5_1
    ·rw [if_pos c4] at H
     have c4b0 : decide (0 ≤ x5_1) = true := decide_eq_true c4
     clear c4
     replace H := Option.bind_eq_some_iff.mp H
     obtain ⟨t345, A50, H⟩ := H
     replace H : (if ((rd_T59 l0 x5_1).f0).toList = t345.toList then (if ((rd_T59 l0 x5_1).f1) = (wrap64 (x1_1 + 1)) then ((laws_markText.f k1 (wrap64 ((wrap64 (x1_1 + 1)) + 1))).bind fun t348 => (if ((rd_T59 l0 x5_1).f2).toList = t348.toList then (laws_heldValueS.l0 k1 l0 (wrap64 ((wrap64 ((wrap64 (x1_1 + 1)) + 1)) + 1)) (wrap64 (x5_1 + 1))) else (some (-1)))) else (some (-1))) else (some (-1))) = some r := H
     have A5 := Aside0.mk A50
     clear A50
     by_cases c6 : ((rd_T59 l0 x5_1).f0).toList = t345.toList
     ·rw [if_pos c6] at H
      have c6b0 : (((rd_T59 l0 x5_1).f0).toList == t345.toList) = true := beq_iff_eq.mpr c6
      have c6b1 : (((rd_T59 l0 x5_1).f0).toList != t345.toList) = false := bne_eq_false_iff_eq.mpr c6
      clear c6
      by_cases c7 : ((rd_T59 l0 x5_1).f1) = (wrap64 (x1_1 + 1))
      ·rw [if_pos c7] at H
       have c7b0 : (((rd_T59 l0 x5_1).f1) == (wrap64 (x1_1 + 1))) = true := beq_iff_eq.mpr c7
       have c7b1 : (((rd_T59 l0 x5_1).f1) != (wrap64 (x1_1 + 1))) = false := bne_eq_false_iff_eq.mpr c7
       clear c7
       replace H := Option.bind_eq_some_iff.mp H
       obtain ⟨t348, A80, H⟩ := H
       replace H : (if ((rd_T59 l0 x5_1).f2).toList = t348.toList then (laws_heldValueS.l0 k1 l0 (wrap64 ((wrap64 ((wrap64 (x1_1 + 1)) + 1)) + 1)) (wrap64 (x5_1 + 1))) else (some (-1))) = some r := H
       have A8 := Aside0.mk A80
       clear A80
       by_cases c9 : ((rd_T59 l0 x5_1).f2).toList = t348.toList
       ·rw [if_pos c9] at H
        have c9b0 : (((rd_T59 l0 x5_1).f2).toList == t348.toList) = true := beq_iff_eq.mpr c9
        have c9b1 : (((rd_T59 l0 x5_1).f2).toList != t348.toList) = false := bne_eq_false_iff_eq.mpr c9
        clear c9
        have H' := Aside0.mk H
        clear H
        try go_wp2
        replace HB := Aside0.mk (below_drew1 HB.out)
        have p344 : 0 ≤ (x5_1 : Int) := of_decide_eq_true hE
        have q344 : x5_1 < (l0.length : Int) := of_decide_eq_true hE
        obtain ⟨ad344, e344, hx344_0, hx344_1, hx344_2⟩ := at_T59 HR0.out x5_1 p344 q344
        have hw344_2 := hx344_2
        have hw344_1 := hx344_1
        have hw344_0 := hx344_0
        cases e344
        replace hx344_0 := (HB.out.cell (World.block_lt_of_cell? w _ hx344_0)).trans hx344_0
        replace hx344_1 := (HB.out.cell (World.block_lt_of_cell? w _ hx344_1)).trans hx344_1
        replace hx344_2 := (HB.out.cell (World.block_lt_of_cell? w _ hx344_2)).trans hx344_2
        replace p344 := eq_true p344
        replace q344 := eq_true q344
        refine start_ (n := 8) (S := fun w' => w'.cell? (ad344.add ((x5_1).toNat * 3)) = some (.string ((rd_T59 l0 x5_1).f0)) ∧ w'.cell? ⟨(ad344.add ((x5_1).toNat * 3)).block, (ad344.add ((x5_1).toNat * 3)).off + 1, none⟩ = some (.int .i64 ((rd_T59 l0 x5_1).f1)) ∧ w'.cell? ⟨(ad344.add ((x5_1).toNat * 3)).block, (ad344.add ((x5_1).toNat * 3)).off + 2, none⟩ = some (.string ((rd_T59 l0 x5_1).f2))) (ds := []) #[false, false, false, false, false, false, false, false] (by kernel_rfl) rfl rfl ⟨((HB.out.cell (World.block_lt_of_cell? w _ hw344_0)).trans hw344_0), ((HB.out.cell (World.block_lt_of_cell? w _ hw344_1)).trans hw344_1), ((HB.out.cell (World.block_lt_of_cell? w _ hw344_2)).trans hw344_2)⟩ (fun hHeld => ?_); refine with_tabW laws_heldValueS.tab4 laws_heldValueS.bits4 (fun HT_ HW_ => ?_)
        generalize wr.drew = w10 at HB hx344_0 hx344_1 hx344_2 hHeld ⊢
        refine pureA 0 12 (bz 8 1) rfl rfl (any_of HT_.out (by kernel_rfl)) ?_
        refine pureA 1 13 (bz 8 3) rfl rfl (any_of HT_.out (by kernel_rfl)) ?_
        refine pureA 2 14 (bz 8 7) rfl rfl (any_of HT_.out (by kernel_rfl)) ?_
        refine pureA 3 15 (bz 8 15) rfl rfl (any_of HT_.out (by kernel_rfl)) ?_
        refine pureA 5 17 (bz 8 47) rfl rfl (any_of HT_.out (by kernel_rfl)) ?_
        refine takeA 4 16 (bz 8 63) rfl rfl (take_ofW HT_.out HW_.out (by kernel_rfl)) hHeld (by rintro w' ⟨s0, s1, s2⟩; go_simp; with_reducible rfl) ?_
        refine one_ (i := 6) (N := some 18) (bz 8 127) rfl rfl (one_of HT_.out (by kernel_rfl)) (by decide) (fun K hK => ?_)
        refine goes_ Try.func42 (by kernel_rfl) rfl #[.int .i64 x1_1] (by rfl) rfl rfl aE ?_
        with_reducible refine (laws_markText.calls k1 x1_1 t345 _ A5.out).mono ?_
        rintro e w11 ⟨rfl, hb⟩
        refine ⟨_, rfl, ?_⟩
        replace HB := bH (lU) hb
        (try clear hb)
        (try clear hb2)
        (try clear hk)
        (try clear hi)
        refine hK.out _ _ ⟨((HB.out.cell (World.block_lt_of_cell? w _ hw344_0)).trans hw344_0), ((HB.out.cell (World.block_lt_of_cell? w _ hw344_1)).trans hw344_1), ((HB.out.cell (World.block_lt_of_cell? w _ hw344_2)).trans hw344_2)⟩ (fun hHeld => ?_)
        clear hK K
        refine norm_ (a' := ?_) ?_ ?_
        rotate_left
        ·show Act.put _ (some 18) _ = _
         simp only [Act.put, List.setIfInBounds_toArray, List.set_cons_zero, List.set_cons_succ, i64_w, i32_w]
         rfl
        refine pureA 7 19 (bz 8 255) rfl rfl (any_of HT_.out (by kernel_rfl)) ?_
        refine done_ (done_of HT_.out (by kernel_rfl)) ?_
        have p346 : 0 ≤ (x5_1 : Int) := of_decide_eq_true hE
        have q346 : x5_1 < (l0.length : Int) := of_decide_eq_true hE
        obtain ⟨ad346, e346, hx346_0, hx346_1, hx346_2⟩ := at_T59 HR0.out x5_1 p346 q346
        obtain rfl : ad344 = ad346 := (by injection e346)
        replace hx346_0 := (HB.out.cell (World.block_lt_of_cell? w _ hx346_0)).trans hx346_0
        replace hx346_1 := (HB.out.cell (World.block_lt_of_cell? w _ hx346_1)).trans hx346_1
        replace hx346_2 := (HB.out.cell (World.block_lt_of_cell? w _ hx346_2)).trans hx346_2
        replace p346 := eq_true p346
        replace q346 := eq_true q346
        try go_wp2
        replace HB := Aside0.mk (below_drew1 HB.out)
        have p347 : 0 ≤ (x5_1 : Int) := of_decide_eq_true hE
        have q347 : x5_1 < (l0.length : Int) := of_decide_eq_true hE
        obtain ⟨ad347, e347, hx347_0, hx347_1, hx347_2⟩ := at_T59 HR0.out x5_1 p347 q347
        have hw347_2 := hx347_2
        have hw347_1 := hx347_1
        have hw347_0 := hx347_0
        obtain rfl : ad344 = ad347 := (by injection e347)
        replace hx347_0 := (HB.out.cell (World.block_lt_of_cell? w _ hx347_0)).trans hx347_0
        replace hx347_1 := (HB.out.cell (World.block_lt_of_cell? w _ hx347_1)).trans hx347_1
        replace hx347_2 := (HB.out.cell (World.block_lt_of_cell? w _ hx347_2)).trans hx347_2
        replace p347 := eq_true p347
        replace q347 := eq_true q347
        refine start_ (n := 8) (S := fun w' => w'.cell? (ad344.add ((x5_1).toNat * 3)) = some (.string ((rd_T59 l0 x5_1).f0)) ∧ w'.cell? ⟨(ad344.add ((x5_1).toNat * 3)).block, (ad344.add ((x5_1).toNat * 3)).off + 1, none⟩ = some (.int .i64 ((rd_T59 l0 x5_1).f1)) ∧ w'.cell? ⟨(ad344.add ((x5_1).toNat * 3)).block, (ad344.add ((x5_1).toNat * 3)).off + 2, none⟩ = some (.string ((rd_T59 l0 x5_1).f2))) (ds := []) #[false, false, false, false, false, false, false, false] (by kernel_rfl) rfl rfl ⟨((HB.out.cell (World.block_lt_of_cell? w _ hw347_0)).trans hw347_0), ((HB.out.cell (World.block_lt_of_cell? w _ hw347_1)).trans hw347_1), ((HB.out.cell (World.block_lt_of_cell? w _ hw347_2)).trans hw347_2)⟩ (fun hHeld => ?_); refine with_tabW laws_heldValueS.tab10 laws_heldValueS.bits10 (fun HT_ HW_ => ?_)
        generalize w11.drew = w12 at HB hx347_0 hx347_1 hx347_2 hHeld ⊢
        refine pureA 0 31 (bz 8 1) rfl rfl (any_of HT_.out (by kernel_rfl)) ?_
        refine pureA 1 32 (bz 8 3) rfl rfl (any_of HT_.out (by kernel_rfl)) ?_
        refine pureA 2 33 (bz 8 7) rfl rfl (any_of HT_.out (by kernel_rfl)) ?_
        refine pureA 3 34 (bz 8 15) rfl rfl (any_of HT_.out (by kernel_rfl)) ?_
        refine pureA 5 36 (bz 8 47) rfl rfl (any_of HT_.out (by kernel_rfl)) ?_
        refine takeA 4 35 (bz 8 63) rfl rfl (take_ofW HT_.out HW_.out (by kernel_rfl)) hHeld (by rintro w' ⟨s0, s1, s2⟩; go_simp; with_reducible rfl) ?_
        refine one_ (i := 6) (N := some 37) (bz 8 127) rfl rfl (one_of HT_.out (by kernel_rfl)) (by decide) (fun K hK => ?_)
        refine goes_ Try.func42 (by kernel_rfl) rfl #[.int .i64 (wrap64 ((wrap64 (x1_1 + 1)) + 1))] (by rfl) rfl rfl aE ?_
        with_reducible refine (laws_markText.calls k1 (wrap64 ((wrap64 (x1_1 + 1)) + 1)) t348 _ A8.out).mono ?_
        rintro e w13 ⟨rfl, hb⟩
        refine ⟨_, rfl, ?_⟩
        replace HB := bH (lU) hb
        (try clear hb)
        (try clear hb2)
        (try clear hk)
        (try clear hi)
        refine hK.out _ _ ⟨((HB.out.cell (World.block_lt_of_cell? w _ hw347_0)).trans hw347_0), ((HB.out.cell (World.block_lt_of_cell? w _ hw347_1)).trans hw347_1), ((HB.out.cell (World.block_lt_of_cell? w _ hw347_2)).trans hw347_2)⟩ (fun hHeld => ?_)
        clear hK K
        refine norm_ (a' := ?_) ?_ ?_
        rotate_left
        ·show Act.put _ (some 37) _ = _
         simp only [Act.put, List.setIfInBounds_toArray, List.set_cons_zero, List.set_cons_succ, i64_w, i32_w]
         rfl
        refine pureA 7 38 (bz 8 255) rfl rfl (any_of HT_.out (by kernel_rfl)) ?_
        refine done_ (done_of HT_.out (by kernel_rfl)) ?_
        try go_wp2
        go_roundg k1
        case measure => have := HK1.out; omega
        case rel => exact ⟨(wrap64 ((wrap64 ((wrap64 (x1_1 + 1)) + 1)) + 1)), (wrap64 (x5_1 + 1)), tE, tE, H', ⟨by have := HK1.out; omega⟩, ⟨by repeat (first | (with_reducible first | exact HB.out | apply below_alloc | apply pw_below_drewN | apply below_drew1) | exact HB.out)⟩⟩
       ·rw [if_neg c9] at H
        have c9b0 : (((rd_T59 l0 x5_1).f2).toList == t348.toList) = false := beq_eq_false_iff_ne.mpr c9
        have c9b1 : (((rd_T59 l0 x5_1).f2).toList != t348.toList) = true := bne_iff_ne.mpr c9
        obtain rfl := Option.some.inj H
        try go_wp2
        replace HB := Aside0.mk (below_drew1 HB.out)
        have p344 : 0 ≤ (x5_1 : Int) := of_decide_eq_true hE
        have q344 : x5_1 < (l0.length : Int) := of_decide_eq_true hE
        obtain ⟨ad344, e344, hx344_0, hx344_1, hx344_2⟩ := at_T59 HR0.out x5_1 p344 q344
        have hw344_2 := hx344_2
        have hw344_1 := hx344_1
        have hw344_0 := hx344_0
        cases e344
        replace hx344_0 := (HB.out.cell (World.block_lt_of_cell? w _ hx344_0)).trans hx344_0
        replace hx344_1 := (HB.out.cell (World.block_lt_of_cell? w _ hx344_1)).trans hx344_1
        replace hx344_2 := (HB.out.cell (World.block_lt_of_cell? w _ hx344_2)).trans hx344_2
        replace p344 := eq_true p344
        replace q344 := eq_true q344
        refine start_ (n := 8) (S := fun w' => w'.cell? (ad344.add ((x5_1).toNat * 3)) = some (.string ((rd_T59 l0 x5_1).f0)) ∧ w'.cell? ⟨(ad344.add ((x5_1).toNat * 3)).block, (ad344.add ((x5_1).toNat * 3)).off + 1, none⟩ = some (.int .i64 ((rd_T59 l0 x5_1).f1)) ∧ w'.cell? ⟨(ad344.add ((x5_1).toNat * 3)).block, (ad344.add ((x5_1).toNat * 3)).off + 2, none⟩ = some (.string ((rd_T59 l0 x5_1).f2))) (ds := []) #[false, false, false, false, false, false, false, false] (by kernel_rfl) rfl rfl ⟨((HB.out.cell (World.block_lt_of_cell? w _ hw344_0)).trans hw344_0), ((HB.out.cell (World.block_lt_of_cell? w _ hw344_1)).trans hw344_1), ((HB.out.cell (World.block_lt_of_cell? w _ hw344_2)).trans hw344_2)⟩ (fun hHeld => ?_); refine with_tabW laws_heldValueS.tab4 laws_heldValueS.bits4 (fun HT_ HW_ => ?_)
        generalize wr.drew = w14 at HB hx344_0 hx344_1 hx344_2 hHeld ⊢
        refine pureA 0 12 (bz 8 1) rfl rfl (any_of HT_.out (by kernel_rfl)) ?_
        refine pureA 1 13 (bz 8 3) rfl rfl (any_of HT_.out (by kernel_rfl)) ?_
        refine pureA 2 14 (bz 8 7) rfl rfl (any_of HT_.out (by kernel_rfl)) ?_
        refine pureA 3 15 (bz 8 15) rfl rfl (any_of HT_.out (by kernel_rfl)) ?_
        refine pureA 5 17 (bz 8 47) rfl rfl (any_of HT_.out (by kernel_rfl)) ?_
        refine takeA 4 16 (bz 8 63) rfl rfl (take_ofW HT_.out HW_.out (by kernel_rfl)) hHeld (by rintro w' ⟨s0, s1, s2⟩; go_simp; with_reducible rfl) ?_
        refine one_ (i := 6) (N := some 18) (bz 8 127) rfl rfl (one_of HT_.out (by kernel_rfl)) (by decide) (fun K hK => ?_)
        refine goes_ Try.func42 (by kernel_rfl) rfl #[.int .i64 x1_1] (by rfl) rfl rfl aE ?_
        with_reducible refine (laws_markText.calls k1 x1_1 t345 _ A5.out).mono ?_
        rintro e w15 ⟨rfl, hb⟩
        refine ⟨_, rfl, ?_⟩
        replace HB := bH (lU) hb
        (try clear hb)
        (try clear hb2)
        (try clear hk)
        (try clear hi)
        refine hK.out _ _ ⟨((HB.out.cell (World.block_lt_of_cell? w _ hw344_0)).trans hw344_0), ((HB.out.cell (World.block_lt_of_cell? w _ hw344_1)).trans hw344_1), ((HB.out.cell (World.block_lt_of_cell? w _ hw344_2)).trans hw344_2)⟩ (fun hHeld => ?_)
        clear hK K
        refine norm_ (a' := ?_) ?_ ?_
        rotate_left
        ·show Act.put _ (some 18) _ = _
         simp only [Act.put, List.setIfInBounds_toArray, List.set_cons_zero, List.set_cons_succ, i64_w, i32_w]
         rfl
        refine pureA 7 19 (bz 8 255) rfl rfl (any_of HT_.out (by kernel_rfl)) ?_
        refine done_ (done_of HT_.out (by kernel_rfl)) ?_
        have p346 : 0 ≤ (x5_1 : Int) := of_decide_eq_true hE
        have q346 : x5_1 < (l0.length : Int) := of_decide_eq_true hE
        obtain ⟨ad346, e346, hx346_0, hx346_1, hx346_2⟩ := at_T59 HR0.out x5_1 p346 q346
        obtain rfl : ad344 = ad346 := (by injection e346)
        replace hx346_0 := (HB.out.cell (World.block_lt_of_cell? w _ hx346_0)).trans hx346_0
        replace hx346_1 := (HB.out.cell (World.block_lt_of_cell? w _ hx346_1)).trans hx346_1
        replace hx346_2 := (HB.out.cell (World.block_lt_of_cell? w _ hx346_2)).trans hx346_2
        replace p346 := eq_true p346
        replace q346 := eq_true q346
        try go_wp2
        replace HB := Aside0.mk (below_drew1 HB.out)
        have p347 : 0 ≤ (x5_1 : Int) := of_decide_eq_true hE
        have q347 : x5_1 < (l0.length : Int) := of_decide_eq_true hE
        obtain ⟨ad347, e347, hx347_0, hx347_1, hx347_2⟩ := at_T59 HR0.out x5_1 p347 q347
        have hw347_2 := hx347_2
        have hw347_1 := hx347_1
        have hw347_0 := hx347_0
        obtain rfl : ad344 = ad347 := (by injection e347)
        replace hx347_0 := (HB.out.cell (World.block_lt_of_cell? w _ hx347_0)).trans hx347_0
        replace hx347_1 := (HB.out.cell (World.block_lt_of_cell? w _ hx347_1)).trans hx347_1
        replace hx347_2 := (HB.out.cell (World.block_lt_of_cell? w _ hx347_2)).trans hx347_2
        replace p347 := eq_true p347
        replace q347 := eq_true q347
        refine start_ (n := 8) (S := fun w' => w'.cell? (ad344.add ((x5_1).toNat * 3)) = some (.string ((rd_T59 l0 x5_1).f0)) ∧ w'.cell? ⟨(ad344.add ((x5_1).toNat * 3)).block, (ad344.add ((x5_1).toNat * 3)).off + 1, none⟩ = some (.int .i64 ((rd_T59 l0 x5_1).f1)) ∧ w'.cell? ⟨(ad344.add ((x5_1).toNat * 3)).block, (ad344.add ((x5_1).toNat * 3)).off + 2, none⟩ = some (.string ((rd_T59 l0 x5_1).f2))) (ds := []) #[false, false, false, false, false, false, false, false] (by kernel_rfl) rfl rfl ⟨((HB.out.cell (World.block_lt_of_cell? w _ hw347_0)).trans hw347_0), ((HB.out.cell (World.block_lt_of_cell? w _ hw347_1)).trans hw347_1), ((HB.out.cell (World.block_lt_of_cell? w _ hw347_2)).trans hw347_2)⟩ (fun hHeld => ?_); refine with_tabW laws_heldValueS.tab10 laws_heldValueS.bits10 (fun HT_ HW_ => ?_)
        generalize w15.drew = w16 at HB hx347_0 hx347_1 hx347_2 hHeld ⊢
        refine pureA 0 31 (bz 8 1) rfl rfl (any_of HT_.out (by kernel_rfl)) ?_
        refine pureA 1 32 (bz 8 3) rfl rfl (any_of HT_.out (by kernel_rfl)) ?_
        refine pureA 2 33 (bz 8 7) rfl rfl (any_of HT_.out (by kernel_rfl)) ?_
        refine pureA 3 34 (bz 8 15) rfl rfl (any_of HT_.out (by kernel_rfl)) ?_
        refine pureA 5 36 (bz 8 47) rfl rfl (any_of HT_.out (by kernel_rfl)) ?_
        refine takeA 4 35 (bz 8 63) rfl rfl (take_ofW HT_.out HW_.out (by kernel_rfl)) hHeld (by rintro w' ⟨s0, s1, s2⟩; go_simp; with_reducible rfl) ?_
        refine one_ (i := 6) (N := some 37) (bz 8 127) rfl rfl (one_of HT_.out (by kernel_rfl)) (by decide) (fun K hK => ?_)
        refine goes_ Try.func42 (by kernel_rfl) rfl #[.int .i64 (wrap64 ((wrap64 (x1_1 + 1)) + 1))] (by rfl) rfl rfl aE ?_
        with_reducible refine (laws_markText.calls k1 (wrap64 ((wrap64 (x1_1 + 1)) + 1)) t348 _ A8.out).mono ?_
        rintro e w17 ⟨rfl, hb⟩
        refine ⟨_, rfl, ?_⟩
        replace HB := bH (lU) hb
        (try clear hb)
        (try clear hb2)
        (try clear hk)
        (try clear hi)
        refine hK.out _ _ ⟨((HB.out.cell (World.block_lt_of_cell? w _ hw347_0)).trans hw347_0), ((HB.out.cell (World.block_lt_of_cell? w _ hw347_1)).trans hw347_1), ((HB.out.cell (World.block_lt_of_cell? w _ hw347_2)).trans hw347_2)⟩ (fun hHeld => ?_)
        clear hK K
        refine norm_ (a' := ?_) ?_ ?_
        rotate_left
        ·show Act.put _ (some 37) _ = _
         simp only [Act.put, List.setIfInBounds_toArray, List.set_cons_zero, List.set_cons_succ, i64_w, i32_w]
         rfl
        refine pureA 7 38 (bz 8 255) rfl rfl (any_of HT_.out (by kernel_rfl)) ?_
        refine done_ (done_of HT_.out (by kernel_rfl)) ?_
        try go_wp2
        go_ret
        exact ⟨eE, lU⟩
      ·rw [if_neg c7] at H
       have c7b0 : (((rd_T59 l0 x5_1).f1) == (wrap64 (x1_1 + 1))) = false := beq_eq_false_iff_ne.mpr c7
       have c7b1 : (((rd_T59 l0 x5_1).f1) != (wrap64 (x1_1 + 1))) = true := bne_iff_ne.mpr c7
       obtain rfl := Option.some.inj H
       try go_wp2
       replace HB := Aside0.mk (below_drew1 HB.out)
       have p344 : 0 ≤ (x5_1 : Int) := of_decide_eq_true hE
       have q344 : x5_1 < (l0.length : Int) := of_decide_eq_true hE
       obtain ⟨ad344, e344, hx344_0, hx344_1, hx344_2⟩ := at_T59 HR0.out x5_1 p344 q344
       have hw344_2 := hx344_2
       have hw344_1 := hx344_1
       have hw344_0 := hx344_0
       cases e344
       replace hx344_0 := (HB.out.cell (World.block_lt_of_cell? w _ hx344_0)).trans hx344_0
       replace hx344_1 := (HB.out.cell (World.block_lt_of_cell? w _ hx344_1)).trans hx344_1
       replace hx344_2 := (HB.out.cell (World.block_lt_of_cell? w _ hx344_2)).trans hx344_2
       replace p344 := eq_true p344
       replace q344 := eq_true q344
       refine start_ (n := 8) (S := fun w' => w'.cell? (ad344.add ((x5_1).toNat * 3)) = some (.string ((rd_T59 l0 x5_1).f0)) ∧ w'.cell? ⟨(ad344.add ((x5_1).toNat * 3)).block, (ad344.add ((x5_1).toNat * 3)).off + 1, none⟩ = some (.int .i64 ((rd_T59 l0 x5_1).f1)) ∧ w'.cell? ⟨(ad344.add ((x5_1).toNat * 3)).block, (ad344.add ((x5_1).toNat * 3)).off + 2, none⟩ = some (.string ((rd_T59 l0 x5_1).f2))) (ds := []) #[false, false, false, false, false, false, false, false] (by kernel_rfl) rfl rfl ⟨((HB.out.cell (World.block_lt_of_cell? w _ hw344_0)).trans hw344_0), ((HB.out.cell (World.block_lt_of_cell? w _ hw344_1)).trans hw344_1), ((HB.out.cell (World.block_lt_of_cell? w _ hw344_2)).trans hw344_2)⟩ (fun hHeld => ?_); refine with_tabW laws_heldValueS.tab4 laws_heldValueS.bits4 (fun HT_ HW_ => ?_)
       generalize wr.drew = w18 at HB hx344_0 hx344_1 hx344_2 hHeld ⊢
       refine pureA 0 12 (bz 8 1) rfl rfl (any_of HT_.out (by kernel_rfl)) ?_
       refine pureA 1 13 (bz 8 3) rfl rfl (any_of HT_.out (by kernel_rfl)) ?_
       refine pureA 2 14 (bz 8 7) rfl rfl (any_of HT_.out (by kernel_rfl)) ?_
       refine pureA 3 15 (bz 8 15) rfl rfl (any_of HT_.out (by kernel_rfl)) ?_
       refine pureA 5 17 (bz 8 47) rfl rfl (any_of HT_.out (by kernel_rfl)) ?_
       refine takeA 4 16 (bz 8 63) rfl rfl (take_ofW HT_.out HW_.out (by kernel_rfl)) hHeld (by rintro w' ⟨s0, s1, s2⟩; go_simp; with_reducible rfl) ?_
       refine one_ (i := 6) (N := some 18) (bz 8 127) rfl rfl (one_of HT_.out (by kernel_rfl)) (by decide) (fun K hK => ?_)
       refine goes_ Try.func42 (by kernel_rfl) rfl #[.int .i64 x1_1] (by rfl) rfl rfl aE ?_
       with_reducible refine (laws_markText.calls k1 x1_1 t345 _ A5.out).mono ?_
       rintro e w19 ⟨rfl, hb⟩
       refine ⟨_, rfl, ?_⟩
       replace HB := bH (lU) hb
       (try clear hb)
       (try clear hb2)
       (try clear hk)
       (try clear hi)
       refine hK.out _ _ ⟨((HB.out.cell (World.block_lt_of_cell? w _ hw344_0)).trans hw344_0), ((HB.out.cell (World.block_lt_of_cell? w _ hw344_1)).trans hw344_1), ((HB.out.cell (World.block_lt_of_cell? w _ hw344_2)).trans hw344_2)⟩ (fun hHeld => ?_)
       clear hK K
       refine norm_ (a' := ?_) ?_ ?_
       rotate_left
       ·show Act.put _ (some 18) _ = _
        simp only [Act.put, List.setIfInBounds_toArray, List.set_cons_zero, List.set_cons_succ, i64_w, i32_w]
        rfl
       refine pureA 7 19 (bz 8 255) rfl rfl (any_of HT_.out (by kernel_rfl)) ?_
       refine done_ (done_of HT_.out (by kernel_rfl)) ?_
       have p346 : 0 ≤ (x5_1 : Int) := of_decide_eq_true hE
       have q346 : x5_1 < (l0.length : Int) := of_decide_eq_true hE
       obtain ⟨ad346, e346, hx346_0, hx346_1, hx346_2⟩ := at_T59 HR0.out x5_1 p346 q346
       obtain rfl : ad344 = ad346 := (by injection e346)
       replace hx346_0 := (HB.out.cell (World.block_lt_of_cell? w _ hx346_0)).trans hx346_0
       replace hx346_1 := (HB.out.cell (World.block_lt_of_cell? w _ hx346_1)).trans hx346_1
       replace hx346_2 := (HB.out.cell (World.block_lt_of_cell? w _ hx346_2)).trans hx346_2
       replace p346 := eq_true p346
       replace q346 := eq_true q346
       try go_wp2
       go_ret
       exact ⟨eE, lU⟩
     ·rw [if_neg c6] at H
      have c6b0 : (((rd_T59 l0 x5_1).f0).toList == t345.toList) = false := beq_eq_false_iff_ne.mpr c6
      have c6b1 : (((rd_T59 l0 x5_1).f0).toList != t345.toList) = true := bne_iff_ne.mpr c6
      obtain rfl := Option.some.inj H
      try go_wp2
      replace HB := Aside0.mk (below_drew1 HB.out)
      have p344 : 0 ≤ (x5_1 : Int) := of_decide_eq_true hE
      have q344 : x5_1 < (l0.length : Int) := of_decide_eq_true hE
      obtain ⟨ad344, e344, hx344_0, hx344_1, hx344_2⟩ := at_T59 HR0.out x5_1 p344 q344
      have hw344_2 := hx344_2
      have hw344_1 := hx344_1
      have hw344_0 := hx344_0
      cases e344
      replace hx344_0 := (HB.out.cell (World.block_lt_of_cell? w _ hx344_0)).trans hx344_0
      replace hx344_1 := (HB.out.cell (World.block_lt_of_cell? w _ hx344_1)).trans hx344_1
      replace hx344_2 := (HB.out.cell (World.block_lt_of_cell? w _ hx344_2)).trans hx344_2
      replace p344 := eq_true p344
      replace q344 := eq_true q344
      refine start_ (n := 8) (S := fun w' => w'.cell? (ad344.add ((x5_1).toNat * 3)) = some (.string ((rd_T59 l0 x5_1).f0)) ∧ w'.cell? ⟨(ad344.add ((x5_1).toNat * 3)).block, (ad344.add ((x5_1).toNat * 3)).off + 1, none⟩ = some (.int .i64 ((rd_T59 l0 x5_1).f1)) ∧ w'.cell? ⟨(ad344.add ((x5_1).toNat * 3)).block, (ad344.add ((x5_1).toNat * 3)).off + 2, none⟩ = some (.string ((rd_T59 l0 x5_1).f2))) (ds := []) #[false, false, false, false, false, false, false, false] (by kernel_rfl) rfl rfl ⟨((HB.out.cell (World.block_lt_of_cell? w _ hw344_0)).trans hw344_0), ((HB.out.cell (World.block_lt_of_cell? w _ hw344_1)).trans hw344_1), ((HB.out.cell (World.block_lt_of_cell? w _ hw344_2)).trans hw344_2)⟩ (fun hHeld => ?_); refine with_tabW laws_heldValueS.tab4 laws_heldValueS.bits4 (fun HT_ HW_ => ?_)
      generalize wr.drew = w20 at HB hx344_0 hx344_1 hx344_2 hHeld ⊢
      refine pureA 0 12 (bz 8 1) rfl rfl (any_of HT_.out (by kernel_rfl)) ?_
      refine pureA 1 13 (bz 8 3) rfl rfl (any_of HT_.out (by kernel_rfl)) ?_
      refine pureA 2 14 (bz 8 7) rfl rfl (any_of HT_.out (by kernel_rfl)) ?_
      refine pureA 3 15 (bz 8 15) rfl rfl (any_of HT_.out (by kernel_rfl)) ?_
      refine pureA 5 17 (bz 8 47) rfl rfl (any_of HT_.out (by kernel_rfl)) ?_
      refine takeA 4 16 (bz 8 63) rfl rfl (take_ofW HT_.out HW_.out (by kernel_rfl)) hHeld (by rintro w' ⟨s0, s1, s2⟩; go_simp; with_reducible rfl) ?_
      refine one_ (i := 6) (N := some 18) (bz 8 127) rfl rfl (one_of HT_.out (by kernel_rfl)) (by decide) (fun K hK => ?_)
      refine goes_ Try.func42 (by kernel_rfl) rfl #[.int .i64 x1_1] (by rfl) rfl rfl aE ?_
      with_reducible refine (laws_markText.calls k1 x1_1 t345 _ A5.out).mono ?_
      rintro e w21 ⟨rfl, hb⟩
      refine ⟨_, rfl, ?_⟩
      replace HB := bH (lU) hb
      (try clear hb)
      (try clear hb2)
      (try clear hk)
      (try clear hi)
      refine hK.out _ _ ⟨((HB.out.cell (World.block_lt_of_cell? w _ hw344_0)).trans hw344_0), ((HB.out.cell (World.block_lt_of_cell? w _ hw344_1)).trans hw344_1), ((HB.out.cell (World.block_lt_of_cell? w _ hw344_2)).trans hw344_2)⟩ (fun hHeld => ?_)
      clear hK K
      refine norm_ (a' := ?_) ?_ ?_
      rotate_left
      ·show Act.put _ (some 18) _ = _
       simp only [Act.put, List.setIfInBounds_toArray, List.set_cons_zero, List.set_cons_succ, i64_w, i32_w]
       rfl
      refine pureA 7 19 (bz 8 255) rfl rfl (any_of HT_.out (by kernel_rfl)) ?_
      refine done_ (done_of HT_.out (by kernel_rfl)) ?_
      try go_wp2
      go_ret
      exact ⟨eE, lU⟩
    ·rw [if_neg c4] at H
     exact absurd H (by simp)
   ·rw [if_neg c3] at H
    have c3b0 : decide (x5_1 < (l0.length : Int)) = false := decide_eq_false c3
    clear c3
    obtain rfl := Option.some.inj H
    go_wp2
    go_ret
    exact ⟨eE, lU⟩
end Go.Proofs.Ytdgaphefgpjbfaa.PFnExactMigrateSave
namespace Go.Proofs.Ytdgaphefgpjbfaa.PFnExactMigrateSave
open Go.RowKit Go.Proofs.YtdgaphefgpjbfaaW.PrintWords Go.Proofs.YtdgaphefgpjbfaaW.PrintLast Go.Proofs.YtdgaphefgpjbfaaW.PrintMore
attribute [local go_sem] max2_int min2_int max_two min_two max_three min_three max_four min_four   -- for this text's walks alone
set_option linter.unusedVariables false
set_option linter.unusedSimpArgs false
mutual
def laws_FnExactMigrateSave.j0 : Nat → Int → List (S49) → List (S52) → List (S59) → Bool → List (S59) → List (S56) → List (S59) → Bool → Bool → Option (Bool)
 | 0, _, _, _, _, _, _, _, _, _, _ => none
 | k + 1, x0, x1, x2, x8, x9, x10, x11, x12, x13, x57 => if x57 = true then (some false) else ((laws_toValueS.f k x1).bind fun t372 => ((laws_eqValueS.f k x10 t372).bind fun t375 => (if t375 = true then ((laws_toChangeS.f k x2).bind fun t376 => ((laws_eqChangeS.f k x11 t376).bind fun t379 => (if t379 = true then ((laws_markValueS.f k x10 1).bind fun bt380 => ((laws_markChangeS.f k x11 bt380.1).bind fun bt382 => (if bt382.1 < 0 then (laws_FnExactMigrateSave.j1 k x0 x1 x2 x8 x9 x12 true) else ((laws_eqValueS.f k x12 x8).bind fun t384 => (if t384 = true then (laws_FnExactMigrateSave.j1 k x0 x1 x2 x8 x9 x12 (x13 != x9)) else (laws_FnExactMigrateSave.j1 k x0 x1 x2 x8 x9 x12 true)))))) else (some false)))) else (some false))))
def laws_FnExactMigrateSave.j1 : Nat → Int → List (S49) → List (S52) → List (S59) → Bool → List (S59) → Bool → Option (Bool)
 | 0, _, _, _, _, _, _, _ => none
 | k + 1, x0, x1, x2, x8, x9, x12, x86 => if x86 = true then (some false) else ((laws_markValueS.f k x12 1).bind fun bt385 => ((laws_heldValueS.f k bt385.2 1).bind fun t387 => (if t387 < 0 then (some false) else (if t387 = bt385.1 then ((laws_toValueS.f k x1).bind fun t388 => ((laws_toChangeS.f k x2).bind fun t391 => ((impl_MigrateSave.f k x0 t388 t391).bind fun bt394 => ((laws_eqValueS.f k bt394.1 x8).bind fun t398 => (if t398 = true then (laws_FnExactMigrateSave.j2 k bt385.2 bt385.1 (bt394.2 != x9)) else (laws_FnExactMigrateSave.j2 k bt385.2 bt385.1 true)))))) else (some false)))))
def laws_FnExactMigrateSave.j2 : Nat → List (S59) → Int → Bool → Option (Bool)
 | 0, _, _, _ => none
 | k + 1, x12, x15, x115 => if x115 = true then (some false) else ((laws_heldValueS.f k x12 1).bind fun t399 => (if t399 < 0 then (some false) else (if t399 = x15 then (some true) else (some false))))
end
def laws_FnExactMigrateSave.f (k : Nat) (a0 : Int) (l1 : List (S49)) (l2 : List (S52)) : Option (Bool) := (laws_szValueS.f k l1 1048576).bind fun t349 => (if t349 < 0 then (some true) else ((laws_szChangeS.f k l2 t349).bind fun t350 => (if t350 < 0 then (some true) else ((laws_toValueS.f k l1).bind fun t351 => ((laws_toChangeS.f k l2).bind fun t354 => ((spec_MigrateSave.f k a0 t351 t354).bind fun bt357 => ((laws_toValueS.f k l1).bind fun t361 => ((laws_toChangeS.f k l2).bind fun t364 => ((impl_MigrateSave.f k a0 t361 t364).bind fun bt367 => ((laws_eqValueS.f k bt367.1 bt357.1).bind fun t371 => (if t371 = true then (laws_FnExactMigrateSave.j0 k a0 l1 l2 bt357.1 bt357.2 t361 t364 bt367.1 bt367.2 (bt367.2 != bt357.2)) else (laws_FnExactMigrateSave.j0 k a0 l1 l2 bt357.1 bt357.2 t361 t364 bt367.1 bt367.2 true))))))))))))
theorem laws_FnExactMigrateSave.mono_l : ∀ k, (∀ y0 y1 y2 y3 y4 y5 y6 y7 y8 y9, LeO (laws_FnExactMigrateSave.j0 k y0 y1 y2 y3 y4 y5 y6 y7 y8 y9) (laws_FnExactMigrateSave.j0 (k + 1) y0 y1 y2 y3 y4 y5 y6 y7 y8 y9)) ∧ (∀ y0 y1 y2 y3 y4 y5 y6, LeO (laws_FnExactMigrateSave.j1 k y0 y1 y2 y3 y4 y5 y6) (laws_FnExactMigrateSave.j1 (k + 1) y0 y1 y2 y3 y4 y5 y6)) ∧ (∀ y0 y1 y2, LeO (laws_FnExactMigrateSave.j2 k y0 y1 y2) (laws_FnExactMigrateSave.j2 (k + 1) y0 y1 y2))
 | 0 => ⟨fun _ _ _ _ _ _ _ _ _ _ r h => by simp [laws_FnExactMigrateSave.j0] at h, fun _ _ _ _ _ _ _ r h => by simp [laws_FnExactMigrateSave.j1] at h, fun _ _ _ r h => by simp [laws_FnExactMigrateSave.j2] at h⟩
 | k + 1 => by
  obtain ⟨ih0, ih1, ih2⟩ := laws_FnExactMigrateSave.mono_l k
  refine ⟨?_, ?_, ?_⟩
  ·intro y0 y1 y2 y3 y4 y5 y6 y7 y8 y9
   unfold laws_FnExactMigrateSave.j0
   repeat' first
   | (with_reducible exact ih0 _ _ _ _ _ _ _ _ _ _)
   | (with_reducible exact ih1 _ _ _ _ _ _ _)
   | (with_reducible exact ih2 _ _ _)
   | (with_reducible exact impl_MigrateSave.mono _ _ _ _)
   | (with_reducible exact laws_eqChangeS.mono _ _ _)
   | (with_reducible exact laws_eqValueS.mono _ _ _)
   | (with_reducible exact laws_heldValueS.mono _ _ _)
   | (with_reducible exact laws_markChangeS.mono _ _ _)
   | (with_reducible exact laws_markValueS.mono _ _ _)
   | (with_reducible exact laws_szChangeS.mono _ _ _)
   | (with_reducible exact laws_szValueS.mono _ _ _)
   | (with_reducible exact laws_toChangeS.mono _ _)
   | (with_reducible exact laws_toValueS.mono _ _)
   | (with_reducible exact spec_MigrateSave.mono _ _ _ _)
   | (with_reducible first | exact LeO.refl _ | exact LeO.none _ | refine LeO.ite ?_ ?_ | refine LeO.bind ?_ (fun _ => ?_))
   | exact ih0 _ _ _ _ _ _ _ _ _ _
   | exact ih1 _ _ _ _ _ _ _
   | exact ih2 _ _ _
   | exact impl_MigrateSave.mono _ _ _ _
   | exact laws_eqChangeS.mono _ _ _
   | exact laws_eqValueS.mono _ _ _
   | exact laws_heldValueS.mono _ _ _
   | exact laws_markChangeS.mono _ _ _
   | exact laws_markValueS.mono _ _ _
   | exact laws_szChangeS.mono _ _ _
   | exact laws_szValueS.mono _ _ _
   | exact laws_toChangeS.mono _ _
   | exact laws_toValueS.mono _ _
   | exact spec_MigrateSave.mono _ _ _ _ | exact LeO.none _ | refine LeO.ite ?_ ?_ | refine LeO.bind ?_ (fun _ => ?_)
  ·intro y0 y1 y2 y3 y4 y5 y6
   unfold laws_FnExactMigrateSave.j1
   repeat' first
   | (with_reducible exact ih0 _ _ _ _ _ _ _ _ _ _)
   | (with_reducible exact ih1 _ _ _ _ _ _ _)
   | (with_reducible exact ih2 _ _ _)
   | (with_reducible exact impl_MigrateSave.mono _ _ _ _)
   | (with_reducible exact laws_eqChangeS.mono _ _ _)
   | (with_reducible exact laws_eqValueS.mono _ _ _)
   | (with_reducible exact laws_heldValueS.mono _ _ _)
   | (with_reducible exact laws_markChangeS.mono _ _ _)
   | (with_reducible exact laws_markValueS.mono _ _ _)
   | (with_reducible exact laws_szChangeS.mono _ _ _)
   | (with_reducible exact laws_szValueS.mono _ _ _)
   | (with_reducible exact laws_toChangeS.mono _ _)
   | (with_reducible exact laws_toValueS.mono _ _)
   | (with_reducible exact spec_MigrateSave.mono _ _ _ _)
   | (with_reducible first | exact LeO.refl _ | exact LeO.none _ | refine LeO.ite ?_ ?_ | refine LeO.bind ?_ (fun _ => ?_))
   | exact ih0 _ _ _ _ _ _ _ _ _ _
   | exact ih1 _ _ _ _ _ _ _
   | exact ih2 _ _ _
   | exact impl_MigrateSave.mono _ _ _ _
   | exact laws_eqChangeS.mono _ _ _
   | exact laws_eqValueS.mono _ _ _
   | exact laws_heldValueS.mono _ _ _
   | exact laws_markChangeS.mono _ _ _
   | exact laws_markValueS.mono _ _ _
   | exact laws_szChangeS.mono _ _ _
   | exact laws_szValueS.mono _ _ _
   | exact laws_toChangeS.mono _ _
   | exact laws_toValueS.mono _ _
   | exact spec_MigrateSave.mono _ _ _ _ | exact LeO.none _ | refine LeO.ite ?_ ?_ | refine LeO.bind ?_ (fun _ => ?_)
  ·intro y0 y1 y2
   unfold laws_FnExactMigrateSave.j2
   repeat' first
   | (with_reducible exact ih0 _ _ _ _ _ _ _ _ _ _)
   | (with_reducible exact ih1 _ _ _ _ _ _ _)
   | (with_reducible exact ih2 _ _ _)
   | (with_reducible exact impl_MigrateSave.mono _ _ _ _)
   | (with_reducible exact laws_eqChangeS.mono _ _ _)
   | (with_reducible exact laws_eqValueS.mono _ _ _)
   | (with_reducible exact laws_heldValueS.mono _ _ _)
   | (with_reducible exact laws_markChangeS.mono _ _ _)
   | (with_reducible exact laws_markValueS.mono _ _ _)
   | (with_reducible exact laws_szChangeS.mono _ _ _)
   | (with_reducible exact laws_szValueS.mono _ _ _)
   | (with_reducible exact laws_toChangeS.mono _ _)
   | (with_reducible exact laws_toValueS.mono _ _)
   | (with_reducible exact spec_MigrateSave.mono _ _ _ _)
   | (with_reducible first | exact LeO.refl _ | exact LeO.none _ | refine LeO.ite ?_ ?_ | refine LeO.bind ?_ (fun _ => ?_))
   | exact ih0 _ _ _ _ _ _ _ _ _ _
   | exact ih1 _ _ _ _ _ _ _
   | exact ih2 _ _ _
   | exact impl_MigrateSave.mono _ _ _ _
   | exact laws_eqChangeS.mono _ _ _
   | exact laws_eqValueS.mono _ _ _
   | exact laws_heldValueS.mono _ _ _
   | exact laws_markChangeS.mono _ _ _
   | exact laws_markValueS.mono _ _ _
   | exact laws_szChangeS.mono _ _ _
   | exact laws_szValueS.mono _ _ _
   | exact laws_toChangeS.mono _ _
   | exact laws_toValueS.mono _ _
   | exact spec_MigrateSave.mono _ _ _ _ | exact LeO.none _ | refine LeO.ite ?_ ?_ | refine LeO.bind ?_ (fun _ => ?_)
theorem laws_FnExactMigrateSave.mono : ∀ a0 a1 a2 k, LeO (laws_FnExactMigrateSave.f k a0 a1 a2) (laws_FnExactMigrateSave.f (k + 1) a0 a1 a2) := by
 intro a0 a1 a2 k
 obtain ⟨ih0, ih1, ih2⟩ := laws_FnExactMigrateSave.mono_l k
 unfold laws_FnExactMigrateSave.f
 repeat' first
   | (with_reducible exact ih0 _ _ _ _ _ _ _ _ _ _)
   | (with_reducible exact ih1 _ _ _ _ _ _ _)
   | (with_reducible exact ih2 _ _ _)
   | (with_reducible exact impl_MigrateSave.mono _ _ _ _)
   | (with_reducible exact laws_eqChangeS.mono _ _ _)
   | (with_reducible exact laws_eqValueS.mono _ _ _)
   | (with_reducible exact laws_heldValueS.mono _ _ _)
   | (with_reducible exact laws_markChangeS.mono _ _ _)
   | (with_reducible exact laws_markValueS.mono _ _ _)
   | (with_reducible exact laws_szChangeS.mono _ _ _)
   | (with_reducible exact laws_szValueS.mono _ _ _)
   | (with_reducible exact laws_toChangeS.mono _ _)
   | (with_reducible exact laws_toValueS.mono _ _)
   | (with_reducible exact spec_MigrateSave.mono _ _ _ _)
   | (with_reducible first | exact LeO.refl _ | exact LeO.none _ | refine LeO.ite ?_ ?_ | refine LeO.bind ?_ (fun _ => ?_))
   | exact ih0 _ _ _ _ _ _ _ _ _ _
   | exact ih1 _ _ _ _ _ _ _
   | exact ih2 _ _ _
   | exact impl_MigrateSave.mono _ _ _ _
   | exact laws_eqChangeS.mono _ _ _
   | exact laws_eqValueS.mono _ _ _
   | exact laws_heldValueS.mono _ _ _
   | exact laws_markChangeS.mono _ _ _
   | exact laws_markValueS.mono _ _ _
   | exact laws_szChangeS.mono _ _ _
   | exact laws_szValueS.mono _ _ _
   | exact laws_toChangeS.mono _ _
   | exact laws_toValueS.mono _ _
   | exact spec_MigrateSave.mono _ _ _ _ | exact LeO.none _ | refine LeO.ite ?_ ?_ | refine LeO.bind ?_ (fun _ => ?_)
set_option maxHeartbeats 8000000 in
set_option maxRecDepth 100000 in
theorem laws_FnExactMigrateSave.calls (k : Nat) (a0 : Int) (A1 : Option Addr) (c1 : Nat) (l1 : List (S49)) (A2 : Option Addr) (c2 : Nat) (l2 : List (S52)) (r : Bool) (w : World) (hr1 : Kd.C k49 w A1 l1.length l1) (hc1 : l1.length ≤ c1) (hr2 : Kd.C k52 w A2 l2.length l2) (hc2 : l2.length ≤ c2) (h : laws_FnExactMigrateSave.f k a0 l1 l2 = some r) :
  Calls Try.prog 3 #[.int .i64 a0, .slice A1 l1.length c1, .slice A2 l2.length c2] w fun e w' => e = .returned (.bool r) ∧ Below w.heap.size w w' := by
 have HR1 := Aside0.mk hr1
 have HC1 := Aside0.mk hc1
 clear hr1 hc1
 have HR2 := Aside0.mk hr2
 have HC2 := Aside0.mk hc2
 clear hr2 hc2
 have HB := Aside0.mk (Below.refl w.heap.size w)
 have H : ((laws_szValueS.f k l1 1048576).bind fun t349 => (if t349 < 0 then (some true) else ((laws_szChangeS.f k l2 t349).bind fun t350 => (if t350 < 0 then (some true) else ((laws_toValueS.f k l1).bind fun t351 => ((laws_toChangeS.f k l2).bind fun t354 => ((spec_MigrateSave.f k a0 t351 t354).bind fun bt357 => ((laws_toValueS.f k l1).bind fun t361 => ((laws_toChangeS.f k l2).bind fun t364 => ((impl_MigrateSave.f k a0 t361 t364).bind fun bt367 => ((laws_eqValueS.f k bt367.1 bt357.1).bind fun t371 => (if t371 = true then (laws_FnExactMigrateSave.j0 k a0 l1 l2 bt357.1 bt357.2 t361 t364 bt367.1 bt367.2 (bt367.2 != bt357.2)) else (laws_FnExactMigrateSave.j0 k a0 l1 l2 bt357.1 bt357.2 t361 t364 bt367.1 bt367.2 true))))))))))))) = some r := h
 clear h
 replace H := Option.bind_eq_some_iff.mp H
 obtain ⟨t349, A40, H⟩ := H
 replace H : (if t349 < 0 then (some true) else ((laws_szChangeS.f k l2 t349).bind fun t350 => (if t350 < 0 then (some true) else ((laws_toValueS.f k l1).bind fun t351 => ((laws_toChangeS.f k l2).bind fun t354 => ((spec_MigrateSave.f k a0 t351 t354).bind fun bt357 => ((laws_toValueS.f k l1).bind fun t361 => ((laws_toChangeS.f k l2).bind fun t364 => ((impl_MigrateSave.f k a0 t361 t364).bind fun bt367 => ((laws_eqValueS.f k bt367.1 bt357.1).bind fun t371 => (if t371 = true then (laws_FnExactMigrateSave.j0 k a0 l1 l2 bt357.1 bt357.2 t361 t364 bt367.1 bt367.2 (bt367.2 != bt357.2)) else (laws_FnExactMigrateSave.j0 k a0 l1 l2 bt357.1 bt357.2 t361 t364 bt367.1 bt367.2 true)))))))))))) = some r := H
 have A4 := Aside0.mk A40
 clear A40
 by_cases c5 : t349 < 0
 ·rw [if_pos c5] at H
  have c5b0 : decide (t349 < 0) = true := decide_eq_true c5
  clear c5
  obtain rfl := Option.some.inj H
  go_enter Try.func3, Try.ntmps3
  go_wp2_with (first | ((with_reducible refine gate_callee (f := 6) rfl ?_); refine goesL_ (some 21) rfl rfl Try.func6 (by kernel_rfl) rfl #[.slice A1 l1.length c1, .int .i64 1048576] rfl aE ?_; (with_reducible refine (laws_szValueS.calls k _ _ l1 1048576 t349 _ ?side1 ?side2 A4.out).mono ?_); (case side1 => repeat (first | exact HR1.out | (with_reducible refine Kd.C_alloc ?_ _) | (with_reducible refine Kd.C_drewN ?_ _) | (with_reducible refine Kd.C_drew ?_))); (case side2 => exact HC1.out); rintro e w6 ⟨rfl, hb⟩; refine ⟨_, rfl, ?_⟩; replace HB := bH (lU) hb; (try clear hb)))
  go_ret
  exact ⟨eE, lU⟩
 ·rw [if_neg c5] at H
  have c5b0 : decide (t349 < 0) = false := decide_eq_false c5
  clear c5
  replace H := Option.bind_eq_some_iff.mp H
  obtain ⟨t350, A70, H⟩ := H
  replace H : (if t350 < 0 then (some true) else ((laws_toValueS.f k l1).bind fun t351 => ((laws_toChangeS.f k l2).bind fun t354 => ((spec_MigrateSave.f k a0 t351 t354).bind fun bt357 => ((laws_toValueS.f k l1).bind fun t361 => ((laws_toChangeS.f k l2).bind fun t364 => ((impl_MigrateSave.f k a0 t361 t364).bind fun bt367 => ((laws_eqValueS.f k bt367.1 bt357.1).bind fun t371 => (if t371 = true then (laws_FnExactMigrateSave.j0 k a0 l1 l2 bt357.1 bt357.2 t361 t364 bt367.1 bt367.2 (bt367.2 != bt357.2)) else (laws_FnExactMigrateSave.j0 k a0 l1 l2 bt357.1 bt357.2 t361 t364 bt367.1 bt367.2 true)))))))))) = some r := H
  have A7 := Aside0.mk A70
  clear A70
  by_cases c8 : t350 < 0
  ·rw [if_pos c8] at H
   have c8b0 : decide (t350 < 0) = true := decide_eq_true c8
   clear c8
   obtain rfl := Option.some.inj H
   go_enter Try.func3, Try.ntmps3
   go_wp2_with (first | ((with_reducible refine gate_callee (f := 6) rfl ?_); refine goesL_ (some 21) rfl rfl Try.func6 (by kernel_rfl) rfl #[.slice A1 l1.length c1, .int .i64 1048576] rfl aE ?_; (with_reducible refine (laws_szValueS.calls k _ _ l1 1048576 t349 _ ?side1 ?side2 A4.out).mono ?_); (case side1 => repeat (first | exact HR1.out | (with_reducible refine Kd.C_alloc ?_ _) | (with_reducible refine Kd.C_drewN ?_ _) | (with_reducible refine Kd.C_drew ?_))); (case side2 => exact HC1.out); rintro e w9 ⟨rfl, hb⟩; refine ⟨_, rfl, ?_⟩; replace HB := bH (lU) hb; (try clear hb)) | ((with_reducible refine gate_callee (f := 7) rfl ?_); refine goesL_ (some 26) rfl rfl Try.func7 (by kernel_rfl) rfl #[.slice A2 l2.length c2, .int .i64 t349] rfl aE ?_; (with_reducible refine (laws_szChangeS.calls k _ _ l2 t349 t350 _ ?side1 ?side2 A7.out).mono ?_); (case side1 => exact cU (Kd.C_below HR2.out HB.out)); (case side2 => exact HC2.out); rintro e w10 ⟨rfl, hb⟩; refine ⟨_, rfl, ?_⟩; replace HB := bH (lU) hb; (try clear hb)))
   go_ret
   exact ⟨eE, lU⟩
  ·rw [if_neg c8] at H
   have c8b0 : decide (t350 < 0) = false := decide_eq_false c8
   clear c8
   replace H := Option.bind_eq_some_iff.mp H
   obtain ⟨t351, A110, H⟩ := H
   replace H : ((laws_toChangeS.f k l2).bind fun t354 => ((spec_MigrateSave.f k a0 t351 t354).bind fun bt357 => ((laws_toValueS.f k l1).bind fun t361 => ((laws_toChangeS.f k l2).bind fun t364 => ((impl_MigrateSave.f k a0 t361 t364).bind fun bt367 => ((laws_eqValueS.f k bt367.1 bt357.1).bind fun t371 => (if t371 = true then (laws_FnExactMigrateSave.j0 k a0 l1 l2 bt357.1 bt357.2 t361 t364 bt367.1 bt367.2 (bt367.2 != bt357.2)) else (laws_FnExactMigrateSave.j0 k a0 l1 l2 bt357.1 bt357.2 t361 t364 bt367.1 bt367.2 true)))))))) = some r := H
   have A11 := Aside0.mk A110
   clear A110
   replace H := Option.bind_eq_some_iff.mp H
   obtain ⟨t354, A120, H⟩ := H
   replace H : ((spec_MigrateSave.f k a0 t351 t354).bind fun bt357 => ((laws_toValueS.f k l1).bind fun t361 => ((laws_toChangeS.f k l2).bind fun t364 => ((impl_MigrateSave.f k a0 t361 t364).bind fun bt367 => ((laws_eqValueS.f k bt367.1 bt357.1).bind fun t371 => (if t371 = true then (laws_FnExactMigrateSave.j0 k a0 l1 l2 bt357.1 bt357.2 t361 t364 bt367.1 bt367.2 (bt367.2 != bt357.2)) else (laws_FnExactMigrateSave.j0 k a0 l1 l2 bt357.1 bt357.2 t361 t364 bt367.1 bt367.2 true))))))) = some r := H
   have A12 := Aside0.mk A120
   clear A120
   replace H := Option.bind_eq_some_iff.mp H
   obtain ⟨⟨t357, t358⟩, A130, H⟩ := H
   replace H : ((laws_toValueS.f k l1).bind fun t361 => ((laws_toChangeS.f k l2).bind fun t364 => ((impl_MigrateSave.f k a0 t361 t364).bind fun bt367 => ((laws_eqValueS.f k bt367.1 t357).bind fun t371 => (if t371 = true then (laws_FnExactMigrateSave.j0 k a0 l1 l2 t357 t358 t361 t364 bt367.1 bt367.2 (bt367.2 != t358)) else (laws_FnExactMigrateSave.j0 k a0 l1 l2 t357 t358 t361 t364 bt367.1 bt367.2 true)))))) = some r := H
   have A13 := Aside0.mk A130
   clear A130
   replace H := Option.bind_eq_some_iff.mp H
   obtain ⟨t361, A140, H⟩ := H
   replace H : ((laws_toChangeS.f k l2).bind fun t364 => ((impl_MigrateSave.f k a0 t361 t364).bind fun bt367 => ((laws_eqValueS.f k bt367.1 t357).bind fun t371 => (if t371 = true then (laws_FnExactMigrateSave.j0 k a0 l1 l2 t357 t358 t361 t364 bt367.1 bt367.2 (bt367.2 != t358)) else (laws_FnExactMigrateSave.j0 k a0 l1 l2 t357 t358 t361 t364 bt367.1 bt367.2 true))))) = some r := H
   have A14 := Aside0.mk A140
   clear A140
   replace H := Option.bind_eq_some_iff.mp H
   obtain ⟨t364, A150, H⟩ := H
   replace H : ((impl_MigrateSave.f k a0 t361 t364).bind fun bt367 => ((laws_eqValueS.f k bt367.1 t357).bind fun t371 => (if t371 = true then (laws_FnExactMigrateSave.j0 k a0 l1 l2 t357 t358 t361 t364 bt367.1 bt367.2 (bt367.2 != t358)) else (laws_FnExactMigrateSave.j0 k a0 l1 l2 t357 t358 t361 t364 bt367.1 bt367.2 true)))) = some r := H
   have A15 := Aside0.mk A150
   clear A150
   replace H := Option.bind_eq_some_iff.mp H
   obtain ⟨⟨t367, t368⟩, A160, H⟩ := H
   replace H : ((laws_eqValueS.f k t367 t357).bind fun t371 => (if t371 = true then (laws_FnExactMigrateSave.j0 k a0 l1 l2 t357 t358 t361 t364 t367 t368 (t368 != t358)) else (laws_FnExactMigrateSave.j0 k a0 l1 l2 t357 t358 t361 t364 t367 t368 true))) = some r := H
   have A16 := Aside0.mk A160
   clear A160
   have HC17 := Aside0.mk H
   clear H
   go_enter Try.func3, Try.ntmps3
   go_upto_region 12 with (first | ((with_reducible refine gate_callee (f := 6) rfl ?_); refine goesL_ (some 21) rfl rfl Try.func6 (by kernel_rfl) rfl #[.slice A1 l1.length c1, .int .i64 1048576] rfl aE ?_; (with_reducible refine (laws_szValueS.calls k _ _ l1 1048576 t349 _ ?side1 ?side2 A4.out).mono ?_); (case side1 => repeat (first | exact HR1.out | (with_reducible refine Kd.C_alloc ?_ _) | (with_reducible refine Kd.C_drewN ?_ _) | (with_reducible refine Kd.C_drew ?_))); (case side2 => exact HC1.out); rintro e w18 ⟨rfl, hb⟩; refine ⟨_, rfl, ?_⟩; replace HB := bH (lU) hb; (try clear hb)) | ((with_reducible refine gate_callee (f := 7) rfl ?_); refine goesL_ (some 26) rfl rfl Try.func7 (by kernel_rfl) rfl #[.slice A2 l2.length c2, .int .i64 t349] rfl aE ?_; (with_reducible refine (laws_szChangeS.calls k _ _ l2 t349 t350 _ ?side1 ?side2 A7.out).mono ?_); (case side1 => exact cU (Kd.C_below HR2.out HB.out)); (case side2 => exact HC2.out); rintro e w19 ⟨rfl, hb⟩; refine ⟨_, rfl, ?_⟩; replace HB := bH (lU) hb; (try clear hb)) | ((with_reducible refine gate_callee (f := 9) rfl ?_); refine goesL_ (some 32) rfl rfl Try.func9 (by kernel_rfl) rfl #[.slice A1 l1.length c1] rfl aE ?_; (with_reducible refine (laws_toValueS.calls k _ _ l1 t351 _ ?side1 ?side2 A11.out).mono ?_); (case side1 => exact cU (Kd.C_below HR1.out HB.out)); (case side2 => exact HC1.out); rintro e w20 ⟨v352, rfl, ho0, hb⟩; refine ⟨_, rfl, ?_⟩; have HO353 := Aside0.mk (Kd.R_lower ho0 (below_size (lU))); replace HB := bH (lU) hb; (try clear hb); (try clear ho0)) | ((with_reducible refine gate_callee (f := 10) rfl ?_); refine goesL_ (some 34) rfl rfl Try.func10 (by kernel_rfl) rfl #[.slice A2 l2.length c2] rfl aE ?_; (with_reducible refine (laws_toChangeS.calls k _ _ l2 t354 _ ?side1 ?side2 A12.out).mono ?_); (case side1 => exact cU (Kd.C_below HR2.out HB.out)); (case side2 => exact HC2.out); rintro e w21 ⟨v355, rfl, ho0, hb⟩; refine ⟨_, rfl, ?_⟩; replace HO353 := Aside0.mk (Kd.R_below (rU HO353.out) hb); have HO356 := Aside0.mk (Kd.R_lower ho0 (below_size (lU))); replace HB := bH (lU) hb; (try clear hb); (try clear ho0); obtain ⟨Ao22, co22, eo22⟩ := Kd.R_slice HO353.out; subst eo22; obtain ⟨Ao23, co23, eo23⟩ := Kd.R_slice HO356.out; subst eo23) | ((with_reducible refine gate_callee (f := 8) rfl ?_); refine goesL_ (some 35) rfl rfl Try.func8 (by kernel_rfl) rfl #[.int .i64 a0, .slice Ao22 t351.length co22, .slice Ao23 t354.length co23] rfl aE ?_; (with_reducible refine (spec_MigrateSave.calls k a0 _ _ t351 _ _ t354 t357 t358 _ ?side1 ?side2 ?side3 ?side4 A13.out).mono ?_); (case side1 => exact cU (Kd.R_reads' HO353.out).2.2); (case side2 => exact (Kd.R_reads' HO353.out).2.1); (case side3 => exact cU (Kd.R_reads' HO356.out).2.2); (case side4 => exact (Kd.R_reads' HO356.out).2.1); rintro e w24 ⟨v359, rfl, ho0, hb⟩; refine ⟨_, rfl, ?_⟩; replace HO356 := Aside0.mk (Kd.R_below (rU HO356.out) hb); have HO360 := Aside0.mk (Kd.R_lower (Kd.R_new' ho0 (Kd.R_lt (rU HO353.out))) (below_size (lU))); replace HO353 := Aside0.mk (Kd.R_elder' (rU HO353.out) (Kd.R_base ho0) hb); replace HB := bH (lU) hb; (try clear hb); (try clear ho0); obtain ⟨A360, c360, e360_⟩ := Kd.R_slice HO360.out; subst e360_; have HR360 := Aside0.mk (Kd.R_reads' HO360.out).2.2; have HC360 := Aside0.mk (Kd.R_reads' HO360.out).2.1; replace HR1 := Aside0.mk (Kd.C_below HR1.out (lU)); replace HR2 := Aside0.mk (Kd.C_below HR2.out (lU)); have HB00 := Aside0.mk lU; obtain ⟨w, hw_⟩ : ∃ w_ : World, w_ = w24 := ⟨_, rfl⟩; replace HR360 := Aside0.mk (show Kd.C k59 w A360 t357.length t357 from by rw [hw_]; exact HR360.out); replace HR1 := Aside0.mk (show Kd.C k49 w A1 l1.length l1 from by rw [hw_]; exact HR1.out); replace HR2 := Aside0.mk (show Kd.C k52 w A2 l2.length l2 from by rw [hw_]; exact HR2.out); have HB := Aside0.mk (show Below w.heap.size w w24 from by rw [hw_]; exact Below.refl _ _); rw [← hw_] at HB00; clear hw_) | ((with_reducible refine gate_callee (f := 9) rfl ?_); refine goesL_ (some 39) rfl rfl Try.func9 (by kernel_rfl) rfl #[.slice A1 l1.length c1] rfl aE ?_; (with_reducible refine (laws_toValueS.calls k _ _ l1 t361 _ ?side1 ?side2 A14.out).mono ?_); (case side1 => exact cU (Kd.C_below HR1.out HB.out)); (case side2 => exact HC1.out); rintro e w25 ⟨v362, rfl, ho0, hb⟩; refine ⟨_, rfl, ?_⟩; have HO363 := Aside0.mk (Kd.R_lower ho0 (below_size (lU))); replace HB := bH (lU) hb; (try clear hb); (try clear ho0)) | ((with_reducible refine gate_callee (f := 10) rfl ?_); refine goesL_ (some 41) rfl rfl Try.func10 (by kernel_rfl) rfl #[.slice A2 l2.length c2] rfl aE ?_; (with_reducible refine (laws_toChangeS.calls k _ _ l2 t364 _ ?side1 ?side2 A15.out).mono ?_); (case side1 => exact cU (Kd.C_below HR2.out HB.out)); (case side2 => exact HC2.out); rintro e w26 ⟨v365, rfl, ho0, hb⟩; refine ⟨_, rfl, ?_⟩; replace HO363 := Aside0.mk (Kd.R_below (rU HO363.out) hb); have HO366 := Aside0.mk (Kd.R_lower ho0 (below_size (lU))); replace HB := bH (lU) hb; (try clear hb); (try clear ho0); obtain ⟨Ao27, co27, eo27⟩ := Kd.R_slice HO363.out; subst eo27; obtain ⟨Ao28, co28, eo28⟩ := Kd.R_slice HO366.out; subst eo28) | ((with_reducible refine gate_callee (f := 11) rfl ?_); refine goesL_ (some 46) rfl rfl Try.func11 (by kernel_rfl) rfl #[.int .i64 a0, .slice Ao27 t361.length co27, .slice Ao28 t364.length co28] rfl aE ?_; (with_reducible refine (impl_MigrateSave.calls k a0 _ _ t361 _ _ t364 t367 t368 _ ?side1 ?side2 ?side3 ?side4 A16.out).mono ?_); (case side1 => exact cU (Kd.R_reads' HO363.out).2.2); (case side2 => exact (Kd.R_reads' HO363.out).2.1); (case side3 => exact cU (Kd.R_reads' HO366.out).2.2); (case side4 => exact (Kd.R_reads' HO366.out).2.1); rintro e w29 ⟨v369, rfl, ho0, hb⟩; refine ⟨_, rfl, ?_⟩; replace HO366 := Aside0.mk (Kd.R_below (rU HO366.out) hb); have HO370 := Aside0.mk (Kd.R_lower (Kd.R_new' ho0 (Kd.R_lt (rU HO363.out))) (below_size (lU))); replace HO363 := Aside0.mk (Kd.R_elder' (rU HO363.out) (Kd.R_base ho0) hb); replace HB := bH (lU) hb; (try clear hb); (try clear ho0)))
   (try simp only [Act.put, List.setIfInBounds_toArray, List.set_cons_zero, List.set_cons_succ])
   go_cut [57] (fun v57 wc => ∃ (kq : Nat) (x57_16 : Bool), v57 = .bool x57_16 ∧ Aside0 (laws_FnExactMigrateSave.j0 kq a0 l1 l2 t357 t358 t361 t364 t367 t368 x57_16 = some r) ∧ Aside0 (kq ≤ k) ∧ Aside0 (Kd.R k59 59 wc w.heap.size (fun k_ => some k_ ≠ (v369 : Value).ownBlock) (.slice Ao27 t361.length co27) t361) ∧ Aside0 (Kd.R k56 56 wc w.heap.size (fun _ => True) (.slice Ao28 t364.length co28) t364) ∧ Aside0 (Kd.R k59 59 wc w.heap.size (fun k_ => some k_ ≠ ((.slice Ao27 t361.length co27) : Value).ownBlock) v369 t367) ∧ Aside0 (Below w.heap.size w wc))
   case first =>
    have H := HC17.out
    clear HC17
    replace H := Option.bind_eq_some_iff.mp H
    obtain ⟨t371, A300, H⟩ := H
    replace H : (if t371 = true then (laws_FnExactMigrateSave.j0 k a0 l1 l2 t357 t358 t361 t364 t367 t368 (t368 != t358)) else (laws_FnExactMigrateSave.j0 k a0 l1 l2 t357 t358 t361 t364 t367 t368 true)) = some r := H
    have A30 := Aside0.mk A300
    clear A300
    by_cases c31 : t371 = true
    ·subst c31
     have H1 : (laws_FnExactMigrateSave.j0 k a0 l1 l2 t357 t358 t361 t364 t367 t368 (t368 != t358)) = some r := by rw [if_pos rfl] at H; exact H
     clear H
     have H := H1
     clear H1
     have H' := Aside0.mk H
     clear H
     obtain ⟨Ao32, co32, eo32⟩ := Kd.R_slice HO370.out
     subst eo32
     go_wp2_with (first | ((with_reducible refine gate_callee (f := 12) rfl ?_); refine goesL_ (some 51) rfl rfl Try.func12 (by kernel_rfl) rfl #[.slice Ao32 t367.length co32, .slice A360 t357.length c360] rfl aE ?_; (with_reducible refine (laws_eqValueS.calls k _ _ t367 _ _ t357 true _ ?side1 ?side2 ?side3 ?side4 A30.out).mono ?_); (case side1 => exact cU (Kd.R_reads' HO370.out).2.2); (case side2 => exact (Kd.R_reads' HO370.out).2.1); (case side3 => exact cU (Kd.C_below HR360.out HB.out)); (case side4 => exact HC360.out); rintro e w33 ⟨rfl, hb⟩; refine ⟨_, rfl, ?_⟩; replace HO363 := Aside0.mk (Kd.R_below (rU HO363.out) hb); replace HO366 := Aside0.mk (Kd.R_below (rU HO366.out) hb); replace HO370 := Aside0.mk (Kd.R_below (rU HO370.out) hb); replace HB := bH (lU) hb; (try clear hb)))
     go_meet
     case rel => exact ⟨_, ((t368 != t358)), tE, H', ⟨by first | omega | exact Nat.le_refl _⟩, ⟨by (with_reducible repeat (first | apply Kd.R_alloc | apply Kd.R_drewN | apply Kd.R_drew)); exact Kd.R_mono HO363.out (fun _ hk => hk.2)⟩, ⟨by (with_reducible repeat (first | apply Kd.R_alloc | apply Kd.R_drewN | apply Kd.R_drew)); exact HO366.out⟩, ⟨by (with_reducible repeat (first | apply Kd.R_alloc | apply Kd.R_drewN | apply Kd.R_drew)); exact Kd.R_mono HO370.out (fun _ hk => hk.2)⟩, ⟨by repeat (first | (with_reducible first | exact HB.out | apply below_alloc | apply pw_below_drewN | apply below_drew1) | exact HB.out)⟩⟩
    ·replace c31 := Bool.eq_false_iff.mpr c31
     subst c31
     have H1 : (laws_FnExactMigrateSave.j0 k a0 l1 l2 t357 t358 t361 t364 t367 t368 true) = some r := by rw [if_neg (show ¬ (false = true) by decide)] at H; exact H
     clear H
     have H := H1
     clear H1
     have H' := Aside0.mk H
     clear H
     obtain ⟨Ao34, co34, eo34⟩ := Kd.R_slice HO370.out
     subst eo34
     go_wp2_with (first | ((with_reducible refine gate_callee (f := 12) rfl ?_); refine goesL_ (some 51) rfl rfl Try.func12 (by kernel_rfl) rfl #[.slice Ao34 t367.length co34, .slice A360 t357.length c360] rfl aE ?_; (with_reducible refine (laws_eqValueS.calls k _ _ t367 _ _ t357 false _ ?side1 ?side2 ?side3 ?side4 A30.out).mono ?_); (case side1 => exact cU (Kd.R_reads' HO370.out).2.2); (case side2 => exact (Kd.R_reads' HO370.out).2.1); (case side3 => exact cU (Kd.C_below HR360.out HB.out)); (case side4 => exact HC360.out); rintro e w35 ⟨rfl, hb⟩; refine ⟨_, rfl, ?_⟩; replace HO363 := Aside0.mk (Kd.R_below (rU HO363.out) hb); replace HO366 := Aside0.mk (Kd.R_below (rU HO366.out) hb); replace HO370 := Aside0.mk (Kd.R_below (rU HO370.out) hb); replace HB := bH (lU) hb; (try clear hb)))
     go_meet
     case rel => exact ⟨_, (true), tE, H', ⟨by first | omega | exact Nat.le_refl _⟩, ⟨by (with_reducible repeat (first | apply Kd.R_alloc | apply Kd.R_drewN | apply Kd.R_drew)); exact Kd.R_mono HO363.out (fun _ hk => hk.2)⟩, ⟨by (with_reducible repeat (first | apply Kd.R_alloc | apply Kd.R_drewN | apply Kd.R_drew)); exact HO366.out⟩, ⟨by (with_reducible repeat (first | apply Kd.R_alloc | apply Kd.R_drewN | apply Kd.R_drew)); exact Kd.R_mono HO370.out (fun _ hk => hk.2)⟩, ⟨by repeat (first | (with_reducible first | exact HB.out | apply below_alloc | apply pw_below_drewN | apply below_drew1) | exact HB.out)⟩⟩
   case rest =>
    clear HC17
    try clear c1
    try clear c2
    try clear p2
    try clear c3
    try clear c5
    try clear c5b0
    try clear c6
    try clear c7
    try clear c8
    try clear c8b0
    try clear c9
    try clear c10
    try clear c11
    try clear c12
    try clear c31
    obtain ⟨kq, x57_16, rfl, HA, HJ16, HO_10, HO_11, HO_12, HB⟩ := hcut
    cases kq with
    | zero => exact absurd HA.out (by simp [laws_FnExactMigrateSave.j0])
    | succ kj16 =>
     have H := HA.out
     clear HA
     simp only [laws_FnExactMigrateSave.j0] at H
     by_cases c36 : x57_16 = true
     ·subst c36
      have H1 : (some false) = some r := by rw [if_pos rfl] at H; exact H
      clear H
      have H := H1
      clear H1
      obtain rfl := Option.some.inj H
      go_wp2
      go_ret
      exact ⟨eE, (by first | exact below_step HB00.out (lU) | exact (lU))⟩
     ·replace c36 := Bool.eq_false_iff.mpr c36
      subst c36
      have H1 : ((laws_toValueS.f kj16 l1).bind fun t372 => ((laws_eqValueS.f kj16 t361 t372).bind fun t375 => (if t375 = true then ((laws_toChangeS.f kj16 l2).bind fun t376 => ((laws_eqChangeS.f kj16 t364 t376).bind fun t379 => (if t379 = true then ((laws_markValueS.f kj16 t361 1).bind fun bt380 => ((laws_markChangeS.f kj16 t364 bt380.1).bind fun bt382 => (if bt382.1 < 0 then (laws_FnExactMigrateSave.j1 kj16 a0 l1 l2 t357 t358 t367 true) else ((laws_eqValueS.f kj16 t367 t357).bind fun t384 => (if t384 = true then (laws_FnExactMigrateSave.j1 kj16 a0 l1 l2 t357 t358 t367 (t368 != t358)) else (laws_FnExactMigrateSave.j1 kj16 a0 l1 l2 t357 t358 t367 true)))))) else (some false)))) else (some false)))) = some r := by rw [if_neg (show ¬ (false = true) by decide)] at H; exact H
      clear H
      have H := H1
      clear H1
      replace H := Option.bind_eq_some_iff.mp H
      obtain ⟨t372, A370, H⟩ := H
      replace H : ((laws_eqValueS.f kj16 t361 t372).bind fun t375 => (if t375 = true then ((laws_toChangeS.f kj16 l2).bind fun t376 => ((laws_eqChangeS.f kj16 t364 t376).bind fun t379 => (if t379 = true then ((laws_markValueS.f kj16 t361 1).bind fun bt380 => ((laws_markChangeS.f kj16 t364 bt380.1).bind fun bt382 => (if bt382.1 < 0 then (laws_FnExactMigrateSave.j1 kj16 a0 l1 l2 t357 t358 t367 true) else ((laws_eqValueS.f kj16 t367 t357).bind fun t384 => (if t384 = true then (laws_FnExactMigrateSave.j1 kj16 a0 l1 l2 t357 t358 t367 (t368 != t358)) else (laws_FnExactMigrateSave.j1 kj16 a0 l1 l2 t357 t358 t367 true)))))) else (some false)))) else (some false))) = some r := H
      have A37 := Aside0.mk A370
      clear A370
      replace H := Option.bind_eq_some_iff.mp H
      obtain ⟨t375, A380, H⟩ := H
      replace H : (if t375 = true then ((laws_toChangeS.f kj16 l2).bind fun t376 => ((laws_eqChangeS.f kj16 t364 t376).bind fun t379 => (if t379 = true then ((laws_markValueS.f kj16 t361 1).bind fun bt380 => ((laws_markChangeS.f kj16 t364 bt380.1).bind fun bt382 => (if bt382.1 < 0 then (laws_FnExactMigrateSave.j1 kj16 a0 l1 l2 t357 t358 t367 true) else ((laws_eqValueS.f kj16 t367 t357).bind fun t384 => (if t384 = true then (laws_FnExactMigrateSave.j1 kj16 a0 l1 l2 t357 t358 t367 (t368 != t358)) else (laws_FnExactMigrateSave.j1 kj16 a0 l1 l2 t357 t358 t367 true)))))) else (some false)))) else (some false)) = some r := H
      have A38 := Aside0.mk A380
      clear A380
      by_cases c39 : t375 = true
      ·subst c39
       have H1 : ((laws_toChangeS.f kj16 l2).bind fun t376 => ((laws_eqChangeS.f kj16 t364 t376).bind fun t379 => (if t379 = true then ((laws_markValueS.f kj16 t361 1).bind fun bt380 => ((laws_markChangeS.f kj16 t364 bt380.1).bind fun bt382 => (if bt382.1 < 0 then (laws_FnExactMigrateSave.j1 kj16 a0 l1 l2 t357 t358 t367 true) else ((laws_eqValueS.f kj16 t367 t357).bind fun t384 => (if t384 = true then (laws_FnExactMigrateSave.j1 kj16 a0 l1 l2 t357 t358 t367 (t368 != t358)) else (laws_FnExactMigrateSave.j1 kj16 a0 l1 l2 t357 t358 t367 true)))))) else (some false)))) = some r := by rw [if_pos rfl] at H; exact H
       clear H
       have H := H1
       clear H1
       replace H := Option.bind_eq_some_iff.mp H
       obtain ⟨t376, A400, H⟩ := H
       replace H : ((laws_eqChangeS.f kj16 t364 t376).bind fun t379 => (if t379 = true then ((laws_markValueS.f kj16 t361 1).bind fun bt380 => ((laws_markChangeS.f kj16 t364 bt380.1).bind fun bt382 => (if bt382.1 < 0 then (laws_FnExactMigrateSave.j1 kj16 a0 l1 l2 t357 t358 t367 true) else ((laws_eqValueS.f kj16 t367 t357).bind fun t384 => (if t384 = true then (laws_FnExactMigrateSave.j1 kj16 a0 l1 l2 t357 t358 t367 (t368 != t358)) else (laws_FnExactMigrateSave.j1 kj16 a0 l1 l2 t357 t358 t367 true)))))) else (some false))) = some r := H
       have A40 := Aside0.mk A400
       clear A400
       replace H := Option.bind_eq_some_iff.mp H
       obtain ⟨t379, A410, H⟩ := H
       replace H : (if t379 = true then ((laws_markValueS.f kj16 t361 1).bind fun bt380 => ((laws_markChangeS.f kj16 t364 bt380.1).bind fun bt382 => (if bt382.1 < 0 then (laws_FnExactMigrateSave.j1 kj16 a0 l1 l2 t357 t358 t367 true) else ((laws_eqValueS.f kj16 t367 t357).bind fun t384 => (if t384 = true then (laws_FnExactMigrateSave.j1 kj16 a0 l1 l2 t357 t358 t367 (t368 != t358)) else (laws_FnExactMigrateSave.j1 kj16 a0 l1 l2 t357 t358 t367 true)))))) else (some false)) = some r := H
       have A41 := Aside0.mk A410
       clear A410
       by_cases c42 : t379 = true
       ·subst c42
        have H1 : ((laws_markValueS.f kj16 t361 1).bind fun bt380 => ((laws_markChangeS.f kj16 t364 bt380.1).bind fun bt382 => (if bt382.1 < 0 then (laws_FnExactMigrateSave.j1 kj16 a0 l1 l2 t357 t358 t367 true) else ((laws_eqValueS.f kj16 t367 t357).bind fun t384 => (if t384 = true then (laws_FnExactMigrateSave.j1 kj16 a0 l1 l2 t357 t358 t367 (t368 != t358)) else (laws_FnExactMigrateSave.j1 kj16 a0 l1 l2 t357 t358 t367 true)))))) = some r := by rw [if_pos rfl] at H; exact H
        clear H
        have H := H1
        clear H1
        replace H := Option.bind_eq_some_iff.mp H
        obtain ⟨⟨t380, t381⟩, A430, H⟩ := H
        replace H : ((laws_markChangeS.f kj16 t364 t380).bind fun bt382 => (if bt382.1 < 0 then (laws_FnExactMigrateSave.j1 kj16 a0 l1 l2 t357 t358 t367 true) else ((laws_eqValueS.f kj16 t367 t357).bind fun t384 => (if t384 = true then (laws_FnExactMigrateSave.j1 kj16 a0 l1 l2 t357 t358 t367 (t368 != t358)) else (laws_FnExactMigrateSave.j1 kj16 a0 l1 l2 t357 t358 t367 true))))) = some r := H
        have A43 := Aside0.mk A430
        clear A430
        replace H := Option.bind_eq_some_iff.mp H
        obtain ⟨⟨t382, t383⟩, A440, H⟩ := H
        replace H : (if t382 < 0 then (laws_FnExactMigrateSave.j1 kj16 a0 l1 l2 t357 t358 t367 true) else ((laws_eqValueS.f kj16 t367 t357).bind fun t384 => (if t384 = true then (laws_FnExactMigrateSave.j1 kj16 a0 l1 l2 t357 t358 t367 (t368 != t358)) else (laws_FnExactMigrateSave.j1 kj16 a0 l1 l2 t357 t358 t367 true)))) = some r := H
        have A44 := Aside0.mk A440
        clear A440
        have HC45 := Aside0.mk H
        clear H
        go_upto_region 21 with (first | ((with_reducible refine gate_callee (f := 9) rfl ?_); refine goesL_ (some 60) rfl rfl Try.func9 (by kernel_rfl) rfl #[.slice A1 l1.length c1] rfl aE ?_; (with_reducible refine (laws_toValueS.calls kj16 _ _ l1 t372 _ ?side1 ?side2 A37.out).mono ?_); (case side1 => exact cU (Kd.C_below HR1.out HB.out)); (case side2 => exact HC1.out); rintro e w46 ⟨v373, rfl, ho0, hb⟩; refine ⟨_, rfl, ?_⟩; replace HO_11 := Aside0.mk (Kd.R_below (rU HO_11.out) hb); have HO374 := Aside0.mk (Kd.R_lower (Kd.R_new' (Kd.R_new' ho0 (Kd.R_lt (rU HO_10.out))) (Kd.R_lt (rU HO_12.out))) (below_size (lU))); replace HO_10 := Aside0.mk (Kd.R_elder' (rU HO_10.out) (Kd.R_base ho0) hb); replace HO_12 := Aside0.mk (Kd.R_elder' (rU HO_12.out) (Kd.R_base ho0) hb); replace HB := bH (lU) hb; (try clear hb); (try clear ho0); obtain ⟨Ao47, co47, eo47⟩ := Kd.R_slice HO374.out; subst eo47) | ((with_reducible refine gate_callee (f := 12) rfl ?_); refine goesL_ (some 61) rfl rfl Try.func12 (by kernel_rfl) rfl #[.slice Ao27 t361.length co27, .slice Ao47 t372.length co47] rfl aE ?_; (with_reducible refine (laws_eqValueS.calls kj16 _ _ t361 _ _ t372 true _ ?side1 ?side2 ?side3 ?side4 A38.out).mono ?_); (case side1 => exact cU (Kd.R_reads' HO_10.out).2.2); (case side2 => exact (Kd.R_reads' HO_10.out).2.1); (case side3 => exact cU (Kd.R_reads' HO374.out).2.2); (case side4 => exact (Kd.R_reads' HO374.out).2.1); rintro e w48 ⟨rfl, hb⟩; refine ⟨_, rfl, ?_⟩; replace HO_10 := Aside0.mk (Kd.R_below (rU HO_10.out) hb); replace HO_11 := Aside0.mk (Kd.R_below (rU HO_11.out) hb); replace HO_12 := Aside0.mk (Kd.R_below (rU HO_12.out) hb); replace HO374 := Aside0.mk (Kd.R_below (rU HO374.out) hb); replace HB := bH (lU) hb; (try clear hb)) | ((with_reducible refine gate_callee (f := 10) rfl ?_); refine goesL_ (some 65) rfl rfl Try.func10 (by kernel_rfl) rfl #[.slice A2 l2.length c2] rfl aE ?_; (with_reducible refine (laws_toChangeS.calls kj16 _ _ l2 t376 _ ?side1 ?side2 A40.out).mono ?_); (case side1 => exact cU (Kd.C_below HR2.out HB.out)); (case side2 => exact HC2.out); rintro e w49 ⟨v377, rfl, ho0, hb⟩; refine ⟨_, rfl, ?_⟩; replace HO_10 := Aside0.mk (Kd.R_below (rU HO_10.out) hb); replace HO_12 := Aside0.mk (Kd.R_below (rU HO_12.out) hb); replace HO374 := Aside0.mk (Kd.R_below (rU HO374.out) hb); have HO378 := Aside0.mk (Kd.R_lower (Kd.R_new' ho0 (Kd.R_lt (rU HO_11.out))) (below_size (lU))); replace HO_11 := Aside0.mk (Kd.R_elder' (rU HO_11.out) (Kd.R_base ho0) hb); replace HB := bH (lU) hb; (try clear hb); (try clear ho0); obtain ⟨Ao50, co50, eo50⟩ := Kd.R_slice HO378.out; subst eo50) | ((with_reducible refine gate_callee (f := 13) rfl ?_); refine goesL_ (some 66) rfl rfl Try.func13 (by kernel_rfl) rfl #[.slice Ao28 t364.length co28, .slice Ao50 t376.length co50] rfl aE ?_; (with_reducible refine (laws_eqChangeS.calls kj16 _ _ t364 _ _ t376 true _ ?side1 ?side2 ?side3 ?side4 A41.out).mono ?_); (case side1 => exact cU (Kd.R_reads' HO_11.out).2.2); (case side2 => exact (Kd.R_reads' HO_11.out).2.1); (case side3 => exact cU (Kd.R_reads' HO378.out).2.2); (case side4 => exact (Kd.R_reads' HO378.out).2.1); rintro e w51 ⟨rfl, hb⟩; refine ⟨_, rfl, ?_⟩; replace HO_10 := Aside0.mk (Kd.R_below (rU HO_10.out) hb); replace HO_11 := Aside0.mk (Kd.R_below (rU HO_11.out) hb); replace HO_12 := Aside0.mk (Kd.R_below (rU HO_12.out) hb); replace HO374 := Aside0.mk (Kd.R_below (rU HO374.out) hb); replace HO378 := Aside0.mk (Kd.R_below (rU HO378.out) hb); replace HB := bH (lU) hb; (try clear hb)) | ((with_reducible refine gate_callee (f := 14) rfl ?_); refine goesL_ (some 70) rfl rfl Try.func14 (by kernel_rfl) rfl #[.slice Ao27 t361.length co27, .int .i64 1] rfl aE ?_; (with_reducible refine (laws_markValueS.calls kj16 (fun k_ => some k_ = (.slice Ao27 t361.length co27 : Value).ownBlock) (.slice Ao27 t361.length co27) t361 1 t380 t381 w _ ?side1 ?side2 A43.out).mono ?_); (case side1 => repeat (first | (with_reducible first | exact HB.out | apply below_alloc | apply pw_below_drewN | apply below_drew1) | exact HB.out)); (case side2 => exact Kd.R_tight rfl HO_10.out); rintro e w52 ⟨rfl, hy0, hb, hkp⟩; refine ⟨_, rfl, ?_⟩; replace HO_11 := Aside0.mk (Kd.R_mono (ok' := fun k_ => some k_ ≠ (.slice Ao50 t376.length co50 : Value).ownBlock) (Kd.R_keptB ((Kd.R_apart' HO_11.out (Kd.R_typed HO_10.out) (by decide))) hkp (fun k_ hk_ hs_ => (hk_.2) hs_)) (fun k_ hk_ => hk_.1.1.2)); replace HO_12 := Aside0.mk (Kd.R_mono (ok' := fun k_ => some k_ ≠ (.slice Ao27 t361.length co27 : Value).ownBlock ∧ some k_ ≠ (.slice Ao47 t372.length co47 : Value).ownBlock) (Kd.R_keptB (HO_12.out) hkp (fun k_ hk_ hs_ => (hk_.1) hs_)) (fun k_ hk_ => ⟨hk_.1.1, hk_.1.2⟩)); replace HO374 := Aside0.mk (Kd.R_mono (ok' := fun k_ => some k_ ≠ (.slice Ao27 t361.length co27 : Value).ownBlock ∧ some k_ ≠ (v369 : Value).ownBlock) (Kd.R_keptB (HO374.out) hkp (fun k_ hk_ hs_ => (hk_.1.2) hs_)) (fun k_ hk_ => ⟨hk_.1.1.2, hk_.1.2⟩)); replace HO378 := Aside0.mk (Kd.R_mono (ok' := fun k_ => some k_ ≠ (.slice Ao28 t364.length co28 : Value).ownBlock) (Kd.R_keptB ((Kd.R_apart' HO378.out (Kd.R_typed HO_10.out) (by decide))) hkp (fun k_ hk_ hs_ => (hk_.2) hs_)) (fun k_ hk_ => hk_.1.1.2)); replace HO_10 := Aside0.mk (Kd.R_reok rfl hy0 (fun k_ e_ => HO_10.out.1 k_ e_)); replace HB := Aside0.mk hb; (try clear hb); (try clear hkp); (try clear hg_); (try clear hp_); (try clear hy0)) | ((with_reducible refine gate_callee (f := 15) rfl ?_); refine goesL_ (some 73) rfl rfl Try.func15 (by kernel_rfl) rfl #[.slice Ao28 t364.length co28, .int .i64 t380] rfl aE ?_; (with_reducible refine (laws_markChangeS.calls kj16 (fun k_ => some k_ = (.slice Ao28 t364.length co28 : Value).ownBlock) (.slice Ao28 t364.length co28) t364 t380 t382 t383 w _ ?side1 ?side2 A44.out).mono ?_); (case side1 => repeat (first | (with_reducible first | exact HB.out | apply below_alloc | apply pw_below_drewN | apply below_drew1) | exact HB.out)); (case side2 => exact Kd.R_tight rfl HO_11.out); rintro e w53 ⟨rfl, hy0, hb, hkp⟩; refine ⟨_, rfl, ?_⟩; replace HO_10 := Aside0.mk (Kd.R_mono (ok' := fun k_ => some k_ ≠ (v369 : Value).ownBlock ∧ some k_ ≠ (.slice Ao47 t372.length co47 : Value).ownBlock) (Kd.R_keptB ((Kd.R_apart' HO_10.out (Kd.R_typed HO_11.out) (by decide))) hkp (fun k_ hk_ hs_ => (hk_.2) hs_)) (fun k_ hk_ => ⟨hk_.1.1.1, hk_.1.1.2⟩)); replace HO_12 := Aside0.mk (Kd.R_mono (ok' := fun k_ => some k_ ≠ (.slice Ao27 t361.length co27 : Value).ownBlock ∧ some k_ ≠ (.slice Ao47 t372.length co47 : Value).ownBlock) (Kd.R_keptB ((Kd.R_apart' HO_12.out (Kd.R_typed HO_11.out) (by decide))) hkp (fun k_ hk_ hs_ => (hk_.2) hs_)) (fun k_ hk_ => ⟨hk_.1.1.1, hk_.1.1.2⟩)); replace HO374 := Aside0.mk (Kd.R_mono (ok' := fun k_ => some k_ ≠ (.slice Ao27 t361.length co27 : Value).ownBlock ∧ some k_ ≠ (v369 : Value).ownBlock) (Kd.R_keptB ((Kd.R_apart' HO374.out (Kd.R_typed HO_11.out) (by decide))) hkp (fun k_ hk_ hs_ => (hk_.2) hs_)) (fun k_ hk_ => ⟨hk_.1.1.1, hk_.1.1.2⟩)); replace HO_11 := Aside0.mk (Kd.R_reok rfl hy0 (fun k_ e_ => HO_11.out.1 k_ e_)); replace HO378 := Aside0.mk (Kd.R_mono (ok' := fun k_ => some k_ ≠ (.slice Ao28 t364.length co28 : Value).ownBlock) (Kd.R_keptB (HO378.out) hkp (fun k_ hk_ hs_ => (hk_) hs_)) (fun k_ hk_ => hk_.1)); replace HB := Aside0.mk hb; (try clear hb); (try clear hkp); (try clear hg_); (try clear hp_); (try clear hy0)))
        (try simp only [Act.put, List.setIfInBounds_toArray, List.set_cons_zero, List.set_cons_succ])
        go_cut [86] (fun v86 wc => ∃ (kq : Nat) (x86_44 : Bool), v86 = .bool x86_44 ∧ Aside0 (laws_FnExactMigrateSave.j1 kq a0 l1 l2 t357 t358 t367 x86_44 = some r) ∧ Aside0 (kq ≤ kj16) ∧ Aside0 (Kd.R k59 59 wc w.heap.size (fun _ => True) v369 t367) ∧ Aside0 (Below w.heap.size w wc))
        case first =>
         have H := HC45.out
         clear HC45
         by_cases c54 : t382 < 0
         ·rw [if_pos c54] at H
          have c54b0 : decide (t382 < 0) = true := decide_eq_true c54
          clear c54
          (first | rw [c54b0] | (simp only [i64_w, i32_w]; rw [c54b0]) | (rw [c54b2]; simp only [Bool.not_false, Bool.not_true]) | skip)
          have H' := Aside0.mk H
          clear H
          go_wp2
          go_meet
          case rel => exact ⟨_, (true), tE, H', ⟨by have := HJ16.out; first | omega | exact Nat.le_refl _⟩, ⟨by (with_reducible repeat (first | apply Kd.R_alloc | apply Kd.R_drewN | apply Kd.R_drew)); exact Kd.R_mono HO_12.out (fun _ hk => trivial)⟩, ⟨by repeat (first | (with_reducible first | exact HB.out | apply below_alloc | apply pw_below_drewN | apply below_drew1) | exact HB.out)⟩⟩
         ·rw [if_neg c54] at H
          have c54b0 : decide (t382 < 0) = false := decide_eq_false c54
          clear c54
          (first | rw [c54b0] | (simp only [i64_w, i32_w]; rw [c54b0]) | (rw [c54b2]; simp only [Bool.not_false, Bool.not_true]) | skip)
          replace H := Option.bind_eq_some_iff.mp H
          obtain ⟨t384, A550, H⟩ := H
          replace H : (if t384 = true then (laws_FnExactMigrateSave.j1 kj16 a0 l1 l2 t357 t358 t367 (t368 != t358)) else (laws_FnExactMigrateSave.j1 kj16 a0 l1 l2 t357 t358 t367 true)) = some r := H
          have A55 := Aside0.mk A550
          clear A550
          by_cases c56 : t384 = true
          ·subst c56
           have H1 : (laws_FnExactMigrateSave.j1 kj16 a0 l1 l2 t357 t358 t367 (t368 != t358)) = some r := by rw [if_pos rfl] at H; exact H
           clear H
           have H := H1
           clear H1
           have H' := Aside0.mk H
           clear H
           obtain ⟨Ao57, co57, eo57⟩ := Kd.R_slice HO_12.out
           subst eo57
           go_wp2_with (first | (go_at_call 12; (with_reducible refine (laws_eqValueS.calls kj16 _ _ t367 _ _ t357 true _ ?side1 ?side2 ?side3 ?side4 A55.out).mono ?_); (case side1 => exact cU (Kd.R_reads' HO_12.out).2.2); (case side2 => exact (Kd.R_reads' HO_12.out).2.1); (case side3 => exact cU (Kd.C_below HR360.out HB.out)); (case side4 => exact HC360.out); rintro e w58 ⟨rfl, hb⟩; replace HO_10 := Aside0.mk (Kd.R_below (rU HO_10.out) hb); replace HO_11 := Aside0.mk (Kd.R_below (rU HO_11.out) hb); replace HO_12 := Aside0.mk (Kd.R_below (rU HO_12.out) hb); replace HO374 := Aside0.mk (Kd.R_below (rU HO374.out) hb); replace HO378 := Aside0.mk (Kd.R_below (rU HO378.out) hb); replace HB := bH (lU) hb; (try clear hb)))
           go_meet
           case rel => exact ⟨_, ((t368 != t358)), tE, H', ⟨by have := HJ16.out; first | omega | exact Nat.le_refl _⟩, ⟨by (with_reducible repeat (first | apply Kd.R_alloc | apply Kd.R_drewN | apply Kd.R_drew)); exact Kd.R_mono HO_12.out (fun _ hk => trivial)⟩, ⟨by repeat (first | (with_reducible first | exact HB.out | apply below_alloc | apply pw_below_drewN | apply below_drew1) | exact HB.out)⟩⟩
          ·replace c56 := Bool.eq_false_iff.mpr c56
           subst c56
           have H1 : (laws_FnExactMigrateSave.j1 kj16 a0 l1 l2 t357 t358 t367 true) = some r := by rw [if_neg (show ¬ (false = true) by decide)] at H; exact H
           clear H
           have H := H1
           clear H1
           have H' := Aside0.mk H
           clear H
           obtain ⟨Ao59, co59, eo59⟩ := Kd.R_slice HO_12.out
           subst eo59
           go_wp2_with (first | (go_at_call 12; (with_reducible refine (laws_eqValueS.calls kj16 _ _ t367 _ _ t357 false _ ?side1 ?side2 ?side3 ?side4 A55.out).mono ?_); (case side1 => exact cU (Kd.R_reads' HO_12.out).2.2); (case side2 => exact (Kd.R_reads' HO_12.out).2.1); (case side3 => exact cU (Kd.C_below HR360.out HB.out)); (case side4 => exact HC360.out); rintro e w60 ⟨rfl, hb⟩; replace HO_10 := Aside0.mk (Kd.R_below (rU HO_10.out) hb); replace HO_11 := Aside0.mk (Kd.R_below (rU HO_11.out) hb); replace HO_12 := Aside0.mk (Kd.R_below (rU HO_12.out) hb); replace HO374 := Aside0.mk (Kd.R_below (rU HO374.out) hb); replace HO378 := Aside0.mk (Kd.R_below (rU HO378.out) hb); replace HB := bH (lU) hb; (try clear hb)))
           go_meet
           case rel => exact ⟨_, (true), tE, H', ⟨by have := HJ16.out; first | omega | exact Nat.le_refl _⟩, ⟨by (with_reducible repeat (first | apply Kd.R_alloc | apply Kd.R_drewN | apply Kd.R_drew)); exact Kd.R_mono HO_12.out (fun _ hk => trivial)⟩, ⟨by repeat (first | (with_reducible first | exact HB.out | apply below_alloc | apply pw_below_drewN | apply below_drew1) | exact HB.out)⟩⟩
        case rest =>
         clear HC45
         try clear c1
         try clear c2
         try clear p2
         try clear c3
         try clear c4
         try clear c5
         try clear c5b0
         try clear c6
         try clear c7
         try clear c8
         try clear c8b0
         try clear c9
         try clear c10
         try clear c11
         try clear c12
         try clear c13
         try clear c14
         try clear c15
         try clear c31
         try clear c36
         try clear c39
         try clear c42
         try clear c54
         try clear c54b0
         try clear c54b2
         try clear c56
         try clear p2
         obtain ⟨kq, x86_44, rfl, HA, HJ44, HO_12, HB⟩ := hcut
         cases kq with
         | zero => exact absurd HA.out (by simp [laws_FnExactMigrateSave.j1])
         | succ kj44 =>
          have H := HA.out
          clear HA
          simp only [laws_FnExactMigrateSave.j1] at H
          by_cases c61 : x86_44 = true
          ·subst c61
           have H1 : (some false) = some r := by rw [if_pos rfl] at H; exact H
           clear H
           have H := H1
           clear H1
           obtain rfl := Option.some.inj H
           go_wp2
           go_ret
           exact ⟨eE, (by first | exact below_step HB00.out (lU) | exact (lU))⟩
          ·replace c61 := Bool.eq_false_iff.mpr c61
           subst c61
           have H1 : ((laws_markValueS.f kj44 t367 1).bind fun bt385 => ((laws_heldValueS.f kj44 bt385.2 1).bind fun t387 => (if t387 < 0 then (some false) else (if t387 = bt385.1 then ((laws_toValueS.f kj44 l1).bind fun t388 => ((laws_toChangeS.f kj44 l2).bind fun t391 => ((impl_MigrateSave.f kj44 a0 t388 t391).bind fun bt394 => ((laws_eqValueS.f kj44 bt394.1 t357).bind fun t398 => (if t398 = true then (laws_FnExactMigrateSave.j2 kj44 bt385.2 bt385.1 (bt394.2 != t358)) else (laws_FnExactMigrateSave.j2 kj44 bt385.2 bt385.1 true)))))) else (some false))))) = some r := by rw [if_neg (show ¬ (false = true) by decide)] at H; exact H
           clear H
           have H := H1
           clear H1
           replace H := Option.bind_eq_some_iff.mp H
           obtain ⟨⟨t385, t386⟩, A620, H⟩ := H
           replace H : ((laws_heldValueS.f kj44 t386 1).bind fun t387 => (if t387 < 0 then (some false) else (if t387 = t385 then ((laws_toValueS.f kj44 l1).bind fun t388 => ((laws_toChangeS.f kj44 l2).bind fun t391 => ((impl_MigrateSave.f kj44 a0 t388 t391).bind fun bt394 => ((laws_eqValueS.f kj44 bt394.1 t357).bind fun t398 => (if t398 = true then (laws_FnExactMigrateSave.j2 kj44 t386 t385 (bt394.2 != t358)) else (laws_FnExactMigrateSave.j2 kj44 t386 t385 true)))))) else (some false)))) = some r := H
           have A62 := Aside0.mk A620
           clear A620
           replace H := Option.bind_eq_some_iff.mp H
           obtain ⟨t387, A630, H⟩ := H
           replace H : (if t387 < 0 then (some false) else (if t387 = t385 then ((laws_toValueS.f kj44 l1).bind fun t388 => ((laws_toChangeS.f kj44 l2).bind fun t391 => ((impl_MigrateSave.f kj44 a0 t388 t391).bind fun bt394 => ((laws_eqValueS.f kj44 bt394.1 t357).bind fun t398 => (if t398 = true then (laws_FnExactMigrateSave.j2 kj44 t386 t385 (bt394.2 != t358)) else (laws_FnExactMigrateSave.j2 kj44 t386 t385 true)))))) else (some false))) = some r := H
           have A63 := Aside0.mk A630
           clear A630
           by_cases c64 : t387 < 0
           ·rw [if_pos c64] at H
            have c64b0 : decide (t387 < 0) = true := decide_eq_true c64
            clear c64
            obtain rfl := Option.some.inj H
            obtain ⟨Ao65, co65, eo65⟩ := Kd.R_slice HO_12.out
            subst eo65
            go_wp2_with (first | ((with_reducible refine gate_callee (f := 14) rfl ?_); refine goesL_ (some 89) rfl rfl Try.func14 (by kernel_rfl) rfl #[.slice Ao65 t367.length co65, .int .i64 1] rfl aE ?_; (with_reducible refine (laws_markValueS.calls kj44 (fun k_ => some k_ = (.slice Ao65 t367.length co65 : Value).ownBlock) (.slice Ao65 t367.length co65) t367 1 t385 t386 w _ ?side1 ?side2 A62.out).mono ?_); (case side1 => repeat (first | (with_reducible first | exact HB.out | apply below_alloc | apply pw_below_drewN | apply below_drew1) | exact HB.out)); (case side2 => exact Kd.R_tight rfl HO_12.out); rintro e w66 ⟨rfl, hy0, hb, hkp⟩; refine ⟨_, rfl, ?_⟩; replace HO_12 := Aside0.mk (Kd.R_reok rfl hy0 (fun k_ e_ => HO_12.out.1 k_ e_)); replace HB := Aside0.mk hb; (try clear hb); (try clear hkp); (try clear hg_); (try clear hp_); (try clear hy0)) | ((with_reducible refine gate_callee (f := 16) rfl ?_); refine goesL_ (some 92) rfl rfl Try.func16 (by kernel_rfl) rfl #[.slice Ao65 t386.length co65, .int .i64 1] rfl (by (try simp only [List.map_toArray, List.map_cons, List.map_nil]); first | done | (rw [show t386.length = t367.length from (Kd.R_reads' HO_12.out).1.symm] <;> rfl) | rfl | (simp only [List.length_drop, List.length_take]; rfl)) ?_; (with_reducible refine (laws_heldValueS.calls kj44 _ _ t386 1 t387 _ ?side1 ?side2 A63.out).mono ?_); (case side1 => exact cU (Kd.R_reads' HO_12.out).2.2); (case side2 => rw [show t386.length = t367.length from (Kd.R_reads' HO_12.out).1.symm]; exact (Kd.R_reads' HO_12.out).2.1); rintro e w67 ⟨rfl, hb⟩; refine ⟨_, rfl, ?_⟩; replace HO_12 := Aside0.mk (Kd.R_below (rU HO_12.out) hb); replace HB := bH (lU) hb; (try clear hb)))
            go_ret
            exact ⟨eE, (by first | exact below_step HB00.out (lU) | exact (lU))⟩
           ·rw [if_neg c64] at H
            have c64b0 : decide (t387 < 0) = false := decide_eq_false c64
            clear c64
            by_cases c68 : t387 = t385
            ·rw [if_pos c68] at H
             have c68b0 : (t387 == t385) = true := beq_iff_eq.mpr c68
             have c68b1 : (t387 != t385) = false := bne_eq_false_iff_eq.mpr c68
             clear c68
             replace H := Option.bind_eq_some_iff.mp H
             obtain ⟨t388, A690, H⟩ := H
             replace H : ((laws_toChangeS.f kj44 l2).bind fun t391 => ((impl_MigrateSave.f kj44 a0 t388 t391).bind fun bt394 => ((laws_eqValueS.f kj44 bt394.1 t357).bind fun t398 => (if t398 = true then (laws_FnExactMigrateSave.j2 kj44 t386 t385 (bt394.2 != t358)) else (laws_FnExactMigrateSave.j2 kj44 t386 t385 true))))) = some r := H
             have A69 := Aside0.mk A690
             clear A690
             replace H := Option.bind_eq_some_iff.mp H
             obtain ⟨t391, A700, H⟩ := H
             replace H : ((impl_MigrateSave.f kj44 a0 t388 t391).bind fun bt394 => ((laws_eqValueS.f kj44 bt394.1 t357).bind fun t398 => (if t398 = true then (laws_FnExactMigrateSave.j2 kj44 t386 t385 (bt394.2 != t358)) else (laws_FnExactMigrateSave.j2 kj44 t386 t385 true)))) = some r := H
             have A70 := Aside0.mk A700
             clear A700
             replace H := Option.bind_eq_some_iff.mp H
             obtain ⟨⟨t394, t395⟩, A710, H⟩ := H
             replace H : ((laws_eqValueS.f kj44 t394 t357).bind fun t398 => (if t398 = true then (laws_FnExactMigrateSave.j2 kj44 t386 t385 (t395 != t358)) else (laws_FnExactMigrateSave.j2 kj44 t386 t385 true))) = some r := H
             have A71 := Aside0.mk A710
             clear A710
             have HC72 := Aside0.mk H
             clear H
             obtain ⟨Ao73, co73, eo73⟩ := Kd.R_slice HO_12.out
             subst eo73
             go_upto_region 32 with (first | ((with_reducible refine gate_callee (f := 14) rfl ?_); refine goesL_ (some 89) rfl rfl Try.func14 (by kernel_rfl) rfl #[.slice Ao73 t367.length co73, .int .i64 1] rfl aE ?_; (with_reducible refine (laws_markValueS.calls kj44 (fun k_ => some k_ = (.slice Ao73 t367.length co73 : Value).ownBlock) (.slice Ao73 t367.length co73) t367 1 t385 t386 w _ ?side1 ?side2 A62.out).mono ?_); (case side1 => repeat (first | (with_reducible first | exact HB.out | apply below_alloc | apply pw_below_drewN | apply below_drew1) | exact HB.out)); (case side2 => exact Kd.R_tight rfl HO_12.out); rintro e w74 ⟨rfl, hy0, hb, hkp⟩; refine ⟨_, rfl, ?_⟩; replace HO_12 := Aside0.mk (Kd.R_reok rfl hy0 (fun k_ e_ => HO_12.out.1 k_ e_)); replace HB := Aside0.mk hb; (try clear hb); (try clear hkp); (try clear hg_); (try clear hp_); (try clear hy0)) | ((with_reducible refine gate_callee (f := 16) rfl ?_); refine goesL_ (some 92) rfl rfl Try.func16 (by kernel_rfl) rfl #[.slice Ao73 t386.length co73, .int .i64 1] rfl (by (try simp only [List.map_toArray, List.map_cons, List.map_nil]); first | done | (rw [show t386.length = t367.length from (Kd.R_reads' HO_12.out).1.symm] <;> rfl) | rfl | (simp only [List.length_drop, List.length_take]; rfl)) ?_; (with_reducible refine (laws_heldValueS.calls kj44 _ _ t386 1 t387 _ ?side1 ?side2 A63.out).mono ?_); (case side1 => exact cU (Kd.R_reads' HO_12.out).2.2); (case side2 => rw [show t386.length = t367.length from (Kd.R_reads' HO_12.out).1.symm]; exact (Kd.R_reads' HO_12.out).2.1); rintro e w75 ⟨rfl, hb⟩; refine ⟨_, rfl, ?_⟩; replace HO_12 := Aside0.mk (Kd.R_below (rU HO_12.out) hb); replace HB := bH (lU) hb; (try clear hb)) | ((with_reducible refine gate_callee (f := 9) rfl ?_); refine goesL_ (some 101) rfl rfl Try.func9 (by kernel_rfl) rfl #[.slice A1 l1.length c1] rfl aE ?_; (with_reducible refine (laws_toValueS.calls kj44 _ _ l1 t388 _ ?side1 ?side2 A69.out).mono ?_); (case side1 => exact cU (Kd.C_below HR1.out HB.out)); (case side2 => exact HC1.out); rintro e w76 ⟨v389, rfl, ho0, hb⟩; refine ⟨_, rfl, ?_⟩; have HO390 := Aside0.mk (Kd.R_lower (Kd.R_new' ho0 (Kd.R_lt (rU HO_12.out))) (below_size (lU))); replace HO_12 := Aside0.mk (Kd.R_elder' (rU HO_12.out) (Kd.R_base ho0) hb); replace HB := bH (lU) hb; (try clear hb); (try clear ho0)) | ((with_reducible refine gate_callee (f := 10) rfl ?_); refine goesL_ (some 103) rfl rfl Try.func10 (by kernel_rfl) rfl #[.slice A2 l2.length c2] rfl aE ?_; (with_reducible refine (laws_toChangeS.calls kj44 _ _ l2 t391 _ ?side1 ?side2 A70.out).mono ?_); (case side1 => exact cU (Kd.C_below HR2.out HB.out)); (case side2 => exact HC2.out); rintro e w77 ⟨v392, rfl, ho0, hb⟩; refine ⟨_, rfl, ?_⟩; replace HO_12 := Aside0.mk (Kd.R_below (rU HO_12.out) hb); replace HO390 := Aside0.mk (Kd.R_below (rU HO390.out) hb); have HO393 := Aside0.mk (Kd.R_lower ho0 (below_size (lU))); replace HB := bH (lU) hb; (try clear hb); (try clear ho0); obtain ⟨Ao78, co78, eo78⟩ := Kd.R_slice HO390.out; subst eo78; obtain ⟨Ao79, co79, eo79⟩ := Kd.R_slice HO393.out; subst eo79) | ((with_reducible refine gate_callee (f := 11) rfl ?_); refine goesL_ (some 104) rfl rfl Try.func11 (by kernel_rfl) rfl #[.int .i64 a0, .slice Ao78 t388.length co78, .slice Ao79 t391.length co79] rfl aE ?_; (with_reducible refine (impl_MigrateSave.calls kj44 a0 _ _ t388 _ _ t391 t394 t395 _ ?side1 ?side2 ?side3 ?side4 A71.out).mono ?_); (case side1 => exact cU (Kd.R_reads' HO390.out).2.2); (case side2 => exact (Kd.R_reads' HO390.out).2.1); (case side3 => exact cU (Kd.R_reads' HO393.out).2.2); (case side4 => exact (Kd.R_reads' HO393.out).2.1); rintro e w80 ⟨v396, rfl, ho0, hb⟩; refine ⟨_, rfl, ?_⟩; replace HO393 := Aside0.mk (Kd.R_below (rU HO393.out) hb); have HO397 := Aside0.mk (Kd.R_lower (Kd.R_new' (Kd.R_new' ho0 (Kd.R_lt (rU HO_12.out))) (Kd.R_lt (rU HO390.out))) (below_size (lU))); replace HO_12 := Aside0.mk (Kd.R_elder' (rU HO_12.out) (Kd.R_base ho0) hb); replace HO390 := Aside0.mk (Kd.R_elder' (rU HO390.out) (Kd.R_base ho0) hb); replace HB := bH (lU) hb; (try clear hb); (try clear ho0)))
             (try simp only [Act.put, List.setIfInBounds_toArray, List.set_cons_zero, List.set_cons_succ])
             go_cut [115] (fun v115 wc => ∃ (kq : Nat) (x115_71 : Bool), v115 = .bool x115_71 ∧ Aside0 (laws_FnExactMigrateSave.j2 kq t386 t385 x115_71 = some r) ∧ Aside0 (kq ≤ kj44) ∧ Aside0 (Kd.R k59 59 wc w.heap.size (fun _ => True) (.slice Ao73 t367.length co73) t386) ∧ Aside0 (Below w.heap.size w wc))
             case first =>
              have H := HC72.out
              clear HC72
              replace H := Option.bind_eq_some_iff.mp H
              obtain ⟨t398, A810, H⟩ := H
              replace H : (if t398 = true then (laws_FnExactMigrateSave.j2 kj44 t386 t385 (t395 != t358)) else (laws_FnExactMigrateSave.j2 kj44 t386 t385 true)) = some r := H
              have A81 := Aside0.mk A810
              clear A810
              by_cases c82 : t398 = true
              ·subst c82
               have H1 : (laws_FnExactMigrateSave.j2 kj44 t386 t385 (t395 != t358)) = some r := by rw [if_pos rfl] at H; exact H
               clear H
               have H := H1
               clear H1
               have H' := Aside0.mk H
               clear H
               obtain ⟨Ao83, co83, eo83⟩ := Kd.R_slice HO397.out
               subst eo83
               go_wp2_with (first | ((with_reducible refine gate_callee (f := 12) rfl ?_); refine goesL_ (some 109) rfl rfl Try.func12 (by kernel_rfl) rfl #[.slice Ao83 t394.length co83, .slice A360 t357.length c360] rfl aE ?_; (with_reducible refine (laws_eqValueS.calls kj44 _ _ t394 _ _ t357 true _ ?side1 ?side2 ?side3 ?side4 A81.out).mono ?_); (case side1 => exact cU (Kd.R_reads' HO397.out).2.2); (case side2 => exact (Kd.R_reads' HO397.out).2.1); (case side3 => exact cU (Kd.C_below HR360.out HB.out)); (case side4 => exact HC360.out); rintro e w84 ⟨rfl, hb⟩; refine ⟨_, rfl, ?_⟩; replace HO_12 := Aside0.mk (Kd.R_below (rU HO_12.out) hb); replace HO390 := Aside0.mk (Kd.R_below (rU HO390.out) hb); replace HO393 := Aside0.mk (Kd.R_below (rU HO393.out) hb); replace HO397 := Aside0.mk (Kd.R_below (rU HO397.out) hb); replace HB := bH (lU) hb; (try clear hb)))
               go_meet
               case rel => exact ⟨_, ((t395 != t358)), tE, H', ⟨by have := HJ16.out; have := HJ44.out; first | omega | exact Nat.le_refl _⟩, ⟨by (with_reducible repeat (first | apply Kd.R_alloc | apply Kd.R_drewN | apply Kd.R_drew)); exact Kd.R_mono HO_12.out (fun _ hk => trivial)⟩, ⟨by repeat (first | (with_reducible first | exact HB.out | apply below_alloc | apply pw_below_drewN | apply below_drew1) | exact HB.out)⟩⟩
              ·replace c82 := Bool.eq_false_iff.mpr c82
               subst c82
               have H1 : (laws_FnExactMigrateSave.j2 kj44 t386 t385 true) = some r := by rw [if_neg (show ¬ (false = true) by decide)] at H; exact H
               clear H
               have H := H1
               clear H1
               have H' := Aside0.mk H
               clear H
               obtain ⟨Ao85, co85, eo85⟩ := Kd.R_slice HO397.out
               subst eo85
               go_wp2_with (first | ((with_reducible refine gate_callee (f := 12) rfl ?_); refine goesL_ (some 109) rfl rfl Try.func12 (by kernel_rfl) rfl #[.slice Ao85 t394.length co85, .slice A360 t357.length c360] rfl aE ?_; (with_reducible refine (laws_eqValueS.calls kj44 _ _ t394 _ _ t357 false _ ?side1 ?side2 ?side3 ?side4 A81.out).mono ?_); (case side1 => exact cU (Kd.R_reads' HO397.out).2.2); (case side2 => exact (Kd.R_reads' HO397.out).2.1); (case side3 => exact cU (Kd.C_below HR360.out HB.out)); (case side4 => exact HC360.out); rintro e w86 ⟨rfl, hb⟩; refine ⟨_, rfl, ?_⟩; replace HO_12 := Aside0.mk (Kd.R_below (rU HO_12.out) hb); replace HO390 := Aside0.mk (Kd.R_below (rU HO390.out) hb); replace HO393 := Aside0.mk (Kd.R_below (rU HO393.out) hb); replace HO397 := Aside0.mk (Kd.R_below (rU HO397.out) hb); replace HB := bH (lU) hb; (try clear hb)))
               go_meet
               case rel => exact ⟨_, (true), tE, H', ⟨by have := HJ16.out; have := HJ44.out; first | omega | exact Nat.le_refl _⟩, ⟨by (with_reducible repeat (first | apply Kd.R_alloc | apply Kd.R_drewN | apply Kd.R_drew)); exact Kd.R_mono HO_12.out (fun _ hk => trivial)⟩, ⟨by repeat (first | (with_reducible first | exact HB.out | apply below_alloc | apply pw_below_drewN | apply below_drew1) | exact HB.out)⟩⟩
             case rest =>
              clear HC72
              try clear c1
              try clear c2
              try clear p2
              try clear c3
              try clear c4
              try clear c5
              try clear c5b0
              try clear c6
              try clear c7
              try clear c8
              try clear c8b0
              try clear c9
              try clear c10
              try clear c11
              try clear c12
              try clear c13
              try clear c14
              try clear c15
              try clear c16
              try clear c31
              try clear c36
              try clear c39
              try clear c42
              try clear c54
              try clear c54b0
              try clear c54b2
              try clear c56
              try clear c61
              try clear c64
              try clear c64b0
              try clear c68
              try clear c68b0
              try clear c68b1
              try clear c82
              try clear p2
              obtain ⟨kq, x115_71, rfl, HA, HJ71, HO_12, HB⟩ := hcut
              have hl12_71 := (Kd.R_reads' HO_12.out).1
              rw [hl12_71] at HO_12
              (try simp only [hl12_71])
              cases kq with
              | zero => exact absurd HA.out (by simp [laws_FnExactMigrateSave.j2])
              | succ kj71 =>
               have H := HA.out
               clear HA
               simp only [laws_FnExactMigrateSave.j2] at H
               by_cases c87 : x115_71 = true
               ·subst c87
                have H1 : (some false) = some r := by rw [if_pos rfl] at H; exact H
                clear H
                have H := H1
                clear H1
                obtain rfl := Option.some.inj H
                go_wp2
                go_ret
                exact ⟨eE, (by first | exact below_step HB00.out (lU) | exact (lU))⟩
               ·replace c87 := Bool.eq_false_iff.mpr c87
                subst c87
                have H1 : ((laws_heldValueS.f kj71 t386 1).bind fun t399 => (if t399 < 0 then (some false) else (if t399 = t385 then (some true) else (some false)))) = some r := by rw [if_neg (show ¬ (false = true) by decide)] at H; exact H
                clear H
                have H := H1
                clear H1
                replace H := Option.bind_eq_some_iff.mp H
                obtain ⟨t399, A880, H⟩ := H
                replace H : (if t399 < 0 then (some false) else (if t399 = t385 then (some true) else (some false))) = some r := H
                have A88 := Aside0.mk A880
                clear A880
                by_cases c89 : t399 < 0
                ·rw [if_pos c89] at H
                 have c89b0 : decide (t399 < 0) = true := decide_eq_true c89
                 clear c89
                 obtain rfl := Option.some.inj H
                 go_wp2_with (first | ((with_reducible refine gate_callee (f := 16) rfl ?_); refine goesL_ (some 118) rfl rfl Try.func16 (by kernel_rfl) rfl #[.slice Ao73 t386.length co73, .int .i64 1] rfl aE ?_; (with_reducible refine (laws_heldValueS.calls kj71 _ _ t386 1 t399 _ ?side1 ?side2 A88.out).mono ?_); (case side1 => exact cU (Kd.R_reads' HO_12.out).2.2); (case side2 => exact (Kd.R_reads' HO_12.out).2.1); rintro e w90 ⟨rfl, hb⟩; refine ⟨_, rfl, ?_⟩; replace HO_12 := Aside0.mk (Kd.R_below (rU HO_12.out) hb); replace HB := bH (lU) hb; (try clear hb)))
                 go_ret
                 exact ⟨eE, (by first | exact below_step HB00.out (lU) | exact (lU))⟩
                ·rw [if_neg c89] at H
                 have c89b0 : decide (t399 < 0) = false := decide_eq_false c89
                 clear c89
                 by_cases c91 : t399 = t385
                 ·rw [if_pos c91] at H
                  have c91b0 : (t399 == t385) = true := beq_iff_eq.mpr c91
                  have c91b1 : (t399 != t385) = false := bne_eq_false_iff_eq.mpr c91
                  clear c91
                  obtain rfl := Option.some.inj H
                  go_wp2_with (first | ((with_reducible refine gate_callee (f := 16) rfl ?_); refine goesL_ (some 118) rfl rfl Try.func16 (by kernel_rfl) rfl #[.slice Ao73 t386.length co73, .int .i64 1] rfl aE ?_; (with_reducible refine (laws_heldValueS.calls kj71 _ _ t386 1 t399 _ ?side1 ?side2 A88.out).mono ?_); (case side1 => exact cU (Kd.R_reads' HO_12.out).2.2); (case side2 => exact (Kd.R_reads' HO_12.out).2.1); rintro e w92 ⟨rfl, hb⟩; refine ⟨_, rfl, ?_⟩; replace HO_12 := Aside0.mk (Kd.R_below (rU HO_12.out) hb); replace HB := bH (lU) hb; (try clear hb)))
                  go_ret
                  exact ⟨eE, (by first | exact below_step HB00.out (lU) | exact (lU))⟩
                 ·rw [if_neg c91] at H
                  have c91b0 : (t399 == t385) = false := beq_eq_false_iff_ne.mpr c91
                  have c91b1 : (t399 != t385) = true := bne_iff_ne.mpr c91
                  obtain rfl := Option.some.inj H
                  go_wp2_with (first | ((with_reducible refine gate_callee (f := 16) rfl ?_); refine goesL_ (some 118) rfl rfl Try.func16 (by kernel_rfl) rfl #[.slice Ao73 t386.length co73, .int .i64 1] rfl aE ?_; (with_reducible refine (laws_heldValueS.calls kj71 _ _ t386 1 t399 _ ?side1 ?side2 A88.out).mono ?_); (case side1 => exact cU (Kd.R_reads' HO_12.out).2.2); (case side2 => exact (Kd.R_reads' HO_12.out).2.1); rintro e w93 ⟨rfl, hb⟩; refine ⟨_, rfl, ?_⟩; replace HO_12 := Aside0.mk (Kd.R_below (rU HO_12.out) hb); replace HB := bH (lU) hb; (try clear hb)))
                  go_ret
                  exact ⟨eE, (by first | exact below_step HB00.out (lU) | exact (lU))⟩
            ·rw [if_neg c68] at H
             have c68b0 : (t387 == t385) = false := beq_eq_false_iff_ne.mpr c68
             have c68b1 : (t387 != t385) = true := bne_iff_ne.mpr c68
             obtain rfl := Option.some.inj H
             obtain ⟨Ao94, co94, eo94⟩ := Kd.R_slice HO_12.out
             subst eo94
             go_wp2_with (first | ((with_reducible refine gate_callee (f := 14) rfl ?_); refine goesL_ (some 89) rfl rfl Try.func14 (by kernel_rfl) rfl #[.slice Ao94 t367.length co94, .int .i64 1] rfl aE ?_; (with_reducible refine (laws_markValueS.calls kj44 (fun k_ => some k_ = (.slice Ao94 t367.length co94 : Value).ownBlock) (.slice Ao94 t367.length co94) t367 1 t385 t386 w _ ?side1 ?side2 A62.out).mono ?_); (case side1 => repeat (first | (with_reducible first | exact HB.out | apply below_alloc | apply pw_below_drewN | apply below_drew1) | exact HB.out)); (case side2 => exact Kd.R_tight rfl HO_12.out); rintro e w95 ⟨rfl, hy0, hb, hkp⟩; refine ⟨_, rfl, ?_⟩; replace HO_12 := Aside0.mk (Kd.R_reok rfl hy0 (fun k_ e_ => HO_12.out.1 k_ e_)); replace HB := Aside0.mk hb; (try clear hb); (try clear hkp); (try clear hg_); (try clear hp_); (try clear hy0)) | ((with_reducible refine gate_callee (f := 16) rfl ?_); refine goesL_ (some 92) rfl rfl Try.func16 (by kernel_rfl) rfl #[.slice Ao94 t386.length co94, .int .i64 1] rfl (by (try simp only [List.map_toArray, List.map_cons, List.map_nil]); first | done | (rw [show t386.length = t367.length from (Kd.R_reads' HO_12.out).1.symm] <;> rfl) | rfl | (simp only [List.length_drop, List.length_take]; rfl)) ?_; (with_reducible refine (laws_heldValueS.calls kj44 _ _ t386 1 t387 _ ?side1 ?side2 A63.out).mono ?_); (case side1 => exact cU (Kd.R_reads' HO_12.out).2.2); (case side2 => rw [show t386.length = t367.length from (Kd.R_reads' HO_12.out).1.symm]; exact (Kd.R_reads' HO_12.out).2.1); rintro e w96 ⟨rfl, hb⟩; refine ⟨_, rfl, ?_⟩; replace HO_12 := Aside0.mk (Kd.R_below (rU HO_12.out) hb); replace HB := bH (lU) hb; (try clear hb)))
             go_ret
             exact ⟨eE, (by first | exact below_step HB00.out (lU) | exact (lU))⟩
       ·replace c42 := Bool.eq_false_iff.mpr c42
        subst c42
        have H1 : (some false) = some r := by rw [if_neg (show ¬ (false = true) by decide)] at H; exact H
        clear H
        have H := H1
        clear H1
        obtain rfl := Option.some.inj H
        go_wp2_with (first | ((with_reducible refine gate_callee (f := 9) rfl ?_); refine goesL_ (some 60) rfl rfl Try.func9 (by kernel_rfl) rfl #[.slice A1 l1.length c1] rfl aE ?_; (with_reducible refine (laws_toValueS.calls kj16 _ _ l1 t372 _ ?side1 ?side2 A37.out).mono ?_); (case side1 => exact cU (Kd.C_below HR1.out HB.out)); (case side2 => exact HC1.out); rintro e w97 ⟨v373, rfl, ho0, hb⟩; refine ⟨_, rfl, ?_⟩; replace HO_11 := Aside0.mk (Kd.R_below (rU HO_11.out) hb); have HO374 := Aside0.mk (Kd.R_lower (Kd.R_new' (Kd.R_new' ho0 (Kd.R_lt (rU HO_10.out))) (Kd.R_lt (rU HO_12.out))) (below_size (lU))); replace HO_10 := Aside0.mk (Kd.R_elder' (rU HO_10.out) (Kd.R_base ho0) hb); replace HO_12 := Aside0.mk (Kd.R_elder' (rU HO_12.out) (Kd.R_base ho0) hb); replace HB := bH (lU) hb; (try clear hb); (try clear ho0); obtain ⟨Ao98, co98, eo98⟩ := Kd.R_slice HO374.out; subst eo98) | ((with_reducible refine gate_callee (f := 12) rfl ?_); refine goesL_ (some 61) rfl rfl Try.func12 (by kernel_rfl) rfl #[.slice Ao27 t361.length co27, .slice Ao98 t372.length co98] rfl aE ?_; (with_reducible refine (laws_eqValueS.calls kj16 _ _ t361 _ _ t372 true _ ?side1 ?side2 ?side3 ?side4 A38.out).mono ?_); (case side1 => exact cU (Kd.R_reads' HO_10.out).2.2); (case side2 => exact (Kd.R_reads' HO_10.out).2.1); (case side3 => exact cU (Kd.R_reads' HO374.out).2.2); (case side4 => exact (Kd.R_reads' HO374.out).2.1); rintro e w99 ⟨rfl, hb⟩; refine ⟨_, rfl, ?_⟩; replace HO_10 := Aside0.mk (Kd.R_below (rU HO_10.out) hb); replace HO_11 := Aside0.mk (Kd.R_below (rU HO_11.out) hb); replace HO_12 := Aside0.mk (Kd.R_below (rU HO_12.out) hb); replace HO374 := Aside0.mk (Kd.R_below (rU HO374.out) hb); replace HB := bH (lU) hb; (try clear hb)) | ((with_reducible refine gate_callee (f := 10) rfl ?_); refine goesL_ (some 65) rfl rfl Try.func10 (by kernel_rfl) rfl #[.slice A2 l2.length c2] rfl aE ?_; (with_reducible refine (laws_toChangeS.calls kj16 _ _ l2 t376 _ ?side1 ?side2 A40.out).mono ?_); (case side1 => exact cU (Kd.C_below HR2.out HB.out)); (case side2 => exact HC2.out); rintro e w100 ⟨v377, rfl, ho0, hb⟩; refine ⟨_, rfl, ?_⟩; replace HO_10 := Aside0.mk (Kd.R_below (rU HO_10.out) hb); replace HO_12 := Aside0.mk (Kd.R_below (rU HO_12.out) hb); replace HO374 := Aside0.mk (Kd.R_below (rU HO374.out) hb); have HO378 := Aside0.mk (Kd.R_lower (Kd.R_new' ho0 (Kd.R_lt (rU HO_11.out))) (below_size (lU))); replace HO_11 := Aside0.mk (Kd.R_elder' (rU HO_11.out) (Kd.R_base ho0) hb); replace HB := bH (lU) hb; (try clear hb); (try clear ho0); obtain ⟨Ao101, co101, eo101⟩ := Kd.R_slice HO378.out; subst eo101) | ((with_reducible refine gate_callee (f := 13) rfl ?_); refine goesL_ (some 66) rfl rfl Try.func13 (by kernel_rfl) rfl #[.slice Ao28 t364.length co28, .slice Ao101 t376.length co101] rfl aE ?_; (with_reducible refine (laws_eqChangeS.calls kj16 _ _ t364 _ _ t376 false _ ?side1 ?side2 ?side3 ?side4 A41.out).mono ?_); (case side1 => exact cU (Kd.R_reads' HO_11.out).2.2); (case side2 => exact (Kd.R_reads' HO_11.out).2.1); (case side3 => exact cU (Kd.R_reads' HO378.out).2.2); (case side4 => exact (Kd.R_reads' HO378.out).2.1); rintro e w102 ⟨rfl, hb⟩; refine ⟨_, rfl, ?_⟩; replace HO_10 := Aside0.mk (Kd.R_below (rU HO_10.out) hb); replace HO_11 := Aside0.mk (Kd.R_below (rU HO_11.out) hb); replace HO_12 := Aside0.mk (Kd.R_below (rU HO_12.out) hb); replace HO374 := Aside0.mk (Kd.R_below (rU HO374.out) hb); replace HO378 := Aside0.mk (Kd.R_below (rU HO378.out) hb); replace HB := bH (lU) hb; (try clear hb)))
        go_ret
        exact ⟨eE, (by first | exact below_step HB00.out (lU) | exact (lU))⟩
      ·replace c39 := Bool.eq_false_iff.mpr c39
       subst c39
       have H1 : (some false) = some r := by rw [if_neg (show ¬ (false = true) by decide)] at H; exact H
       clear H
       have H := H1
       clear H1
       obtain rfl := Option.some.inj H
       go_wp2_with (first | ((with_reducible refine gate_callee (f := 9) rfl ?_); refine goesL_ (some 60) rfl rfl Try.func9 (by kernel_rfl) rfl #[.slice A1 l1.length c1] rfl aE ?_; (with_reducible refine (laws_toValueS.calls kj16 _ _ l1 t372 _ ?side1 ?side2 A37.out).mono ?_); (case side1 => exact cU (Kd.C_below HR1.out HB.out)); (case side2 => exact HC1.out); rintro e w103 ⟨v373, rfl, ho0, hb⟩; refine ⟨_, rfl, ?_⟩; replace HO_11 := Aside0.mk (Kd.R_below (rU HO_11.out) hb); have HO374 := Aside0.mk (Kd.R_lower (Kd.R_new' (Kd.R_new' ho0 (Kd.R_lt (rU HO_10.out))) (Kd.R_lt (rU HO_12.out))) (below_size (lU))); replace HO_10 := Aside0.mk (Kd.R_elder' (rU HO_10.out) (Kd.R_base ho0) hb); replace HO_12 := Aside0.mk (Kd.R_elder' (rU HO_12.out) (Kd.R_base ho0) hb); replace HB := bH (lU) hb; (try clear hb); (try clear ho0); obtain ⟨Ao104, co104, eo104⟩ := Kd.R_slice HO374.out; subst eo104) | ((with_reducible refine gate_callee (f := 12) rfl ?_); refine goesL_ (some 61) rfl rfl Try.func12 (by kernel_rfl) rfl #[.slice Ao27 t361.length co27, .slice Ao104 t372.length co104] rfl aE ?_; (with_reducible refine (laws_eqValueS.calls kj16 _ _ t361 _ _ t372 false _ ?side1 ?side2 ?side3 ?side4 A38.out).mono ?_); (case side1 => exact cU (Kd.R_reads' HO_10.out).2.2); (case side2 => exact (Kd.R_reads' HO_10.out).2.1); (case side3 => exact cU (Kd.R_reads' HO374.out).2.2); (case side4 => exact (Kd.R_reads' HO374.out).2.1); rintro e w105 ⟨rfl, hb⟩; refine ⟨_, rfl, ?_⟩; replace HO_10 := Aside0.mk (Kd.R_below (rU HO_10.out) hb); replace HO_11 := Aside0.mk (Kd.R_below (rU HO_11.out) hb); replace HO_12 := Aside0.mk (Kd.R_below (rU HO_12.out) hb); replace HO374 := Aside0.mk (Kd.R_below (rU HO374.out) hb); replace HB := bH (lU) hb; (try clear hb)))
       go_ret
       exact ⟨eE, (by first | exact below_step HB00.out (lU) | exact (lU))⟩
end Go.Proofs.Ytdgaphefgpjbfaa.PFnExactMigrateSave
namespace Go.Proofs.YtdgaphefgpjbfaaO
open Go.ChangeShapes Go.WideShapes Go.Proofs.YtdgaphefgpjbfaaW.PrintWords Go.RowKit
def In64 (n : Int) : Prop := -9223372036854775808 ≤ n ∧ n ≤ 9223372036854775807
def Opens {α : Type} (P : Program) (t : TypeId) (d : Kd α) (g : α → Prop) : Prop :=
  ∀ {H : Type} (enc : TypeId × Value → H) (w : World) (fuel : Nat) (cs : List Value) (y : DataW H) (ps : List MemPlace),
    DataW.trod enc P w 0 (fun _ => true) true fuel t cs = some (y, ps) → (∀ n ∈ y.weights P t, n ≤ reachBytes) → ∃ x, d.K w x cs ∧ g x
theorem Opens.imp {α : Type} {P : Program} {t : TypeId} {d : Kd α} {g g' : α → Prop} (h : Opens P t d g) (k : ∀ x, g x → g' x) : Opens P t d g' := by
  intro H enc w fuel cs y ps ht hw
  obtain ⟨x, hx, hg⟩ := h enc w fuel cs y ps ht hw
  exact ⟨x, hx, k x hg⟩
theorem opens_int {P : Program} {t : TypeId} {k : IntKind} (ht : P.underlying t = some (.int k)) : Opens P t (Kd.int k) (fun n => (Lit.int k n).wf = true) := by
  intro H enc w fuel cs y ps h _
  obtain ⟨n, rfl, _, hw⟩ := DataW.trod_int ht h
  exact ⟨n, rfl, hw⟩
theorem wf_i64 {n : Int} (h : (Lit.int .i64 n).wf = true) : In64 n := bounds_i64 h
theorem opens_i64 {P : Program} {t : TypeId} (ht : P.underlying t = some (.int .i64)) : Opens P t (Kd.int .i64) In64 := Opens.imp (opens_int ht) fun _ h => wf_i64 h
theorem opens_string {P : Program} {t : TypeId} (ht : P.underlying t = some .string) : Opens P t Kd.string (fun s => s.size ≤ 140737488351232) := by
  intro H enc w fuel cs y ps h hw
  obtain ⟨s, rfl, hx, _⟩ := DataW.trod_string ht h
  obtain ⟨rfl, _⟩ := Prod.mk.inj hx
  refine ⟨s, rfl, ?_⟩
  have := hw s.data.toList.length (by simp [DataW.weights])
  rw [Array.length_toList] at this
  exact this
theorem exists_list {α : Type} (p : Nat → α → Prop) : ∀ n : Nat, (∀ i, i < n → ∃ x, p i x) → ∃ xs : List α, xs.length = n ∧ ∀ i x, xs[i]? = some x → p i x
  | 0, _ => ⟨[], rfl, fun i x h => by simp at h⟩
  | n + 1, h => by
    obtain ⟨xs, hl, hx⟩ := exists_list p n (fun i hi => h i (by omega))
    obtain ⟨x, hp⟩ := h n (by omega)
    refine ⟨xs ++ [x], by simp [hl], fun i y hy => ?_⟩
    rcases Nat.lt_or_ge i xs.length with hi | hi
    · rw [List.getElem?_append_left hi] at hy
      exact hx i y hy
    · have : i = n := by
        have := (List.getElem?_eq_some_iff.1 hy).1
        rw [List.length_append, List.length_singleton] at this
        omega
      subst this
      rw [List.getElem?_append_right hi] at hy
      rw [hl] at hy
      simp at hy
      subst hy
      exact hp
theorem add_add (ad : Addr) (i j : Nat) : (ad.add i).add j = ad.add (i + j) := by
  unfold Addr.add
  by_cases h1 : i = 0 <;> by_cases h2 : j = 0 <;> simp [h1, h2, Nat.add_assoc]
theorem weightsAll_mem {H : Type} {P : Program} {e : TypeId} : ∀ {l : List (DataW H)} {d : DataW H}, d ∈ l → ∀ n ∈ d.weights P e, n ∈ DataW.weightsAll P e l
  | [], d, h, _, _ => by simp at h
  | x :: r, d, h, n, hn => by
    simp only [DataW.weightsAll, List.mem_append]
    rcases List.mem_cons.1 h with rfl | h
    · exact .inl hn
    · exact .inr (weightsAll_mem h n hn)
theorem opens_slice {α : Type} {P : Program} {t e : TypeId} {d : Kd α} {g : α → Prop} {B : Nat} (ht : P.underlying t = some (.slice e)) (hs : P.cellsOf e = d.sz) (hB : P.bytesOf e = B) (h : Opens P e d g) :
    Opens P t (Kd.slice e d) (fun xs => xs.length * B ≤ 140737488351232 ∧ ∀ x ∈ xs, g x) := by
  intro H enc w fuel cs y ps hy hw
  rcases DataW.trod_slice ht hy with ⟨rfl, _⟩ | ⟨a, len, cap, elems, rest, n, rfl, rfl, hx, _, hlc, hcm, hel, hget, _, _⟩
  · exact ⟨[], ⟨none, 0, rfl, Nat.le_refl _, Kd.C_nil d w⟩, by simp⟩
  · obtain ⟨rfl, _⟩ := Prod.mk.inj hx
    simp only [DataW.weights, ht] at hw
    have hlen : len * B ≤ 140737488351232 := by
      have := hw _ List.mem_cons_self
      simp only [List.length_map, hB] at this
      have h2 : len * B ≤ (elems.length + rest.length) * B := Nat.mul_le_mul_right _ (by omega)
      exact Nat.le_trans h2 this
    have key : ∀ i, i < len → ∃ x, (∃ c, c.length = d.sz ∧ d.K w x c ∧ ∀ j u, c[j]? = some u → w.cell? (a.add (i * d.sz + j)) = some u) ∧ g x := by
      intro i hi
      have hg := hget i hi
      rw [List.getElem?_eq_getElem (by omega), Option.bind_eq_some_iff] at hg
      obtain ⟨c, hc, hd⟩ := hg
      obtain ⟨_, hcl, hcell⟩ := World.cells?_some hc
      obtain ⟨x, hK, hgx⟩ := h enc w n c _ _ hd (fun m hm => hw m (List.mem_cons_of_mem _ (List.mem_append_left _ (weightsAll_mem (List.mem_map_of_mem (List.getElem_mem _)) m hm))))
      refine ⟨x, ⟨c, hcl.trans hs, hK, fun j u hj => ?_⟩, hgx⟩
      have hjl : j < P.cellsOf e := by
        have := (List.getElem?_eq_some_iff.1 hj).1
        omega
      have := hcell j hjl
      rw [add_add, hj, hs] at this
      exact this
    obtain ⟨xs, hxl, hxs⟩ := exists_list _ len key
    refine ⟨xs, ⟨some a, cap, by rw [hxl], by omega, hxl ▸ ⟨hxl, by simp only [maxLen] at hcm; omega, fun _ => ⟨a, rfl, fun j p hp => (hxs j p hp).1⟩⟩⟩, by rw [hxl]; exact hlen, fun x hx => ?_⟩
    obtain ⟨i, hi, rfl⟩ := List.getElem_of_mem hx
    exact (hxs i _ (List.getElem?_eq_getElem hi)).2
theorem opens_iso {α β : Type} {P : Program} {t : TypeId} {d : Kd α} {g : α → Prop} (f : β → α) (inv : α → β) (hi : ∀ x, f (inv x) = x) (h : Opens P t d g) : Opens P t (Kd.iso d f) (fun x => g (f x)) := by
  intro H enc w fuel cs y ps hy hw
  obtain ⟨x, hK, hg⟩ := h enc w fuel cs y ps hy hw
  refine ⟨inv x, ?_, ?_⟩
  · show d.K w (f (inv x)) cs
    rw [hi]; exact hK
  · show g (f (inv x))
    rw [hi]; exact hg
def OpensL {α : Type} (P : Program) (fs : List Field) (off : Nat) (d : Kd α) (g : α → Prop) : Prop :=
  ∀ {H : Type} (enc : TypeId × Value → H) (w : World) (n : Nat) (cs : List Value) (ys : List (DataW H × List MemPlace)), ys.length = fs.length →
    (∀ (i : Nat) (f : Field), fs[i]? = some f → DataW.trod enc P w 0 (fun _ => true) true n f.type ((cs.drop f.offset).take (P.cellsOf f.type)) = ys[i]?) →
    (∀ m ∈ DataW.weightsEach P (fs.map (·.type)) (ys.map (·.1)), m ≤ reachBytes) → ∃ x, d.K w x ((cs.drop off).take d.sz) ∧ g x
theorem opensL_one {α : Type} {P : Program} {f : Field} {off : Nat} {d : Kd α} {g : α → Prop} (ho : f.offset = off) (hs : P.cellsOf f.type = d.sz) (h : Opens P f.type d g) : OpensL P [f] off d g := by
  intro H enc w n cs ys hl hf hw
  match ys, hl with
  | [y], _ =>
    have h0 := hf 0 f rfl
    rw [ho, hs] at h0
    exact h enc w n _ y.1 y.2 h0 (fun m hm => hw m (by simp only [List.map_cons, DataW.weightsEach, List.mem_append]; exact .inl hm))
theorem opensL_cons {α β : Type} {P : Program} {f : Field} {fs : List Field} {off : Nat} {a : Kd α} {b : Kd β} {ga : α → Prop} {gb : β → Prop} (ho : f.offset = off) (hs : P.cellsOf f.type = a.sz) (h : Opens P f.type a ga) (hr : OpensL P fs (off + a.sz) b gb) :
    OpensL P (f :: fs) off (Kd.pair a b) (fun x => ga x.1 ∧ gb x.2) := by
  intro H enc w n cs ys hl hf hw
  match ys, hl with
  | y :: ys, hl =>
    have h0 := hf 0 f rfl
    rw [ho, hs] at h0
    obtain ⟨x, hx, hgx⟩ := h enc w n _ y.1 y.2 h0 (fun m hm => hw m (by simp only [List.map_cons, DataW.weightsEach, List.mem_append]; exact .inl hm))
    obtain ⟨x', hx', hgx'⟩ := hr enc w n cs ys (by simpa using hl) (fun i f' hf' => by have := hf (i + 1) f' (by simpa using hf'); simpa using this) (fun m hm => hw m (by simp only [List.map_cons, DataW.weightsEach, List.mem_append]; exact .inr hm))
    refine ⟨(x, x'), ⟨_, _, ?_, hx, hx'⟩, hgx, hgx'⟩
    show (cs.drop off).take (a.sz + b.sz) = _
    rw [List.take_add, List.drop_drop]
theorem opens_struct {α : Type} {P : Program} {t : TypeId} {fs : Array Field} {d : Kd α} {g : α → Prop} (ht : P.underlying t = some (.struct fs)) (hs : P.cellsOf t = d.sz) (h : OpensL P fs.toList 0 d g) : Opens P t d g := by
  intro H enc w fuel cs y ps hy hw
  obtain ⟨xs, n, rfl, hx, hl, hxl, hget⟩ := DataW.trod_struct ht hy
  obtain ⟨rfl, _⟩ := Prod.mk.inj hx
  simp only [DataW.weights, ht] at hw
  obtain ⟨x, hK, hg⟩ := h enc w n cs xs (by simpa using hxl) (fun i f hf => hget i f (by simpa using hf)) (by simpa using hw)
  rw [List.drop_zero, List.take_of_length_le (by omega)] at hK
  exact ⟨x, hK, hg⟩
theorem weights_of {H : Type} {P : Program} {ts : List TypeId} {ds : List (DataW H)} {j : Nat} {t : TypeId} {d : DataW H} (hsz : (DataW.weightsEach P ts ds).all (· ≤ reachBytes) = true) (ht : ts[j]? = some t) (hd : ds[j]? = some d) : ∀ n ∈ d.weights P t, n ≤ reachBytes := by
  intro n hn
  have := List.all_eq_true.1 hsz n (DataW.weights_mem_each ht hd n hn)
  simpa using this
theorem open_slice {α H : Type} {enc : TypeId × Value → H} {P : Program} {W : World} {t e : TypeId} {d : Kd α} {g : List α → Prop} {a : Option Addr} {len cap : Nat} {y : DataW H} {ps : List MemPlace} (h : Opens P t (Kd.slice e d) g)
    (hy : DataW.Trod enc P W 0 (fun _ => true) true t (.slice a len cap) y ps) (hw : ∀ n ∈ y.weights P t, n ≤ reachBytes) : ∃ xs : List α, len = xs.length ∧ xs.length ≤ cap ∧ d.C W a xs.length xs ∧ g xs := by
  obtain ⟨fuel, hf⟩ := hy
  obtain ⟨xs, ⟨A, c, he, hl, hC⟩, hg⟩ := h enc W fuel _ y ps hf hw
  have he' : Value.slice a len cap = .slice A xs.length c := by simpa [Value.cells] using he
  injection he' with h1 h2 h3
  subst h1 h2 h3
  exact ⟨xs, rfl, hl, hC, hg⟩
end Go.Proofs.YtdgaphefgpjbfaaO
namespace Go.Proofs.Ytdgaphefgpjbfaa.OFnExactMigrateSave
open Go.RowKit Go.Proofs.Ytdgaphefgpjbfaa.PFnExactMigrateSave Go.Proofs.YtdgaphefgpjbfaaW.PrintWords Go.Proofs.YtdgaphefgpjbfaaO
def Ok49 (x : S49) : Prop := (x.f0.size ≤ 140737488351232) ∧ (In64 x.f1) ∧ (x.f2.size ≤ 140737488351232)
theorem opens49 : Opens Try.prog 49 k49 Ok49 :=
  Opens.imp (opens_iso _ (fun x => (⟨x.1, x.2.1, x.2.2⟩ : S49)) (fun _ => rfl) (opens_struct Try.underlying49 (by kernel_rfl) (opensL_cons rfl (by kernel_rfl) (opens_string Try.underlying9) (opensL_cons rfl (by kernel_rfl) (opens_i64 Try.underlying3) (opensL_one rfl (by kernel_rfl) (opens_string Try.underlying9)))))) fun x h => by
    obtain ⟨h0, h1, h2⟩ := h
    exact ⟨h0, h1, h2⟩
def Ok52 (x : S52) : Prop := (In64 x.f0) ∧ (In64 x.f1) ∧ (x.f2.size ≤ 140737488351232) ∧ (x.f3.size ≤ 140737488351232) ∧ (In64 x.f4)
theorem opens52 : Opens Try.prog 52 k52 Ok52 :=
  Opens.imp (opens_iso _ (fun x => (⟨x.1, x.2.1, x.2.2.1, x.2.2.2.1, x.2.2.2.2⟩ : S52)) (fun _ => rfl) (opens_struct Try.underlying52 (by kernel_rfl) (opensL_cons rfl (by kernel_rfl) (opens_i64 Try.underlying3) (opensL_cons rfl (by kernel_rfl) (opens_i64 Try.underlying3) (opensL_cons rfl (by kernel_rfl) (opens_string Try.underlying9) (opensL_cons rfl (by kernel_rfl) (opens_string Try.underlying9) (opensL_one rfl (by kernel_rfl) (opens_i64 Try.underlying3)))))))) fun x h => by
    obtain ⟨h0, h1, h2, h3, h4⟩ := h
    exact ⟨h0, h1, h2, h3, h4⟩
end Go.Proofs.Ytdgaphefgpjbfaa.OFnExactMigrateSave
namespace Go.Proofs.YtdgaphefgpjbfaaO
open Go.RowKit Go.Proofs.YtdgaphefgpjbfaaW.PrintWords Go.Proofs.YtdgaphefgpjbfaaW.PrintLast Go.Proofs.YtdgaphefgpjbfaaW.PrintMore
theorem w64 {n : Int} (h : -9223372036854775808 ≤ n) (k : n ≤ 9223372036854775807) : wrap64 n = n := by unfold wrap64; omega
theorem w64s (i : Nat) (h : i < 4611686018427387904) : wrap64 ((i : Int) + 1) = ((i + 1 : Nat) : Int) := by unfold wrap64; omega
theorem ev_eq {α : Type} {x : Option α} {r : α} (h : x = some r) : Ev (fun _ => x) r := ⟨0, fun _ _ => h⟩
theorem ev_some {α : Type} {x r : α} (h : x = r) : Ev (fun _ => some x) r := ⟨0, fun _ _ => by rw [h]⟩
theorem ev_pos {α : Type} {c : Prop} [Decidable c] {f g : Nat → Option α} {r : α} (h : c) (k : Ev f r) : Ev (fun n => if c then f n else g n) r := by
  obtain ⟨K, hK⟩ := k
  exact ⟨K, fun n hn => (if_pos h).trans (hK n hn)⟩
theorem ev_neg {α : Type} {c : Prop} [Decidable c] {f g : Nat → Option α} {r : α} (h : ¬ c) (k : Ev g r) : Ev (fun n => if c then f n else g n) r := by
  obtain ⟨K, hK⟩ := k
  exact ⟨K, fun n hn => (if_neg h).trans (hK n hn)⟩
theorem ev_ite {α : Type} {c : Prop} [Decidable c] {f g : Nat → Option α} {r : α} (h : c → Ev f r) (k : ¬ c → Ev g r) : Ev (fun n => if c then f n else g n) r := by
  by_cases hc : c
  · exact ev_pos hc (h hc)
  · exact ev_neg hc (k hc)
theorem ev_bindc {α β : Type} {x : Option α} {f : Nat → α → Option β} {a : α} {r : β} (h : x = some a) (k : Ev (fun n => f n a) r) : Ev (fun n => x.bind (f n)) r := by
  subst h; exact k
theorem ev_for {σ ρ : Type} (n : Nat) (L : Nat → Nat → σ → Option ρ) (I : Nat → σ → Prop) (Q : ρ → Prop)
    (hend : ∀ s, I n s → ∃ r, Ev (fun k => L k n s) r ∧ Q r)
    (hstep : ∀ i s, i < n → I i s → (∃ r, Ev (fun k => L k i s) r ∧ Q r) ∨ ∃ s', I (i + 1) s' ∧ ∀ r, Ev (fun k => L k (i + 1) s') r → Ev (fun k => L k i s) r) :
    ∀ i s, i ≤ n → I i s → ∃ r, Ev (fun k => L k i s) r ∧ Q r := by
  have key : ∀ d i s, i + d = n → I i s → ∃ r, Ev (fun k => L k i s) r ∧ Q r := by
    intro d
    induction d with
    | zero => intro i s hi h; obtain rfl : i = n := by omega
              exact hend s h
    | succ d ih =>
      intro i s hi h
      rcases hstep i s (by omega) h with h' | ⟨s', hI, hr⟩
      · exact h'
      · obtain ⟨r, hr', hQ⟩ := ih (i + 1) s' (by omega) hI
        exact ⟨r, hr r hr', hQ⟩
  intro i s hi h
  exact key (n - i) i s (by omega) h
theorem ev_for1 {σ ρ : Type} (n : Nat) (L : Nat → Nat → σ → Option ρ) (I : Nat → σ → Prop) (a : ρ)
    (hend : ∀ s, I n s → Ev (fun k => L k n s) a)
    (hstep : ∀ i s, i < n → I i s → Ev (fun k => L k i s) a ∨ ∃ s', I (i + 1) s' ∧ ∀ r, Ev (fun k => L k (i + 1) s') r → Ev (fun k => L k i s) r) :
    ∀ i s, i ≤ n → I i s → Ev (fun k => L k i s) a := by
  intro i s hi h
  obtain ⟨r, hr, rfl⟩ := ev_for n L I (fun r => r = a) (fun s hs => ⟨a, hend s hs, rfl⟩) (fun i s hi hs => (hstep i s hi hs).imp (fun h => ⟨a, h, rfl⟩) id) i s hi h
  exact hr
theorem getD_get {α : Type} {d : α} {xs : List α} {i : Nat} (h : i < xs.length) : xs.getD (i : Int).toNat d = xs[i] := by simp [List.getD_eq_getElem?_getD, h]
theorem ev_alike {α β : Type} (L : Nat → List α → List β → Int → Option Bool) (e : Nat → List α → List β → Int → Option Bool) (g : α → β → Bool)
    (hL : ∀ k xs ys i, L (k + 1) xs ys i = if i < (xs.length : Int) then (if 0 ≤ i then (if i < (ys.length : Int) then ((e k xs ys i).bind fun v => if v = true then L k xs ys (wrap64 (i + 1)) else some false) else none) else none) else some true)
    (xs : List α) (ys : List β) (hx : xs.length < 4611686018427387904) (hy : ys.length = xs.length) (he : ∀ i : Nat, ∀ (h : i < xs.length) (h' : i < ys.length), Ev (fun k => e k xs ys (i : Int)) (g xs[i] ys[i]))
    (b : Bool) (hb : b = true ↔ ∀ i : Nat, ∀ (h : i < xs.length) (h' : i < ys.length), g xs[i] ys[i] = true) :
    Ev (fun k => L k xs ys 0) b := by
  refine ev_for1 xs.length (fun k i (_ : Unit) => L k xs ys (i : Int)) (fun i _ => ∀ j, j < i → ∀ (h : j < xs.length) (h' : j < ys.length), g xs[j] ys[j] = true) b ?_ ?_ 0 () (Nat.zero_le _) (fun j hj => by omega)
  · intro _ h
    refine Ev.step (fun k => hL k xs ys _) (ev_neg (by omega) (ev_some ?_))
    exact (hb.2 fun i hi hi' => h i hi hi hi').symm
  · intro i _ hi h
    have hi' : i < ys.length := by omega
    by_cases hg : g xs[i] ys[i] = true
    · refine .inr ⟨(), fun j hj h1 h2 => ?_, fun r hr => ?_⟩
      · rcases Nat.lt_or_ge j i with hji | hji
        · exact h j hji h1 h2
        · obtain rfl : j = i := by omega
          exact hg
      · refine Ev.step (fun k => hL k xs ys _) (ev_pos (by omega) (ev_pos (by omega) (ev_pos (by omega) (Ev.bind (he i hi hi') (ev_pos hg ?_)))))
        rw [w64s i (by omega)]
        exact hr
    · refine .inl (Ev.step (fun k => hL k xs ys _) (ev_pos (by omega) (ev_pos (by omega) (ev_pos (by omega) (Ev.bind (he i hi hi') (ev_neg hg (ev_some ?_)))))))
      cases b with
      | false => rfl
      | true => exact absurd (hb.1 rfl i hi hi') hg
theorem ev_alike_self {α : Type} (L : Nat → List α → List α → Int → Option Bool) (e : Nat → List α → List α → Int → Option Bool)
    (hL : ∀ k xs ys i, L (k + 1) xs ys i = if i < (xs.length : Int) then (if 0 ≤ i then (if i < (ys.length : Int) then ((e k xs ys i).bind fun v => if v = true then L k xs ys (wrap64 (i + 1)) else some false) else none) else none) else some true)
    (xs : List α) (hx : xs.length < 4611686018427387904) (he : ∀ i : Nat, ∀ (_ : i < xs.length), Ev (fun k => e k xs xs (i : Int)) true) :
    Ev (fun k => L k xs xs 0) true :=
  ev_alike L e (fun _ _ => true) hL xs xs hx rfl (fun i h _ => he i h) true ⟨fun _ _ _ _ => rfl, fun _ => rfl⟩
theorem bool_of (P : Prop) : ∃ b : Bool, b = true ↔ P := ⟨@decide P (Classical.propDecidable P), by simp⟩
theorem bool_false {P : Prop} {b : Bool} (h : b = true ↔ P) (k : ¬ P) : b = false := by
  cases b with
  | false => rfl
  | true => exact absurd (h.1 rfl) k
theorem ev_all (n : Nat) (L : Nat → Nat → Option Bool) (ok : Nat → Prop) (e b : Bool) (hb : b = true ↔ e = true ∧ ∀ i, i < n → ok i) (hend : Ev (fun k => L k n) e)
    (hyes : ∀ i, i < n → (∀ j, j < i → ok j) → ok i → ∀ r, Ev (fun k => L k (i + 1)) r → Ev (fun k => L k i) r) (hno : ∀ i, i < n → (∀ j, j < i → ok j) → ¬ ok i → Ev (fun k => L k i) false) : Ev (fun k => L k 0) b := by
  refine ev_for1 n (fun k i (_ : Unit) => L k i) (fun i _ => ∀ j, j < i → ok j) b ?_ ?_ 0 () (Nat.zero_le _) (fun j hj => by omega)
  · intro _ h
    have : b = e := by
      cases e with
      | false => exact bool_false hb (fun h => by simp at h)
      | true => exact hb.2 ⟨rfl, h⟩
    rw [this]
    exact hend
  · intro i _ hi h
    by_cases ho : ok i
    · refine .inr ⟨(), fun j hj => ?_, hyes i hi h ho⟩
      rcases Nat.lt_or_ge j i with h1 | h1
      · exact h j h1
      · obtain rfl : j = i := by omega
        exact ho
    · have : b = false := bool_false hb (fun h => ho (h.2 i hi))
      rw [this]
      exact .inl (hno i hi h ho)
theorem wrap_u64 {n : Int} (h0 : 0 ≤ n) (h1 : n ≤ 18446744073709551615) : IntKind.u64.wrap n = n := by
  have e : IntKind.u64.wrap n = n % 18446744073709551616 := by simp only [IntKind.wrap, IntKind.bits, IntKind.signed]; rfl
  rw [e]; omega
def Chain {α : Type} (E : α → Int → Int → Prop) : List α → Int → Int → Prop
  | [], c, d => c = d
  | x :: r, c, d => ∃ m, E x c m ∧ Chain E r m d
theorem Chain.snoc {α : Type} {E : α → Int → Int → Prop} : ∀ {l : List α} {c m d : Int} {x : α}, Chain E l c m → E x m d → Chain E (l ++ [x]) c d
  | [], _, _, _, _, h, k => by cases h; exact ⟨_, k, rfl⟩
  | _ :: _, _, _, _, _, ⟨q, h1, h2⟩, k => ⟨q, h1, Chain.snoc h2 k⟩
theorem Chain.le {α : Type} {E : α → Int → Int → Prop} (hm : ∀ x c d, E x c d → c ≤ d) : ∀ {l : List α} {c d : Int}, Chain E l c d → c ≤ d
  | [], _, _, h => Int.le_of_eq h
  | _ :: _, _, _, ⟨_, h1, h2⟩ => Int.le_trans (hm _ _ _ h1) (Chain.le hm h2)
theorem ev_mark {α : Type} (L : Nat → List α → Int → Nat → Option (Int × List α)) (E : α → Int → Int → Prop) (G : α → Prop) (W : Int) (hW : 0 ≤ W) (hW' : W ≤ 1099511627776)
    (hend : ∀ zs c, Ev (fun k => L k zs c zs.length) (c, zs))
    (hstep : ∀ zs c i, ∀ hi : i < zs.length, i < 1048576 → G zs[i] → 0 ≤ c → c ≤ 2305843009213693952 → ∃ x' c', E x' c c' ∧ c ≤ c' ∧ c' ≤ c + W ∧ ∀ r, Ev (fun k => L k (zs.set i x') c' (i + 1)) r → Ev (fun k => L k zs c i) r)
    (xs : List α) (hG : ∀ x ∈ xs, G x) (hl : xs.length ≤ 1048576) (c : Int) (hc0 : 0 ≤ c) (hc1 : c ≤ 1152921504606846976) :
    ∃ ys d, Chain E ys c d ∧ c ≤ d ∧ d ≤ c + W * xs.length ∧ ys.length = xs.length ∧ Ev (fun k => L k xs c 0) (d, ys) := by
  have key : ∀ n i : Nat, ∀ zs : List α, ∀ m : Int, i + n = xs.length → zs.length = xs.length → zs.drop i = xs.drop i → Chain E (zs.take i) c m → c ≤ m → m ≤ c + W * i →
      ∃ ys d, Chain E ys c d ∧ c ≤ d ∧ d ≤ c + W * xs.length ∧ ys.length = xs.length ∧ Ev (fun k => L k zs m i) (d, ys) := by
    intro n
    induction n with
    | zero =>
      intro i zs m hi hz hd hch h1 h2
      obtain rfl : i = zs.length := by omega
      rw [List.take_length] at hch
      rw [← hz]
      exact ⟨zs, m, hch, h1, h2, rfl, hend zs m⟩
    | succ n ih =>
      intro i zs m hi hz hd hch h1 h2
      have hlt : i < zs.length := by omega
      have hx : i < xs.length := by omega
      have hget : zs[i] = xs[i] := by
        have e1 := List.drop_eq_getElem_cons hlt
        have e2 := List.drop_eq_getElem_cons hx
        rw [hd, e2] at e1
        exact (List.cons.inj e1).1.symm
      have hWi : W * (i : Int) ≤ 1099511627776 * 1048576 := Int.mul_le_mul hW' (by omega) (by omega) (by omega)
      obtain ⟨x', c', hE, hc, hcW, hr⟩ := hstep zs m i hlt (by omega) (by rw [hget]; exact hG _ (List.getElem_mem hx)) (by omega) (by omega)
      obtain ⟨ys, d, g1, g2, g3, g4, g5⟩ := ih (i + 1) (zs.set i x') c' (by omega) (by simpa using hz) (by
          rw [List.drop_set_of_lt (by omega)]
          have e1 := List.drop_eq_getElem_cons hlt
          have e2 := List.drop_eq_getElem_cons hx
          rw [hd, e2] at e1
          exact (List.cons.inj e1).2.symm) (by
          rw [List.take_succ_eq_append_getElem (by simpa using hlt), List.take_set_of_le (Nat.le_refl i), List.getElem_set_self]
          exact Chain.snoc hch hE) (by omega) (by
          have : W * ((i + 1 : Nat) : Int) = W * i + W := by rw [Int.natCast_add, Int.mul_add]; simp
          omega)
      exact ⟨ys, d, g1, g2, g3, g4, hr _ g5⟩
  have := key xs.length 0 xs c (by omega) rfl rfl (by simp [Chain]) (Int.le_refl _) (by simp)
  exact this
theorem ev_held {α : Type} (H : Nat → List α → Int → Nat → Option Int) (E : α → Int → Int → Prop) (hm : ∀ x c d, E x c d → c ≤ d)
    (hend : ∀ ys c, Ev (fun k => H k ys c ys.length) c)
    (hstep : ∀ ys c c' i, ∀ hi : i < ys.length, i < 1048576 → E ys[i] c c' → 0 ≤ c → c' ≤ 2305843009213693952 → ∀ r, Ev (fun k => H k ys c' (i + 1)) r → Ev (fun k => H k ys c i) r)
    (ys : List α) (hl : ys.length ≤ 1048576) (c d : Int) (hc0 : 0 ≤ c) (hd : d ≤ 2305843009213693952) (h : Chain E ys c d) : Ev (fun k => H k ys c 0) d := by
  have key : ∀ n i : Nat, ∀ m : Int, i + n = ys.length → 0 ≤ m → Chain E (ys.drop i) m d → Ev (fun k => H k ys m i) d := by
    intro n
    induction n with
    | zero =>
      intro i m hi h0 hch
      obtain rfl : i = ys.length := by omega
      rw [List.drop_length] at hch
      obtain rfl : m = d := hch
      exact hend ys m
    | succ n ih =>
      intro i m hi h0 hch
      have hlt : i < ys.length := by omega
      rw [List.drop_eq_getElem_cons hlt] at hch
      obtain ⟨m', hE, hch⟩ := hch
      have h1 := hm _ _ _ hE
      exact hstep ys m m' i hlt (by omega) hE h0 (by have := Chain.le hm hch; omega) d (ih (i + 1) m' (by omega) (by omega) hch)
  exact key ys.length 0 c (by omega) hc0 h
theorem exev_pos {α : Type} {c : Prop} [Decidable c] {f g : Nat → Option α} {Q : α → Prop} (h : c) (k : ∃ r, Ev f r ∧ Q r) : ∃ r, Ev (fun n => if c then f n else g n) r ∧ Q r := by
  obtain ⟨r, hr, hq⟩ := k
  exact ⟨r, ev_pos h hr, hq⟩
theorem exev_neg {α : Type} {c : Prop} [Decidable c] {f g : Nat → Option α} {Q : α → Prop} (h : ¬ c) (k : ∃ r, Ev g r ∧ Q r) : ∃ r, Ev (fun n => if c then f n else g n) r ∧ Q r := by
  obtain ⟨r, hr, hq⟩ := k
  exact ⟨r, ev_neg h hr, hq⟩
theorem exev_ite {α : Type} {c : Prop} [Decidable c] {f g : Nat → Option α} {Q : α → Prop} (h : c → ∃ r, Ev f r ∧ Q r) (k : ¬ c → ∃ r, Ev g r ∧ Q r) : ∃ r, Ev (fun n => if c then f n else g n) r ∧ Q r := by
  by_cases hc : c
  · exact exev_pos hc (h hc)
  · exact exev_neg hc (k hc)
theorem exev_some {α : Type} {x : α} {Q : α → Prop} (h : Q x) : ∃ r, Ev (fun _ => some x) r ∧ Q r := ⟨x, ev_some rfl, h⟩
theorem ev_copy2 {α β τ : Type} (L : Nat → List α → List β → Int → Option (List β)) (e : Nat → List α → Int → Option τ) (mk : τ → β) (g : α → β)
    (hL : ∀ k xs ys i, L (k + 1) xs ys i = if i < (xs.length : Int) then (if 0 ≤ i then ((e k xs i).bind fun v => if i < (ys.length : Int) then L k xs (ys.set (i : Int).toNat (mk v)) (wrap64 (i + 1)) else none) else none) else some ys)
    (xs : List α) (hx : xs.length < 4611686018427387904) (he : ∀ i : Nat, ∀ h : i < xs.length, ∃ t, Ev (fun k => e k xs (i : Int)) t ∧ mk t = g xs[i]) (ys : List β) (hy : ys.length = xs.length) :
    Ev (fun k => L k xs ys 0) (xs.map g) := by
  refine ev_for1 xs.length (fun k i ys => L k xs ys (i : Int)) (fun i ys => ys.length = xs.length ∧ ∀ j, j < i → ys[j]? = (xs.map g)[j]?) (xs.map g) ?_ ?_ 0 ys (Nat.zero_le _) ⟨hy, fun j hj => by omega⟩
  · intro ys ⟨hl, h⟩
    refine Ev.step (fun k => hL k xs ys _) (ev_neg (by omega) (ev_some ?_))
    apply List.ext_getElem?
    intro j
    rcases Nat.lt_or_ge j xs.length with hj | hj
    · exact h j hj
    · rw [List.getElem?_eq_none (by omega), List.getElem?_eq_none (by simpa using hj)]
  · intro i ys hi ⟨hl, h⟩
    obtain ⟨t, ht, hmk⟩ := he i hi
    refine .inr ⟨ys.set i (g xs[i]), ⟨by simpa using hl, fun j hj => ?_⟩, fun r hr => ?_⟩
    · rcases Nat.lt_or_ge j i with hji | hji
      · rw [List.getElem?_set_ne (by omega)]
        exact h j hji
      · obtain rfl : j = i := by omega
        rw [List.getElem?_set_self (by omega), List.getElem?_map, List.getElem?_eq_getElem hi]
        rfl
    · refine Ev.step (fun k => hL k xs ys _) (ev_pos (by omega) (ev_pos (by omega) (Ev.bind ht (ev_pos (by omega) ?_))))
      rw [w64s i (by omega), hmk]
      exact hr
theorem ev_size {α : Type} (L : Nat → List α → Int → Int → Option Int) (e : Nat → List α → Int → Int → Option Int) (C : α → Prop)
    (hL : ∀ k xs c i, L (k + 1) xs c i = if i < (xs.length : Int) then (if 0 ≤ i then ((e k xs c i).bind fun t => if t < 0 then some (-1) else L k xs t (wrap64 (i + 1))) else none) else some c)
    (xs : List α) (hx : xs.length < 4611686018427387904) (left : Int) (h0 : 0 ≤ left)
    (he : ∀ i : Nat, ∀ h : i < xs.length, ∀ c, 0 ≤ c → c ≤ left → ∃ r, Ev (fun k => e k xs c (i : Int)) r ∧ (r < 0 ∨ 0 ≤ r ∧ r ≤ c ∧ C xs[i])) :
    ∃ r, Ev (fun k => L k xs left 0) r ∧ (r < 0 ∨ 0 ≤ r ∧ r ≤ left ∧ ∀ x ∈ xs, C x) := by
  refine ev_for xs.length (fun k i c => L k xs c (i : Int)) (fun i c => 0 ≤ c ∧ c ≤ left ∧ ∀ j, ∀ h : j < xs.length, j < i → C xs[j]) (fun r => r < 0 ∨ 0 ≤ r ∧ r ≤ left ∧ ∀ x ∈ xs, C x) ?_ ?_ 0 left (Nat.zero_le _) ⟨h0, Int.le_refl _, fun j _ hj => by omega⟩
  · intro c ⟨hc0, hc1, h⟩
    refine ⟨c, Ev.step (fun k => hL k xs c _) (ev_neg (by omega) (ev_some rfl)), .inr ⟨hc0, hc1, fun x hx => ?_⟩⟩
    obtain ⟨j, hj, rfl⟩ := List.getElem_of_mem hx
    exact h j hj hj
  · intro i c hi ⟨hc0, hc1, h⟩
    obtain ⟨r, hr, hq⟩ := he i hi c hc0 hc1
    rcases hq with hq | ⟨q0, q1, q2⟩
    · exact .inl ⟨-1, Ev.step (fun k => hL k xs c _) (ev_pos (by omega) (ev_pos (by omega) (Ev.bind hr (ev_pos hq (ev_some rfl))))), .inl (by omega)⟩
    · refine .inr ⟨r, ⟨q0, by omega, fun j hj hji => ?_⟩, fun r' hr' => Ev.step (fun k => hL k xs c _) (ev_pos (by omega) (ev_pos (by omega) (Ev.bind hr (ev_neg (by omega) ?_))))⟩
      · rcases Nat.lt_or_ge j i with h1 | h1
        · exact h j hj h1
        · obtain rfl : j = i := by omega
          exact q2
      · rw [w64s i (by omega)]
        exact hr'
theorem mid_of (lo hi : Nat) (h : lo ≤ 1048576) (k : hi ≤ 1048576) : wrap64 ((IntKind.u64.wrap (wrap64 ((lo : Int) + (hi : Int)))) / 2) = (((lo + hi) / 2 : Nat) : Int) := by
  rw [w64 (n := (lo : Int) + (hi : Int)) (by omega) (by omega), wrap_u64 (by omega) (by omega), w64 (by omega) (by omega)]
  omega
theorem ev_search {α τ : Type} (L : Nat → List α → τ → Int → Int → Int → Option (Int × Bool)) (c : Nat → List α → Int → τ → Option Int)
    (hL : ∀ k xs x n i j, L (k + 1) xs x n i j = if i < j then (if 0 ≤ (wrap64 ((IntKind.u64.wrap (wrap64 (i + j))) / 2)) then (if (wrap64 ((IntKind.u64.wrap (wrap64 (i + j))) / 2)) < (xs.length : Int) then ((c k xs (wrap64 ((IntKind.u64.wrap (wrap64 (i + j))) / 2)) x).bind fun t => (if t < 0 then (L k xs x n (wrap64 ((wrap64 ((IntKind.u64.wrap (wrap64 (i + j))) / 2)) + 1)) j) else (L k xs x n i (wrap64 ((IntKind.u64.wrap (wrap64 (i + j))) / 2))))) else (none)) else (none)) else (if i < n then (if 0 ≤ i then (if i < (xs.length : Int) then ((c k xs i x).bind fun t => (some (i, (t == 0)))) else (none)) else (none)) else (some (i, false))))
    (xs : List α) (x : τ) (hl : xs.length ≤ 1048576) (C : Nat → Int) (hc : ∀ i : Nat, i < xs.length → Ev (fun k => c k xs (i : Int) x) (C i)) (hm : ∀ i j : Nat, i < j → j < xs.length → 0 ≤ C i → 0 < C j) :
    ∃ p : Nat, p ≤ xs.length ∧ (∀ i, i < p → C i < 0) ∧ (∀ i, p ≤ i → i < xs.length → 0 ≤ C i) ∧ Ev (fun k => L k xs x (xs.length : Int) 0 (xs.length : Int)) ((p : Int), decide (p < xs.length ∧ C p = 0)) := by
  have key : ∀ d lo hi : Nat, hi - lo ≤ d → lo ≤ hi → hi ≤ xs.length → (∀ i, i < lo → C i < 0) → (∀ i, hi ≤ i → i < xs.length → 0 ≤ C i) →
      ∃ p : Nat, p ≤ xs.length ∧ (∀ i, i < p → C i < 0) ∧ (∀ i, p ≤ i → i < xs.length → 0 ≤ C i) ∧ Ev (fun k => L k xs x (xs.length : Int) (lo : Int) (hi : Int)) ((p : Int), decide (p < xs.length ∧ C p = 0)) := by
    intro d
    induction d with
    | zero =>
      intro lo hi hd hle hhl h1 h2
      obtain rfl : lo = hi := by omega
      refine ⟨lo, hhl, h1, h2, Ev.step (fun k => hL k xs x _ _ _) (ev_neg (by omega) ?_)⟩
      by_cases hlt : lo < xs.length
      · refine ev_pos (by omega) (ev_pos (by omega) (ev_pos (by omega) (Ev.bind (hc lo hlt) (ev_some ?_))))
        by_cases h0 : C lo = 0 <;> simp [h0, hlt]
      · refine ev_neg (by omega) (ev_some ?_)
        simp [hlt]
    | succ d ih =>
      intro lo hi hd hle hhl h1 h2
      by_cases he : lo = hi
      · exact ih lo hi (by omega) hle hhl h1 h2
      · have em := mid_of lo hi (by omega) (by omega)
        have hm1 : (lo + hi) / 2 < hi := by omega
        have hm0 : lo ≤ (lo + hi) / 2 := by omega
        generalize (lo + hi) / 2 = m at em hm1 hm0
        by_cases hcm : C m < 0
        · obtain ⟨p, g1, g2, g3, g4⟩ := ih (m + 1) hi (by omega) (by omega) hhl (fun i hi' => by
            rcases Nat.lt_or_ge i m with hh | hh
            · rcases Classical.em (C i < 0) with h | h
              · exact h
              · have := hm i m hh (by omega) (by omega); omega
            · obtain rfl : i = m := by omega
              exact hcm) h2
          refine ⟨p, g1, g2, g3, Ev.step (fun k => hL k xs x _ _ _) (ev_pos (by omega) ?_)⟩
          rw [em]
          refine ev_pos (by omega) (ev_pos (by omega) (Ev.bind (hc m (by omega)) (ev_pos hcm ?_)))
          rw [w64s m (by omega)]
          exact g4
        · obtain ⟨p, g1, g2, g3, g4⟩ := ih lo m (by omega) (by omega) (by omega) h1 (fun i hi1 hi2 => by
            rcases Nat.lt_or_ge m i with hh | hh
            · have := hm m i hh hi2 (by omega); omega
            · obtain rfl : i = m := by omega
              omega)
          refine ⟨p, g1, g2, g3, Ev.step (fun k => hL k xs x _ _ _) (ev_pos (by omega) ?_)⟩
          rw [em]
          exact ev_pos (by omega) (ev_pos (by omega) (Ev.bind (hc m (by omega)) (ev_neg hcm g4)))
  exact key xs.length 0 xs.length (by omega) (by omega) (by omega) (fun i hi => by omega) (fun i h h' => by omega)
end Go.Proofs.YtdgaphefgpjbfaaO
namespace Go.Proofs.Ytdgaphefgpjbfaa.Pure
open Go.RowKit Go.Proofs.Ytdgaphefgpjbfaa.PFnExactMigrateSave Go.Proofs.Ytdgaphefgpjbfaa.OFnExactMigrateSave Go.Proofs.YtdgaphefgpjbfaaW.PrintWords Go.Proofs.YtdgaphefgpjbfaaW.PrintLast Go.Proofs.YtdgaphefgpjbfaaW.PrintMore Go.Proofs.YtdgaphefgpjbfaaO
set_option linter.unusedVariables false
set_option linter.unusedSimpArgs false
theorem st_spec_GoodName_j0 {r : (Bool)} {x0 : ByteArray} {x16 : Bool} (h : Ev (fun k => if x16 = true then (some false) else (spec_GoodName.l0 k x0 0)) r) : Ev (fun k => spec_GoodName.j0 k x0 x16) r := Ev.step (fun k => by rw [spec_GoodName.j0]) h
theorem st_spec_GoodName_l0 {r : (Bool)} {x0 : ByteArray} {x3 : Int} (h : Ev (fun k => if x3 < (x0.size : Int) then (if 0 ≤ x3 then ((spec_l1Letter.f (bt x0 x3)).bind fun t108 => (if t108 = true then (spec_GoodName.l0 k x0 (wrap64 (x3 + 1))) else ((spec_l1Digit.f (bt x0 x3)).bind fun t109 => (if t109 = true then (spec_GoodName.l0 k x0 (wrap64 (x3 + 1))) else (some false))))) else (none)) else (some true)) r) : Ev (fun k => spec_GoodName.l0 k x0 x3) r := Ev.step (fun k => by rw [spec_GoodName.l0]) h
theorem st_impl_Change_changed_j0 {r : (Int × Bool)} {x1 : Int} {x6 : Bool} {x269000 : Int} {x269001 : Int} {x269002 : ByteArray} {x269003 : ByteArray} {x269004 : Int} (h : Ev (fun k => if x6 = true then ((impl_inRange.f (wrap64 (x1 + x269004)) (-1000000000000000) 1000000000000000).bind fun t270 => (some (wrap64 (x1 + x269004), t270))) else (if x269001 = 3 then (impl_Change_changed.j1 k x1 (x269004 == 0) x269000 x269001 x269002 x269003 x269004) else (impl_Change_changed.j1 k x1 false x269000 x269001 x269002 x269003 x269004))) r) : Ev (fun k => impl_Change_changed.j0 k x1 x6 x269000 x269001 x269002 x269003 x269004) r := Ev.step (fun k => by rw [impl_Change_changed.j0]) h
theorem st_impl_Change_changed_j1 {r : (Int × Bool)} {x1 : Int} {x18 : Bool} {x269000 : Int} {x269001 : Int} {x269002 : ByteArray} {x269003 : ByteArray} {x269004 : Int} (h : Ev (fun _ => if x18 = true then ((impl_inRange.f 0 (-1000000000000000) 1000000000000000).bind fun t271 => (some (0, t271))) else (if x269001 = 3 then ((impl_inRange.f x1 (-1000000000000000) 1000000000000000).bind fun t272 => (if t272 = true then ((impl_size.f x1).bind fun t273 => ((impl_size.f x269004).bind fun t274 => (if t274 = 0 then (none) else (if t273 ≤ (wrap64 (Int.tdiv (1000000000000000 : Int) t274)) then ((impl_inRange.f (wrap64 (x1 * x269004)) (-1000000000000000) 1000000000000000).bind fun t275 => (some (wrap64 (x1 * x269004), t275))) else (some (0, false)))))) else (some (0, false)))) else (some (0, false)))) r) : Ev (fun k => impl_Change_changed.j1 k x1 x18 x269000 x269001 x269002 x269003 x269004) r := Ev.step (fun k => by rw [impl_Change_changed.j1]) h
theorem st_impl_MigrateSave_j0 {r : ((List (S59)) × Bool)} {x0 : Int} {x1 : List (S59)} {x2 : List (S56)} {x24 : Bool} (h : Ev (fun k => if x24 = true then (some (([] : List (S59)), false)) else ((impl_Value_38.f x1).bind fun t310 => (impl_MigrateSave.l0 k x0 t310 x2 (x2.length : Int) 0))) r) : Ev (fun k => impl_MigrateSave.j0 k x0 x1 x2 x24) r := Ev.step (fun k => by rw [impl_MigrateSave.j0]) h
theorem st_impl_MigrateSave_l0 {r : ((List (S59)) × Bool)} {x0 : Int} {x8 : List (S59)} {x27 : List (S56)} {x28 : Int} {x29 : Int} (h : Ev (fun k => if x29 < x28 then (if 0 ≤ x29 then (if x29 < (x27.length : Int) then (if ((rd_T56 x27 x29).f0) < x0 then (impl_MigrateSave.l0 k x0 x8 x27 x28 (wrap64 (x29 + 1))) else ((impl_change.f k x8 ((rd_T56 x27 x29).f0) ((rd_T56 x27 x29).f1) ((rd_T56 x27 x29).f2) ((rd_T56 x27 x29).f3) ((rd_T56 x27 x29).f4)).bind fun bt315 => (if bt315.2 = true then (impl_MigrateSave.l0 k x0 bt315.1 x27 x28 (wrap64 (x29 + 1))) else (some (([] : List (S59)), false))))) else (none)) else (none)) else (some (x8, true))) r) : Ev (fun k => impl_MigrateSave.l0 k x0 x8 x27 x28 x29) r := Ev.step (fun k => by rw [impl_MigrateSave.l0]) h
theorem st_laws_markValueS_l0 {r : (Int × (List (S59)))} {x0 : List (S59)} {x1 : Int} {x5 : Int} (h : Ev (fun k => if x5 < (x0.length : Int) then ((laws_markText.f k x1).bind fun t332 => (if 0 ≤ x5 then ((some (x0.set (x5 : Int).toNat (⟨t332, (rd_T59 x0 x5).f1, (rd_T59 x0 x5).f2⟩ : S59) : List (S59))).bind fun y333 => ((some (y333.set (x5 : Int).toNat (⟨(rd_T59 y333 x5).f0, wrap64 (x1 + 1), (rd_T59 y333 x5).f2⟩ : S59) : List (S59))).bind fun y334 => ((laws_markText.f k (wrap64 ((wrap64 (x1 + 1)) + 1))).bind fun t335 => (laws_markValueS.l0 k (y334.set (x5 : Int).toNat (⟨(rd_T59 y334 x5).f0, (rd_T59 y334 x5).f1, t335⟩ : S59)) (wrap64 ((wrap64 ((wrap64 (x1 + 1)) + 1)) + 1)) (wrap64 (x5 + 1)))))) else (none))) else (some (x1, x0))) r) : Ev (fun k => laws_markValueS.l0 k x0 x1 x5) r := Ev.step (fun k => by rw [laws_markValueS.l0]) h
theorem st_laws_markChangeS_l0 {r : (Int × (List (S56)))} {x0 : List (S56)} {x1 : Int} {x5 : Int} (h : Ev (fun k => if x5 < (x0.length : Int) then (if 0 ≤ x5 then ((some (x0.set (x5 : Int).toNat (⟨x1, (rd_T56 x0 x5).f1, (rd_T56 x0 x5).f2, (rd_T56 x0 x5).f3, (rd_T56 x0 x5).f4⟩ : S56) : List (S56))).bind fun y337 => ((some (y337.set (x5 : Int).toNat (⟨(rd_T56 y337 x5).f0, wrap64 (x1 + 1), (rd_T56 y337 x5).f2, (rd_T56 y337 x5).f3, (rd_T56 y337 x5).f4⟩ : S56) : List (S56))).bind fun y338 => ((laws_markText.f k (wrap64 ((wrap64 (x1 + 1)) + 1))).bind fun t339 => ((some (y338.set (x5 : Int).toNat (⟨(rd_T56 y338 x5).f0, (rd_T56 y338 x5).f1, t339, (rd_T56 y338 x5).f3, (rd_T56 y338 x5).f4⟩ : S56) : List (S56))).bind fun y340 => ((laws_markText.f k (wrap64 ((wrap64 ((wrap64 (x1 + 1)) + 1)) + 1))).bind fun t341 => ((some (y340.set (x5 : Int).toNat (⟨(rd_T56 y340 x5).f0, (rd_T56 y340 x5).f1, (rd_T56 y340 x5).f2, t341, (rd_T56 y340 x5).f4⟩ : S56) : List (S56))).bind fun y342 => (laws_markChangeS.l0 k (y342.set (x5 : Int).toNat (⟨(rd_T56 y342 x5).f0, (rd_T56 y342 x5).f1, (rd_T56 y342 x5).f2, (rd_T56 y342 x5).f3, wrap64 ((wrap64 ((wrap64 ((wrap64 (x1 + 1)) + 1)) + 1)) + 1)⟩ : S56)) (wrap64 ((wrap64 ((wrap64 ((wrap64 ((wrap64 (x1 + 1)) + 1)) + 1)) + 1)) + 1)) (wrap64 (x5 + 1))))))))) else (none)) else (some (x1, x0))) r) : Ev (fun k => laws_markChangeS.l0 k x0 x1 x5) r := Ev.step (fun k => by rw [laws_markChangeS.l0]) h
theorem st_laws_heldValueS_l0 {r : (Int)} {x0 : List (S59)} {x1 : Int} {x5 : Int} (h : Ev (fun k => if x5 < (x0.length : Int) then (if 0 ≤ x5 then ((laws_markText.f k x1).bind fun t345 => (if ((rd_T59 x0 x5).f0).toList = t345.toList then (if ((rd_T59 x0 x5).f1) = (wrap64 (x1 + 1)) then ((laws_markText.f k (wrap64 ((wrap64 (x1 + 1)) + 1))).bind fun t348 => (if ((rd_T59 x0 x5).f2).toList = t348.toList then (laws_heldValueS.l0 k x0 (wrap64 ((wrap64 ((wrap64 (x1 + 1)) + 1)) + 1)) (wrap64 (x5 + 1))) else (some (-1)))) else (some (-1))) else (some (-1)))) else (none)) else (some x1)) r) : Ev (fun k => laws_heldValueS.l0 k x0 x1 x5) r := Ev.step (fun k => by rw [laws_heldValueS.l0]) h
theorem st_laws_FnExactMigrateSave_j0 {r : (Bool)} {x0 : Int} {x1 : List (S49)} {x2 : List (S52)} {x8 : List (S59)} {x9 : Bool} {x10 : List (S59)} {x11 : List (S56)} {x12 : List (S59)} {x13 : Bool} {x57 : Bool} (h : Ev (fun k => if x57 = true then (some false) else ((laws_toValueS.f k x1).bind fun t372 => ((laws_eqValueS.f k x10 t372).bind fun t375 => (if t375 = true then ((laws_toChangeS.f k x2).bind fun t376 => ((laws_eqChangeS.f k x11 t376).bind fun t379 => (if t379 = true then ((laws_markValueS.f k x10 1).bind fun bt380 => ((laws_markChangeS.f k x11 bt380.1).bind fun bt382 => (if bt382.1 < 0 then (laws_FnExactMigrateSave.j1 k x0 x1 x2 x8 x9 x12 true) else ((laws_eqValueS.f k x12 x8).bind fun t384 => (if t384 = true then (laws_FnExactMigrateSave.j1 k x0 x1 x2 x8 x9 x12 (x13 != x9)) else (laws_FnExactMigrateSave.j1 k x0 x1 x2 x8 x9 x12 true)))))) else (some false)))) else (some false))))) r) : Ev (fun k => laws_FnExactMigrateSave.j0 k x0 x1 x2 x8 x9 x10 x11 x12 x13 x57) r := Ev.step (fun k => by rw [laws_FnExactMigrateSave.j0]) h
theorem st_laws_FnExactMigrateSave_j1 {r : (Bool)} {x0 : Int} {x1 : List (S49)} {x2 : List (S52)} {x8 : List (S59)} {x9 : Bool} {x12 : List (S59)} {x86 : Bool} (h : Ev (fun k => if x86 = true then (some false) else ((laws_markValueS.f k x12 1).bind fun bt385 => ((laws_heldValueS.f k bt385.2 1).bind fun t387 => (if t387 < 0 then (some false) else (if t387 = bt385.1 then ((laws_toValueS.f k x1).bind fun t388 => ((laws_toChangeS.f k x2).bind fun t391 => ((impl_MigrateSave.f k x0 t388 t391).bind fun bt394 => ((laws_eqValueS.f k bt394.1 x8).bind fun t398 => (if t398 = true then (laws_FnExactMigrateSave.j2 k bt385.2 bt385.1 (bt394.2 != x9)) else (laws_FnExactMigrateSave.j2 k bt385.2 bt385.1 true)))))) else (some false)))))) r) : Ev (fun k => laws_FnExactMigrateSave.j1 k x0 x1 x2 x8 x9 x12 x86) r := Ev.step (fun k => by rw [laws_FnExactMigrateSave.j1]) h
theorem st_laws_FnExactMigrateSave_j2 {r : (Bool)} {x12 : List (S59)} {x15 : Int} {x115 : Bool} (h : Ev (fun k => if x115 = true then (some false) else ((laws_heldValueS.f k x12 1).bind fun t399 => (if t399 < 0 then (some false) else (if t399 = x15 then (some true) else (some false))))) r) : Ev (fun k => laws_FnExactMigrateSave.j2 k x12 x15 x115) r := Ev.step (fun k => by rw [laws_FnExactMigrateSave.j2]) h
theorem st_spec_GoodChanges_l0 {r : (Bool)} {x0 : List (S56)} {x8 : List (S56)} {x9 : Int} {x10 : Int} (h : Ev (fun k => if x10 < x9 then (if 0 ≤ x10 then (if x10 < (x8.length : Int) then ((spec_l1In.f ((rd_T56 x8 x10).f0) 1 2).bind fun t116 => (if t116 = true then (if x10 > 0 then (if 0 ≤ (wrap64 (x10 - 1)) then (if (wrap64 (x10 - 1)) < (x0.length : Int) then (if ((rd_T56 x0 (wrap64 (x10 - 1))).f0) > ((rd_T56 x8 x10).f0) then (spec_GoodChanges.j1 k x0 x8 x9 x10 true ((rd_T56 x8 x10).f0) ((rd_T56 x8 x10).f1) ((rd_T56 x8 x10).f2) ((rd_T56 x8 x10).f3) ((rd_T56 x8 x10).f4)) else ((spec_l1In.f ((rd_T56 x8 x10).f1) 1 5).bind fun t118 => (if t118 = true then ((spec_GoodName.f k ((rd_T56 x8 x10).f2)).bind fun t119 => (if t119 = true then ((spec_l1In.f ((rd_T56 x8 x10).f4) (-1000000) 1000000).bind fun t120 => (spec_GoodChanges.j1 k x0 x8 x9 x10 (!t120) ((rd_T56 x8 x10).f0) ((rd_T56 x8 x10).f1) ((rd_T56 x8 x10).f2) ((rd_T56 x8 x10).f3) ((rd_T56 x8 x10).f4))) else (spec_GoodChanges.j1 k x0 x8 x9 x10 true ((rd_T56 x8 x10).f0) ((rd_T56 x8 x10).f1) ((rd_T56 x8 x10).f2) ((rd_T56 x8 x10).f3) ((rd_T56 x8 x10).f4)))) else (spec_GoodChanges.j1 k x0 x8 x9 x10 true ((rd_T56 x8 x10).f0) ((rd_T56 x8 x10).f1) ((rd_T56 x8 x10).f2) ((rd_T56 x8 x10).f3) ((rd_T56 x8 x10).f4))))) else (none)) else (none)) else ((spec_l1In.f ((rd_T56 x8 x10).f1) 1 5).bind fun t121 => (if t121 = true then ((spec_GoodName.f k ((rd_T56 x8 x10).f2)).bind fun t122 => (if t122 = true then ((spec_l1In.f ((rd_T56 x8 x10).f4) (-1000000) 1000000).bind fun t123 => (spec_GoodChanges.j1 k x0 x8 x9 x10 (!t123) ((rd_T56 x8 x10).f0) ((rd_T56 x8 x10).f1) ((rd_T56 x8 x10).f2) ((rd_T56 x8 x10).f3) ((rd_T56 x8 x10).f4))) else (spec_GoodChanges.j1 k x0 x8 x9 x10 true ((rd_T56 x8 x10).f0) ((rd_T56 x8 x10).f1) ((rd_T56 x8 x10).f2) ((rd_T56 x8 x10).f3) ((rd_T56 x8 x10).f4)))) else (spec_GoodChanges.j1 k x0 x8 x9 x10 true ((rd_T56 x8 x10).f0) ((rd_T56 x8 x10).f1) ((rd_T56 x8 x10).f2) ((rd_T56 x8 x10).f3) ((rd_T56 x8 x10).f4))))) else (spec_GoodChanges.j1 k x0 x8 x9 x10 true ((rd_T56 x8 x10).f0) ((rd_T56 x8 x10).f1) ((rd_T56 x8 x10).f2) ((rd_T56 x8 x10).f3) ((rd_T56 x8 x10).f4)))) else (none)) else (none)) else (some true)) r) : Ev (fun k => spec_GoodChanges.l0 k x0 x8 x9 x10) r := Ev.step (fun k => by rw [spec_GoodChanges.l0]) h
theorem st_spec_GoodChanges_j1 {r : (Bool)} {x0 : List (S56)} {x8 : List (S56)} {x9 : Int} {x10 : Int} {x51 : Bool} {x116000 : Int} {x116001 : Int} {x116002 : ByteArray} {x116003 : ByteArray} {x116004 : Int} (h : Ev (fun k => if x51 = true then (some false) else (if x116001 = 1 then ((spec_GoodName.f k x116003).bind fun t124 => (if t124 = true then (spec_GoodChanges.j2 k x0 x8 x9 x10 false x116000 x116001 x116002 x116003 x116004) else (spec_GoodChanges.j2 k x0 x8 x9 x10 true x116000 x116001 x116002 x116003 x116004))) else (spec_GoodChanges.j2 k x0 x8 x9 x10 (x116003.toList != ([] : List UInt8)) x116000 x116001 x116002 x116003 x116004))) r) : Ev (fun k => spec_GoodChanges.j1 k x0 x8 x9 x10 x51 x116000 x116001 x116002 x116003 x116004) r := Ev.step (fun k => by rw [spec_GoodChanges.j1]) h
theorem st_spec_GoodChanges_j2 {r : (Bool)} {x0 : List (S56)} {x8 : List (S56)} {x9 : Int} {x10 : Int} {x70 : Bool} {x116000 : Int} {x116001 : Int} {x116002 : ByteArray} {x116003 : ByteArray} {x116004 : Int} (h : Ev (fun k => if x70 = true then (some false) else (if x116001 = 1 then (if x116004 = 0 then (spec_GoodChanges.l0 k x0 x8 x9 (wrap64 (x10 + 1))) else (some false)) else (if x116001 = 4 then (if x116004 = 0 then (spec_GoodChanges.l0 k x0 x8 x9 (wrap64 (x10 + 1))) else (some false)) else (spec_GoodChanges.l0 k x0 x8 x9 (wrap64 (x10 + 1)))))) r) : Ev (fun k => spec_GoodChanges.j2 k x0 x8 x9 x10 x70 x116000 x116001 x116002 x116003 x116004) r := Ev.step (fun k => by rw [spec_GoodChanges.j2]) h
theorem st_spec_l22At_l0 {r : (Int)} {x1 : ByteArray} {x7 : List (S59)} {x8 : Int} {x9 : Int} (h : Ev (fun k => if x9 < x8 then (if 0 ≤ x9 then (if x9 < (x7.length : Int) then (if ((rd_T59 x7 x9).f0).toList = x1.toList then (some x9) else (spec_l22At.l0 k x1 x7 x8 (wrap64 (x9 + 1)))) else (none)) else (none)) else (some (-1))) r) : Ev (fun k => spec_l22At.l0 k x1 x7 x8 x9) r := Ev.step (fun k => by rw [spec_l22At.l0]) h
theorem st_spec_l22Put_l0 {r : ((List (S59)))} {x0 : List (S59)} {x5 : Int} {x128000 : ByteArray} {x128001 : Int} {x128002 : ByteArray} (h : Ev (fun k => if x5 < (x0.length : Int) then (if 0 ≤ x5 then (if (Op.bytesLess (((rd_T59 x0 x5).f0).toList) x128000.toList) = true then (spec_l22Put.l0 k x0 (wrap64 (x5 + 1)) x128000 x128001 x128002) else (if x5 ≤ (x0.length : Int) then ((some (x0.take (x5 : Int).toNat : List (S59))).bind fun y129 => (if ([] : List (S59)).length + y129.length < 3518437208883 then ((some (([] : List (S59)) ++ y129 : List (S59))).bind fun y133 => (if y133.length < 3518437208883 then ((some (y133 ++ [(⟨x128000, x128001, x128002⟩ : S59)] : List (S59))).bind fun y136 => ((some (x0.drop (x5 : Int).toNat : List (S59))).bind fun y139 => (if y136.length + y139.length < 3518437208883 then (some (y136 ++ y139)) else (none)))) else (none))) else (none))) else (none))) else (none)) else (if 0 ≤ x5 then (if x5 ≤ (x0.length : Int) then ((some (x0.take (x5 : Int).toNat : List (S59))).bind fun y146 => (if ([] : List (S59)).length + y146.length < 3518437208883 then ((some (([] : List (S59)) ++ y146 : List (S59))).bind fun y150 => (if y150.length < 3518437208883 then ((some (y150 ++ [(⟨x128000, x128001, x128002⟩ : S59)] : List (S59))).bind fun y153 => ((some (x0.drop (x5 : Int).toNat : List (S59))).bind fun y156 => (if y153.length + y156.length < 3518437208883 then (some (y153 ++ y156)) else (none)))) else (none))) else (none))) else (none)) else (none))) r) : Ev (fun k => spec_l22Put.l0 k x0 x5 x128000 x128001 x128002) r := Ev.step (fun k => by rw [spec_l22Put.l0]) h
theorem st_spec_MigrateSave_j0 {r : ((List (S59)) × Bool)} {x0 : Int} {x1 : List (S59)} {x2 : List (S56)} {x27 : Bool} (h : Ev (fun k => if x27 = true then (some (([] : List (S59)), false)) else ((some (([] : List (S59)) : List (S59))).bind fun y189 => (if y189.length + x1.length < 3518437208883 then (spec_MigrateSave.l0 k x0 (y189 ++ x1) x2 (x2.length : Int) 0) else (none)))) r) : Ev (fun k => spec_MigrateSave.j0 k x0 x1 x2 x27) r := Ev.step (fun k => by rw [spec_MigrateSave.j0]) h
theorem st_spec_MigrateSave_l0 {r : ((List (S59)) × Bool)} {x0 : Int} {x8 : List (S59)} {x31 : List (S56)} {x32 : Int} {x33 : Int} (h : Ev (fun k => if x33 < x32 then (if 0 ≤ x33 then (if x33 < (x31.length : Int) then (if ((rd_T56 x31 x33).f0) < x0 then (spec_MigrateSave.l0 k x0 x8 x31 x32 (wrap64 (x33 + 1))) else ((spec_l22At.f k x8 ((rd_T56 x31 x33).f2)).bind fun t197 => (if ((rd_T56 x31 x33).f1) = 5 then (if t197 < 0 then ((spec_l22Put.f k x8 ((rd_T56 x31 x33).f2) ((rd_T56 x31 x33).f4) (⟨#[]⟩ : ByteArray)).bind fun t198 => (if (t198.length : Int) > 30 then (some (([] : List (S59)), false)) else (spec_MigrateSave.l0 k x0 t198 x31 x32 (wrap64 (x33 + 1))))) else (if (x8.length : Int) > 30 then (some (([] : List (S59)), false)) else (spec_MigrateSave.l0 k x0 x8 x31 x32 (wrap64 (x33 + 1))))) else (if t197 < 0 then (spec_MigrateSave.l0 k x0 x8 x31 x32 (wrap64 (x33 + 1))) else (if ((rd_T56 x31 x33).f1) = 1 then ((spec_l22At.f k x8 ((rd_T56 x31 x33).f3)).bind fun t201 => (if t201 ≥ 0 then (some (([] : List (S59)), false)) else (if 0 ≤ t197 then (if t197 < (x8.length : Int) then ((spec_l22Drop.f x8 t197).bind fun t204 => ((spec_l22Put.f k t204 ((rd_T56 x31 x33).f3) ((rd_T59 x8 t197).f1) ((rd_T59 x8 t197).f2)).bind fun t207 => (spec_MigrateSave.l0 k x0 t207 x31 x32 (wrap64 (x33 + 1))))) else (none)) else (none)))) else (if ((rd_T56 x31 x33).f1) = 4 then ((spec_l22Drop.f x8 t197).bind fun t210 => (spec_MigrateSave.l0 k x0 t210 x31 x32 (wrap64 (x33 + 1)))) else (if 0 ≤ t197 then (if t197 < (x8.length : Int) then ((spec_l22Turn.f ((rd_T56 x31 x33).f0) ((rd_T56 x31 x33).f1) ((rd_T56 x31 x33).f2) ((rd_T56 x31 x33).f3) ((rd_T56 x31 x33).f4) ((rd_T59 x8 t197).f1)).bind fun bt214 => (if bt214.2 = true then (spec_MigrateSave.l0 k x0 (x8.set (t197 : Int).toNat (⟨(rd_T59 x8 t197).f0, bt214.1, (rd_T59 x8 t197).f2⟩ : S59)) x31 x32 (wrap64 (x33 + 1))) else (some (([] : List (S59)), false)))) else (none)) else (none)))))))) else (none)) else (none)) else (some (x8, true))) r) : Ev (fun k => spec_MigrateSave.l0 k x0 x8 x31 x32 x33) r := Ev.step (fun k => by rw [spec_MigrateSave.l0]) h
theorem st_impl_GoodName_l0 {r : (Bool)} {x0 : ByteArray} {x5 : Int} {x6 : Int} (h : Ev (fun k => if x6 < x5 then (if 0 ≤ x6 then (if x6 < (x0.size : Int) then ((impl_isLetter.f (bt x0 x6)).bind fun t242 => (if t242 = true then (impl_GoodName.l0 k x0 x5 (wrap64 (x6 + 1))) else (if (bt x0 x6) = 95 then (impl_GoodName.l0 k x0 x5 (wrap64 (x6 + 1))) else (if x6 = 0 then (some false) else ((impl_isDigit.f (bt x0 x6)).bind fun t243 => (if t243 = true then (impl_GoodName.l0 k x0 x5 (wrap64 (x6 + 1))) else (some false))))))) else (none)) else (none)) else ((impl_inRange.f (x0.size : Int) 1 20).bind fun t241 => (some t241))) r) : Ev (fun k => impl_GoodName.l0 k x0 x5 x6) r := Ev.step (fun k => by rw [impl_GoodName.l0]) h
theorem st_impl_isChange_j0 {r : (Bool)} {x3 : Bool} {x250000 : Int} {x250001 : Int} {x250002 : ByteArray} {x250003 : ByteArray} {x250004 : Int} (h : Ev (fun k => if x250001 = 1 then ((impl_GoodName.f k x250003).bind fun t250 => (if t250 = true then (if x3 = true then (impl_isChange.j1 k false x250000 x250001 x250002 x250003 x250004) else (impl_isChange.j1 k (x250004 != 0) x250000 x250001 x250002 x250003 x250004)) else (impl_isChange.j1 k true x250000 x250001 x250002 x250003 x250004))) else (if x250003.toList = ([] : List UInt8) then (if x3 = true then (impl_isChange.j1 k false x250000 x250001 x250002 x250003 x250004) else (impl_isChange.j1 k (x250004 != 0) x250000 x250001 x250002 x250003 x250004)) else (impl_isChange.j1 k true x250000 x250001 x250002 x250003 x250004))) r) : Ev (fun k => impl_isChange.j0 k x3 x250000 x250001 x250002 x250003 x250004) r := Ev.step (fun k => by rw [impl_isChange.j0]) h
theorem st_impl_isChange_j1 {r : (Bool)} {x44 : Bool} {x250000 : Int} {x250001 : Int} {x250002 : ByteArray} {x250003 : ByteArray} {x250004 : Int} (h : Ev (fun k => if x44 = true then (some false) else ((impl_inRange.f x250000 1 2).bind fun t251 => (if t251 = true then ((impl_inRange.f x250001 1 5).bind fun t252 => (if t252 = true then ((impl_GoodName.f k x250002).bind fun t253 => (if t253 = true then ((impl_isFar.f x250004).bind fun t254 => (some t254)) else (some false))) else (some false))) else (some false)))) r) : Ev (fun k => impl_isChange.j1 k x44 x250000 x250001 x250002 x250003 x250004) r := Ev.step (fun k => by rw [impl_isChange.j1]) h
theorem inr_some (a b c : Int) : impl_inRange.f a b c = some (decide (b ≤ a ∧ a ≤ c)) := by
  unfold impl_inRange.f
  split <;> simp_all <;> omega
theorem in_some (a b c : Int) : spec_l1In.f a b c = some (decide (b ≤ a ∧ a ≤ c)) := by
  unfold spec_l1In.f
  split <;> simp_all <;> omega
def nameChar (c : Int) : Bool := decide (97 ≤ c ∧ c ≤ 122) || decide (65 ≤ c ∧ c ≤ 90) || decide (c = 95)
def digitChar (c : Int) : Bool := decide (48 ≤ c ∧ c ≤ 57)
def CharOk (s : ByteArray) (i : Nat) : Prop := nameChar (bt s (i : Int)) = true ∨ 0 < i ∧ digitChar (bt s (i : Int)) = true
def NameOk (s : ByteArray) : Prop := (1 ≤ s.size ∧ s.size ≤ 20) ∧ ∀ i, i < s.size → CharOk s i
theorem letter_spec (c : Int) : spec_l1Letter.f c = some (nameChar c) := by
  unfold spec_l1Letter.f nameChar
  repeat' split
  all_goals (congr 1; rw [Bool.eq_iff_iff]; simp; try omega)
theorem digit_spec (c : Int) : spec_l1Digit.f c = some (digitChar c) := by
  unfold spec_l1Digit.f digitChar
  repeat' split
  all_goals (congr 1; rw [Bool.eq_iff_iff]; simp; try omega)
theorem digit_impl (c : Int) : impl_isDigit.f c = some (digitChar c) := by
  unfold impl_isDigit.f digitChar
  repeat' split
  all_goals (congr 1; rw [Bool.eq_iff_iff]; simp; try omega)
theorem letter_impl (c : Int) : ∃ b, impl_isLetter.f c = some b ∧ (nameChar c = true ↔ b = true ∨ c = 95) := by
  unfold impl_isLetter.f nameChar
  repeat' split
  all_goals (refine ⟨_, rfl, ?_⟩; simp; try omega)
theorem name_impl (s : ByteArray) (hs : s.size ≤ 140737488351232) (b : Bool) (hb : b = true ↔ NameOk s) : Ev (fun k => impl_GoodName.f k s) b := by
  refine ev_all s.size (fun k i => impl_GoodName.l0 k s (s.size : Int) (i : Int)) (CharOk s) (decide (1 ≤ (s.size : Int) ∧ (s.size : Int) ≤ 20)) b ?_ ?_ ?_ ?_
  · rw [hb]; unfold NameOk; simp; omega
  · exact st_impl_GoodName_l0 (ev_neg (by omega) (ev_bindc (inr_some _ _ _) (ev_some rfl)))
  · intro i hi _ ho r hr
    refine st_impl_GoodName_l0 (ev_pos (by omega) (ev_pos (by omega) (ev_pos (by omega) ?_)))
    obtain ⟨q, hq, hn⟩ := letter_impl (bt s (i : Int))
    rw [w64s i (by omega)]
    refine ev_bindc hq (ev_ite (fun _ => hr) fun h1 => ev_ite (fun _ => hr) fun h2 => ?_)
    rcases ho with ho | ⟨ho, hd⟩
    · rcases hn.1 ho with h | h
      · exact absurd h h1
      · exact absurd h h2
    · exact ev_neg (by omega) (ev_bindc (digit_impl _) (ev_pos hd hr))
  · intro i hi _ ho
    refine st_impl_GoodName_l0 (ev_pos (by omega) (ev_pos (by omega) (ev_pos (by omega) ?_)))
    obtain ⟨q, hq, hn⟩ := letter_impl (bt s (i : Int))
    refine ev_bindc hq (ev_ite (fun h => absurd (.inl (hn.2 (.inl h))) ho) fun h1 => ev_ite (fun h => absurd (.inl (hn.2 (.inr h))) ho) fun h2 => ev_ite (fun _ => ev_some rfl) fun h3 => ?_)
    exact ev_bindc (digit_impl _) (ev_neg (fun h => ho (.inr ⟨by omega, h⟩)) (ev_some rfl))
theorem name_spec (s : ByteArray) (b : Bool) (hb : b = true ↔ NameOk s) : Ev (fun k => spec_GoodName.f k s) b := by
  have j0t : Ev (fun k => spec_GoodName.j0 k s true) false := st_spec_GoodName_j0 (ev_pos rfl (ev_some rfl))
  by_cases h1 : (s.size : Int) < 1
  · rw [bool_false hb (fun h => by have := h.1; omega)]
    exact ev_pos h1 j0t
  · by_cases h2 : (s.size : Int) > 20
    · rw [bool_false hb (fun h => by have := h.1; omega)]
      exact ev_neg h1 (ev_pos h2 j0t)
    · refine ev_neg h1 (ev_neg h2 (ev_pos (by omega) (ev_bindc (digit_spec _) ?_)))
      cases hd : digitChar (bt s 0) with
      | true =>
        rw [bool_false hb (fun h => by
          have h0 : CharOk s 0 := h.2 0 (by omega)
          rcases h0 with h0 | h0
          · have h0 : nameChar (bt s 0) = true := h0
            generalize bt s 0 = c at hd h0
            simp [nameChar, digitChar] at hd h0; omega
          · omega)]
        exact j0t
      | false =>
        refine st_spec_GoodName_j0 (ev_neg (by decide) ?_)
        refine ev_all s.size (fun k i => spec_GoodName.l0 k s (i : Int)) (CharOk s) true b ?_ ?_ ?_ ?_
        · rw [hb]; unfold NameOk; constructor
          · exact fun h => ⟨rfl, h.2⟩
          · exact fun h => ⟨by omega, h.2⟩
        · exact st_spec_GoodName_l0 (ev_neg (by omega) (ev_some rfl))
        · intro i hi _ ho r hr
          refine st_spec_GoodName_l0 (ev_pos (by omega) (ev_pos (by omega) (ev_bindc (letter_spec _) (ev_ite (fun _ => by rw [w64s i (by omega)]; exact hr) fun hl => ev_bindc (digit_spec _) ?_))))
          rcases ho with ho | ⟨_, ho⟩
          · exact absurd ho hl
          · refine ev_pos ho ?_
            rw [w64s i (by omega)]; exact hr
        · intro i hi _ ho
          refine st_spec_GoodName_l0 (ev_pos (by omega) (ev_pos (by omega) (ev_bindc (letter_spec _) (ev_neg (fun h => ho (.inl h)) (ev_bindc (digit_spec _) (ev_neg (fun h => ho ?_) (ev_some rfl)))))))
          rcases Nat.eq_zero_or_pos i with rfl | hp
          · have h' : digitChar (bt s 0) = true := h
            rw [hd] at h'; cases h'
          · exact .inr ⟨hp, h⟩
def Fit49 (x : S49) : Prop := (x.f0.size ≤ 1048576) ∧ (x.f2.size ≤ 1048576)
theorem szValue_some (a0 : ByteArray) (a1 : Int) (a2 : ByteArray) (ga0 : a0.size ≤ 140737488351232) (ga1 : In64 a1) (ga2 : a2.size ≤ 140737488351232) (left : Int) (h0 : 0 ≤ left) (h1 : left ≤ 1048576) : ∃ r, Ev (fun _ => laws_szValue.f a0 a1 a2 left) r ∧ (r < 0 ∨ 0 ≤ r ∧ r ≤ left ∧ (a0.size ≤ 1048576) ∧ (a2.size ≤ 1048576)) := by
  unfold laws_szValue.f
  have e0 : wrap64 (left - (a0.size : Int)) = left - (a0.size : Int) := w64 (by omega) (by omega)
  rw [e0]
  refine exev_ite (fun _ => exev_some (.inl (by omega))) fun c0 => ?_
  have e1 : wrap64 ((left - (a0.size : Int)) - (a2.size : Int)) = (left - (a0.size : Int)) - (a2.size : Int) := w64 (by omega) (by omega)
  rw [e1]
  refine exev_ite (fun _ => exev_some (.inl (by omega))) fun c1 => ?_
  exact exev_some (.inr ⟨by omega, by omega, (by omega), (by omega)⟩)
theorem szValueS_some (xs : List S49) (g : xs.length * 40 ≤ 140737488351232 ∧ ∀ y ∈ xs, Ok49 y) (left : Int) (h0 : 0 ≤ left) (h1 : left ≤ 1048576) : ∃ r, Ev (fun k => laws_szValueS.f k xs left) r ∧ (r < 0 ∨ 0 ≤ r ∧ r ≤ left ∧ (xs.length ≤ 1048576 ∧ ∀ y ∈ xs, Fit49 y)) := by
  have g1 := g.1
  unfold laws_szValueS.f
  rw [w64 (n := left - (xs.length : Int)) (by omega) (by omega)]
  refine exev_ite (fun _ => exev_some (.inl (by omega))) fun hc => ?_
  have he : ∀ i : Nat, ∀ hi : i < xs.length, ∀ c : Int, 0 ≤ c → c ≤ left - (xs.length : Int) → ∃ r, Ev (fun k => laws_szValue.f ((rd_T49 xs (i : Int)).f0) ((rd_T49 xs (i : Int)).f1) ((rd_T49 xs (i : Int)).f2) c) r ∧ (r < 0 ∨ 0 ≤ r ∧ r ≤ c ∧ Fit49 xs[i]) := by
    intro i hi c h0 h1
    have e : rd_T49 xs (i : Int) = xs[i] := getD_get hi
    rw [e]
    have gx := g.2 _ (List.getElem_mem hi)
    obtain ⟨r, hr, hq⟩ := szValue_some _ _ _ (gx.1) (gx.2.1) (gx.2.2) c h0 (by omega)
    exact ⟨r, hr, hq⟩
  obtain ⟨r, hr, hq⟩ := ev_size laws_szValueS.l0 (fun _ xs c i => laws_szValue.f ((rd_T49 xs i).f0) ((rd_T49 xs i).f1) ((rd_T49 xs i).f2) c) (fun y => Fit49 y) (fun _ _ _ _ => rfl) xs (by omega) (left - (xs.length : Int)) (by omega) he
  refine ⟨r, hr, ?_⟩
  rcases hq with hq | ⟨q0, q1, q2⟩
  · exact .inl hq
  · exact .inr ⟨q0, by omega, by omega, q2⟩
def Fit52 (x : S52) : Prop := (x.f2.size ≤ 1048576) ∧ (x.f3.size ≤ 1048576)
theorem szChange_some (a0 : Int) (a1 : Int) (a2 : ByteArray) (a3 : ByteArray) (a4 : Int) (ga0 : In64 a0) (ga1 : In64 a1) (ga2 : a2.size ≤ 140737488351232) (ga3 : a3.size ≤ 140737488351232) (ga4 : In64 a4) (left : Int) (h0 : 0 ≤ left) (h1 : left ≤ 1048576) : ∃ r, Ev (fun _ => laws_szChange.f a0 a1 a2 a3 a4 left) r ∧ (r < 0 ∨ 0 ≤ r ∧ r ≤ left ∧ (a2.size ≤ 1048576) ∧ (a3.size ≤ 1048576)) := by
  unfold laws_szChange.f
  have e0 : wrap64 (left - (a2.size : Int)) = left - (a2.size : Int) := w64 (by omega) (by omega)
  rw [e0]
  refine exev_ite (fun _ => exev_some (.inl (by omega))) fun c0 => ?_
  have e1 : wrap64 ((left - (a2.size : Int)) - (a3.size : Int)) = (left - (a2.size : Int)) - (a3.size : Int) := w64 (by omega) (by omega)
  rw [e1]
  refine exev_ite (fun _ => exev_some (.inl (by omega))) fun c1 => ?_
  exact exev_some (.inr ⟨by omega, by omega, (by omega), (by omega)⟩)
theorem szChangeS_some (xs : List S52) (g : xs.length * 56 ≤ 140737488351232 ∧ ∀ y ∈ xs, Ok52 y) (left : Int) (h0 : 0 ≤ left) (h1 : left ≤ 1048576) : ∃ r, Ev (fun k => laws_szChangeS.f k xs left) r ∧ (r < 0 ∨ 0 ≤ r ∧ r ≤ left ∧ (xs.length ≤ 1048576 ∧ ∀ y ∈ xs, Fit52 y)) := by
  have g1 := g.1
  unfold laws_szChangeS.f
  rw [w64 (n := left - (xs.length : Int)) (by omega) (by omega)]
  refine exev_ite (fun _ => exev_some (.inl (by omega))) fun hc => ?_
  have he : ∀ i : Nat, ∀ hi : i < xs.length, ∀ c : Int, 0 ≤ c → c ≤ left - (xs.length : Int) → ∃ r, Ev (fun k => laws_szChange.f ((rd_T52 xs (i : Int)).f0) ((rd_T52 xs (i : Int)).f1) ((rd_T52 xs (i : Int)).f2) ((rd_T52 xs (i : Int)).f3) ((rd_T52 xs (i : Int)).f4) c) r ∧ (r < 0 ∨ 0 ≤ r ∧ r ≤ c ∧ Fit52 xs[i]) := by
    intro i hi c h0 h1
    have e : rd_T52 xs (i : Int) = xs[i] := getD_get hi
    rw [e]
    have gx := g.2 _ (List.getElem_mem hi)
    obtain ⟨r, hr, hq⟩ := szChange_some _ _ _ _ _ (gx.1) (gx.2.1) (gx.2.2.1) (gx.2.2.2.1) (gx.2.2.2.2) c h0 (by omega)
    exact ⟨r, hr, hq⟩
  obtain ⟨r, hr, hq⟩ := ev_size laws_szChangeS.l0 (fun _ xs c i => laws_szChange.f ((rd_T52 xs i).f0) ((rd_T52 xs i).f1) ((rd_T52 xs i).f2) ((rd_T52 xs i).f3) ((rd_T52 xs i).f4) c) (fun y => Fit52 y) (fun _ _ _ _ => rfl) xs (by omega) (left - (xs.length : Int)) (by omega) he
  refine ⟨r, hr, ?_⟩
  rcases hq with hq | ⟨q0, q1, q2⟩
  · exact .inl hq
  · exact .inr ⟨q0, by omega, by omega, q2⟩
def cv49 (x : S49) : S59 := ⟨x.f0, x.f1, x.f2⟩
def Fit59 (x : S59) : Prop := (x.f0.size ≤ 1048576) ∧ (x.f2.size ≤ 1048576)
theorem fit_cv49 {x : S49} (h : Fit49 x) : Fit59 (cv49 x) := by
  obtain ⟨h0, h1⟩ := h
  exact ⟨h0, h1⟩
theorem toValueS_ev (xs : List S49) (h : (xs.length ≤ 1048576 ∧ ∀ y ∈ xs, Fit49 y)) : Ev (fun k => laws_toValueS.f k xs) (xs.map cv49) := by
  refine ev_pos (by omega) (ev_pos (by have := h.1; omega) ?_)
  refine ev_copy2 laws_toValueS.l0 (fun k xs i => laws_toValue.f ((rd_T49 xs i).f0) ((rd_T49 xs i).f1) ((rd_T49 xs i).f2)) (fun t => (⟨t.1, t.2.1, t.2.2⟩ : S59)) cv49 (fun _ _ _ _ => rfl) xs (by have := h.1; omega) (fun i hi => ?_) _ (by simp)
  · have e : rd_T49 xs (i : Int) = xs[i] := getD_get hi
    rw [e]
    exact ⟨_, ev_eq rfl, rfl⟩
def cv52 (x : S52) : S56 := ⟨x.f0, x.f1, x.f2, x.f3, x.f4⟩
def Fit56 (x : S56) : Prop := (x.f2.size ≤ 1048576) ∧ (x.f3.size ≤ 1048576)
theorem fit_cv52 {x : S52} (h : Fit52 x) : Fit56 (cv52 x) := by
  obtain ⟨h0, h1⟩ := h
  exact ⟨h0, h1⟩
theorem toChangeS_ev (xs : List S52) (h : (xs.length ≤ 1048576 ∧ ∀ y ∈ xs, Fit52 y)) : Ev (fun k => laws_toChangeS.f k xs) (xs.map cv52) := by
  refine ev_pos (by omega) (ev_pos (by have := h.1; omega) ?_)
  refine ev_copy2 laws_toChangeS.l0 (fun k xs i => laws_toChange.f ((rd_T52 xs i).f0) ((rd_T52 xs i).f1) ((rd_T52 xs i).f2) ((rd_T52 xs i).f3) ((rd_T52 xs i).f4)) (fun t => (⟨t.1, t.2.1, t.2.2.1, t.2.2.2.1, t.2.2.2.2⟩ : S56)) cv52 (fun _ _ _ _ => rfl) xs (by have := h.1; omega) (fun i hi => ?_) _ (by simp)
  · have e : rd_T52 xs (i : Int) = xs[i] := getD_get hi
    rw [e]
    exact ⟨_, ev_eq rfl, rfl⟩
theorem eqValue_self (a0 : ByteArray) (a1 : Int) (a2 : ByteArray) : laws_eqValue.f a0 a1 a2 a0 a1 a2 = some true := by
  simp [laws_eqValue.f]
theorem eqValueS_ev (xs : List S59) (h : (xs.length ≤ 1048576 ∧ ∀ y ∈ xs, Fit59 y)) : Ev (fun k => laws_eqValueS.f k xs xs) true := by
  refine ev_pos rfl (ev_alike_self laws_eqValueS.l0 (fun k xs ys i => laws_eqValue.f ((rd_T59 xs i).f0) ((rd_T59 xs i).f1) ((rd_T59 xs i).f2) ((rd_T59 ys i).f0) ((rd_T59 ys i).f1) ((rd_T59 ys i).f2)) (fun _ _ _ _ => rfl) xs (by have := h.1; omega) (fun i hi => ?_))
  · exact ev_eq (eqValue_self _ _ _)
theorem eqChange_self (a0 : Int) (a1 : Int) (a2 : ByteArray) (a3 : ByteArray) (a4 : Int) : laws_eqChange.f a0 a1 a2 a3 a4 a0 a1 a2 a3 a4 = some true := by
  simp [laws_eqChange.f]
theorem eqChangeS_ev (xs : List S56) (h : (xs.length ≤ 1048576 ∧ ∀ y ∈ xs, Fit56 y)) : Ev (fun k => laws_eqChangeS.f k xs xs) true := by
  refine ev_pos rfl (ev_alike_self laws_eqChangeS.l0 (fun k xs ys i => laws_eqChange.f ((rd_T56 xs i).f0) ((rd_T56 xs i).f1) ((rd_T56 xs i).f2) ((rd_T56 xs i).f3) ((rd_T56 xs i).f4) ((rd_T56 ys i).f0) ((rd_T56 ys i).f1) ((rd_T56 ys i).f2) ((rd_T56 ys i).f3) ((rd_T56 ys i).f4)) (fun _ _ _ _ => rfl) xs (by have := h.1; omega) (fun i hi => ?_))
  · exact ev_eq (eqChange_self _ _ _ _ _)
def ValueOk (xs : List S59) (i : Nat) : Prop :=
  NameOk (rd_T59 xs i).f0 ∧ (rd_T59 xs i).f2.size ≤ 100 ∧ (0 < i → Op.bytesLess (rd_T59 xs ((i : Int) - 1)).f0.toList (rd_T59 xs i).f0.toList = true)
def ValuesOk (xs : List S59) : Prop := xs.length ≤ 30 ∧ ∀ i, i < xs.length → ValueOk xs i
theorem values_spec (xs : List S59) (b : Bool) (hb : b = true ↔ ValuesOk xs) : Ev (fun k => spec_GoodValues.f k xs) b := by
  refine ev_ite (fun h => ev_some (bool_false hb (fun h' => by have := h'.1; omega)).symm) fun h => ?_
  refine ev_all xs.length (fun k i => spec_GoodValues.l0 k xs xs (xs.length : Int) (i : Int)) (ValueOk xs) true b ?_ ?_ ?_ ?_
  · rw [hb]; unfold ValuesOk; constructor
    · exact fun h => ⟨rfl, h.2⟩
    · exact fun h' => ⟨by omega, h'.2⟩
  · exact Ev.step (fun _ => rfl) (ev_neg (by omega) (ev_some rfl))
  · intro i hi _ ⟨h0, h1, h2⟩ r hr
    refine Ev.step (fun _ => rfl) (ev_pos (by omega) (ev_pos (by omega) (ev_pos (by omega) (Ev.bind (name_spec _ true ⟨fun _ => h0, fun _ => rfl⟩) (ev_pos rfl (ev_neg (by omega) ?_))))))
    rw [w64s i (by omega), w64 (n := (i : Int) - 1) (by omega) (by omega)]
    exact ev_ite (fun hp => ev_pos (by omega) (ev_pos (by omega) (ev_pos (h2 (by omega)) hr))) fun _ => hr
  · intro i hi _ ho
    obtain ⟨c, hc⟩ := bool_of (NameOk (rd_T59 xs i).f0)
    refine Ev.step (fun _ => rfl) (ev_pos (by omega) (ev_pos (by omega) (ev_pos (by omega) (Ev.bind (name_spec _ c hc) (ev_ite (fun h0 => ev_ite (fun _ => ev_some rfl) fun h1 => ?_) fun _ => ev_some rfl)))))
    rw [w64 (n := (i : Int) - 1) (by omega) (by omega)]
    refine ev_ite (fun hp => ev_pos (by omega) (ev_pos (by omega) (ev_ite (fun h2 => absurd ⟨hc.1 h0, by omega, fun _ => h2⟩ ho) fun _ => ev_some rfl))) fun hp => absurd ⟨hc.1 h0, by omega, fun h => by omega⟩ ho
theorem values_impl (xs : List S59) (hx : xs.length ≤ 1048576 ∧ ∀ y ∈ xs, Fit59 y) (b : Bool) (hb : b = true ↔ ValuesOk xs) : Ev (fun k => impl_GoodValues.f k xs) b := by
  have hn : ∀ i : Nat, i < xs.length → (rd_T59 xs i).f0.size ≤ 140737488351232 := by
    intro i hi
    have e : rd_T59 xs (i : Int) = xs[i] := getD_get hi
    rw [e]
    have := (hx.2 _ (List.getElem_mem hi)).1
    omega
  have hl := hx.1
  refine ev_all xs.length (fun k i => impl_GoodValues.l0 k xs xs (xs.length : Int) (i : Int)) (ValueOk xs) (decide ((xs.length : Int) ≤ 30)) b ?_ ?_ ?_ ?_
  · rw [hb]; unfold ValuesOk; rw [decide_eq_true_eq]; constructor <;> (rintro ⟨h1, h2⟩; exact ⟨by omega, h2⟩)
  · exact Ev.step (fun _ => rfl) (ev_neg (by omega) (ev_some rfl))
  · intro i hi _ ⟨h0, h1, h2⟩ r hr
    refine Ev.step (fun _ => rfl) (ev_pos (by omega) (ev_pos (by omega) (ev_pos (by omega) (Ev.bind (name_impl _ (hn i hi) true ⟨fun _ => h0, fun _ => rfl⟩) (ev_pos rfl ?_)))))
    rw [w64s i (by omega), w64 (n := (i : Int) - 1) (by omega) (by omega)]
    exact ev_ite (fun hp => ev_pos (by omega) (ev_pos (by omega) (ev_pos (h2 (by omega)) (ev_neg (by omega) hr)))) fun _ => ev_neg (by omega) hr
  · intro i hi _ ho
    obtain ⟨c, hc⟩ := bool_of (NameOk (rd_T59 xs i).f0)
    refine Ev.step (fun _ => rfl) (ev_pos (by omega) (ev_pos (by omega) (ev_pos (by omega) (Ev.bind (name_impl _ (hn i hi) c hc) (ev_ite (fun h0 => ?_) fun _ => ev_some rfl)))))
    rw [w64 (n := (i : Int) - 1) (by omega) (by omega)]
    refine ev_ite (fun hp => ev_pos (by omega) (ev_pos (by omega) (ev_ite (fun h2 => ev_ite (fun _ => ev_some rfl) fun h1 => absurd ⟨hc.1 h0, by omega, fun _ => h2⟩ ho) fun _ => ev_some rfl))) fun hp => ev_ite (fun _ => ev_some rfl) fun h1 => absurd ⟨hc.1 h0, by omega, fun h => by omega⟩ ho
theorem values_same (xs : List S59) (hx : xs.length ≤ 1048576 ∧ ∀ y ∈ xs, Fit59 y) : ∃ b, Ev (fun k => spec_GoodValues.f k xs) b ∧ Ev (fun k => impl_GoodValues.f k xs) b ∧ (b = true ↔ ValuesOk xs) := by
  obtain ⟨b, hb⟩ := bool_of (ValuesOk xs)
  exact ⟨b, values_spec xs b hb, values_impl xs hx b hb, hb⟩
def Rest (F K : Int) (N : ByteArray) (B : Int) : Prop := (1 ≤ F ∧ F ≤ 2) ∧ (1 ≤ K ∧ K ≤ 5) ∧ NameOk N ∧ (-1000000 ≤ B ∧ B ≤ 1000000)
def ToOk (K : Int) (T : ByteArray) : Prop := (K = 1 → NameOk T) ∧ (¬ K = 1 → T.toList = [])
def ByOk (K B : Int) : Prop := K = 1 ∨ K = 4 → B = 0
def ChangeOk (F K : Int) (N T : ByteArray) (B : Int) : Prop := Rest F K N B ∧ ToOk K T ∧ ByOk K B
theorem far_some (n : Int) : impl_isFar.f n = some (decide (-1000000 ≤ n ∧ n ≤ 1000000)) := by unfold impl_isFar.f; rw [inr_some]; rfl
theorem ic_j1t (F K : Int) (N T : ByteArray) (B : Int) : Ev (fun k => impl_isChange.j1 k true F K N T B) false := st_impl_isChange_j1 (ev_pos rfl (ev_some rfl))
theorem ic_j1f (F K : Int) (N T : ByteArray) (B : Int) (hN : N.size ≤ 140737488351232) (c : Bool) (hc : c = true ↔ Rest F K N B) : Ev (fun k => impl_isChange.j1 k false F K N T B) c := by
  have no : ¬ Rest F K N B → false = c := fun h => (bool_false hc h).symm
  refine st_impl_isChange_j1 (ev_neg (by decide) (ev_bindc (inr_some _ _ _) (ev_ite (fun h0 => ?_) fun h0 => ev_some (no fun h => h0 (decide_eq_true h.1)))))
  refine ev_bindc (inr_some _ _ _) (ev_ite (fun h1 => ?_) fun h1 => ev_some (no fun h => h1 (decide_eq_true h.2.1)))
  obtain ⟨b, hb⟩ := bool_of (NameOk N)
  refine Ev.bind (name_impl N hN b hb) (ev_ite (fun h2 => ?_) fun h2 => ev_some (no fun h => h2 (hb.2 h.2.2.1)))
  refine ev_bindc (far_some _) (ev_some ?_)
  rw [Bool.eq_iff_iff, hc, decide_eq_true_eq]
  exact ⟨fun h3 => ⟨of_decide_eq_true h0, of_decide_eq_true h1, hb.1 h2, h3⟩, fun h => h.2.2.2⟩
theorem ic_j0 (F K : Int) (N T : ByteArray) (B : Int) (hN : N.size ≤ 140737488351232) (hT : T.size ≤ 140737488351232) (x : Bool) (c : Bool) (hc : c = true ↔ Rest F K N B ∧ ToOk K T ∧ (x = true ∨ B = 0)) : Ev (fun k => impl_isChange.j0 k x F K N T B) c := by
  have no : ¬ (Rest F K N B ∧ ToOk K T ∧ (x = true ∨ B = 0)) → c = false := bool_false hc
  have tail : ToOk K T → Ev (fun k => if x = true then impl_isChange.j1 k false F K N T B else impl_isChange.j1 k (B != 0) F K N T B) c := by
    intro ht
    refine ev_ite (fun hx => ic_j1f F K N T B hN c (hc.trans ⟨fun h => h.1, fun h => ⟨h, ht, .inl hx⟩⟩)) fun hx => ?_
    by_cases hB : B = 0
    · rw [show (B != 0) = false by simpa using hB]
      exact ic_j1f F K N T B hN c (hc.trans ⟨fun h => h.1, fun h => ⟨h, ht, .inr hB⟩⟩)
    · rw [show (B != 0) = true by simpa using hB, no (fun h => by rcases h.2.2 with h | h; exact hx h; exact hB h)]
      exact ic_j1t F K N T B
  refine st_impl_isChange_j0 (ev_ite (fun hK => ?_) fun hK => ?_)
  · obtain ⟨b, hb⟩ := bool_of (NameOk T)
    refine Ev.bind (name_impl T hT b hb) (ev_ite (fun h2 => tail ⟨fun _ => hb.1 h2, fun h => absurd hK h⟩) fun h2 => ?_)
    rw [no (fun h => h2 (hb.2 (h.2.1.1 hK)))]
    exact ic_j1t F K N T B
  · refine ev_ite (fun h2 => tail ⟨fun h => absurd h hK, fun _ => h2⟩) fun h2 => ?_
    rw [no (fun h => h2 (h.2.1.2 hK))]
    exact ic_j1t F K N T B
theorem ic_impl (F K : Int) (N T : ByteArray) (B : Int) (hN : N.size ≤ 140737488351232) (hT : T.size ≤ 140737488351232) (c : Bool) (hc : c = true ↔ ChangeOk F K N T B) : Ev (fun k => impl_isChange.f k F K N T B) c := by
  unfold ChangeOk ByOk at hc
  refine ev_ite (fun hK => ?_) fun hK => ev_ite (fun hK3 => ?_) fun hK3 => ?_
  · exact ic_j0 F K N T B hN hT true c (hc.trans ⟨fun h => ⟨h.1, h.2.1, .inl rfl⟩, fun h => ⟨h.1, h.2.1, fun h' => by omega⟩⟩)
  · exact ic_j0 F K N T B hN hT true c (hc.trans ⟨fun h => ⟨h.1, h.2.1, .inl rfl⟩, fun h => ⟨h.1, h.2.1, fun h' => by omega⟩⟩)
  · refine ic_j0 F K N T B hN hT (K == 5) c (hc.trans ⟨fun h => ⟨h.1, h.2.1, ?_⟩, fun h => ⟨h.1, h.2.1, fun h' => ?_⟩⟩)
    · by_cases h5 : K = 5
      · exact .inl (by simpa using h5)
      · exact .inr (h.2.2 (by have := h.1.2.1; omega))
    · rcases h.2.2 with h5 | h5
      · have h5 : K = 5 := by simpa using h5
        omega
      · exact h5
def ItemOk (xs : List S56) (i : Nat) : Prop :=
  ChangeOk (rd_T56 xs i).f0 (rd_T56 xs i).f1 (rd_T56 xs i).f2 (rd_T56 xs i).f3 (rd_T56 xs i).f4 ∧ (0 < i → (rd_T56 xs ((i : Int) - 1)).f0 ≤ (rd_T56 xs i).f0)
def ChangesOk (xs : List S56) : Prop := xs.length ≤ 30 ∧ ∀ i, i < xs.length → ItemOk xs i
theorem changes_impl (xs : List S56) (hx : xs.length ≤ 1048576 ∧ ∀ y ∈ xs, Fit56 y) (b : Bool) (hb : b = true ↔ ChangesOk xs) : Ev (fun k => impl_GoodChanges.f k xs) b := by
  have hl := hx.1
  have hn : ∀ i : Nat, i < xs.length → (rd_T56 xs i).f2.size ≤ 140737488351232 ∧ (rd_T56 xs i).f3.size ≤ 140737488351232 := by
    intro i hi
    have e : rd_T56 xs (i : Int) = xs[i] := getD_get hi
    rw [e]
    have := hx.2 _ (List.getElem_mem hi)
    exact ⟨by have := this.1; omega, by have := this.2; omega⟩
  refine ev_all xs.length (fun k i => impl_GoodChanges.l0 k xs xs (xs.length : Int) (i : Int)) (ItemOk xs) (decide ((xs.length : Int) ≤ 30)) b ?_ ?_ ?_ ?_
  · rw [hb]; unfold ChangesOk; rw [decide_eq_true_eq]; constructor <;> (rintro ⟨h1, h2⟩; exact ⟨by omega, h2⟩)
  · exact Ev.step (fun _ => rfl) (ev_neg (by omega) (ev_some rfl))
  · intro i hi _ ⟨h0, h1⟩ r hr
    refine Ev.step (fun _ => rfl) (ev_pos (by omega) (ev_pos (by omega) (ev_pos (by omega) (Ev.bind (ic_impl _ _ _ _ _ (hn i hi).1 (hn i hi).2 true ⟨fun _ => h0, fun _ => rfl⟩) (ev_pos rfl ?_)))))
    rw [w64s i (by omega), w64 (n := (i : Int) - 1) (by omega) (by omega)]
    exact ev_ite (fun hp => ev_pos (by omega) (ev_pos (by omega) (ev_neg (by have := h1 (by omega); omega) hr))) fun _ => hr
  · intro i hi _ ho
    obtain ⟨c, hc⟩ := bool_of (ChangeOk (rd_T56 xs i).f0 (rd_T56 xs i).f1 (rd_T56 xs i).f2 (rd_T56 xs i).f3 (rd_T56 xs i).f4)
    refine Ev.step (fun _ => rfl) (ev_pos (by omega) (ev_pos (by omega) (ev_pos (by omega) (Ev.bind (ic_impl _ _ _ _ _ (hn i hi).1 (hn i hi).2 c hc) (ev_ite (fun h0 => ?_) fun _ => ev_some rfl)))))
    rw [w64 (n := (i : Int) - 1) (by omega) (by omega)]
    refine ev_ite (fun hp => ev_pos (by omega) (ev_pos (by omega) (ev_ite (fun _ => ev_some rfl) fun h2 => absurd ⟨hc.1 h0, fun _ => by omega⟩ ho))) fun hp => absurd ⟨hc.1 h0, fun h => by omega⟩ ho
section
variable {xs ys : List S56} {n i : Int} {F K : Int} {N T : ByteArray} {B : Int}
theorem gc_j1t : Ev (fun k => spec_GoodChanges.j1 k xs ys n i true F K N T B) false := st_spec_GoodChanges_j1 (ev_pos rfl (ev_some rfl))
theorem gc_j2t : Ev (fun k => spec_GoodChanges.j2 k xs ys n i true F K N T B) false := st_spec_GoodChanges_j2 (ev_pos rfl (ev_some rfl))
theorem gc_j2 (r : Bool) (hy : ByOk K B → Ev (fun k => spec_GoodChanges.l0 k xs ys n (wrap64 (i + 1))) r) (hn : ¬ ByOk K B → r = false) : Ev (fun k => spec_GoodChanges.j2 k xs ys n i false F K N T B) r := by
  refine st_spec_GoodChanges_j2 (ev_neg (by decide) (ev_ite (fun h1 => ev_ite (fun h => hy (fun _ => h)) fun h => ev_some (hn (fun h' => h (h' (.inl h1)))).symm) fun h1 => ev_ite (fun h4 => ev_ite (fun h => hy (fun _ => h)) fun h => ev_some (hn (fun h' => h (h' (.inr h4)))).symm) fun h4 => hy (fun h => by omega)))
theorem gc_j1 (r : Bool) (hy : ToOk K T ∧ ByOk K B → Ev (fun k => spec_GoodChanges.l0 k xs ys n (wrap64 (i + 1))) r) (hn : ¬ (ToOk K T ∧ ByOk K B) → r = false) : Ev (fun k => spec_GoodChanges.j1 k xs ys n i false F K N T B) r := by
  refine st_spec_GoodChanges_j1 (ev_neg (by decide) (ev_ite (fun h1 => ?_) fun h1 => ?_))
  · obtain ⟨b, hb⟩ := bool_of (NameOk T)
    refine Ev.bind (name_spec T b hb) (ev_ite (fun h => ?_) fun h => ?_)
    · have ht : ToOk K T := ⟨fun _ => hb.1 h, fun h' => absurd h1 h'⟩
      exact gc_j2 r (fun h => hy ⟨ht, h⟩) (fun h => hn (fun h' => h h'.2))
    · rw [hn (fun h' => h (hb.2 (h'.1.1 h1)))]
      exact gc_j2t
  · by_cases h : T.toList = []
    · rw [show (T.toList != ([] : List UInt8)) = false by simpa using h]
      exact gc_j2 r (fun h' => hy ⟨⟨fun h'' => absurd h'' h1, fun _ => h⟩, h'⟩) (fun h' => hn (fun h'' => h' h''.2))
    · rw [show (T.toList != ([] : List UInt8)) = true by simpa using h, hn (fun h' => h (h'.1.2 h1))]
      exact gc_j2t
end
theorem gc_item (xs : List S56) (hl : xs.length ≤ 30) (i : Nat) (hi : i < xs.length) (r : Bool) (hy : ItemOk xs i → Ev (fun k => spec_GoodChanges.l0 k xs xs (xs.length : Int) (wrap64 ((i : Int) + 1))) r) (hn : ¬ ItemOk xs i → r = false) : Ev (fun k => spec_GoodChanges.l0 k xs xs (xs.length : Int) (i : Int)) r := by
  have e : wrap64 ((i : Int) - 1) = (i : Int) - 1 := w64 (by omega) (by omega)
  refine st_spec_GoodChanges_l0 (ev_pos (by omega) (ev_pos (by omega) (ev_pos (by omega) (ev_bindc (in_some _ _ _) (ev_ite (fun h0 => ?_) fun h0 => ?_)))))
  · have rest : (0 < i → (rd_T56 xs ((i : Int) - 1)).f0 ≤ (rd_T56 xs i).f0) → Ev (fun k => (spec_l1In.f ((rd_T56 xs i).f1) 1 5).bind fun t111 => (if t111 = true then ((spec_GoodName.f k ((rd_T56 xs i).f2)).bind fun t112 => (if t112 = true then ((spec_l1In.f ((rd_T56 xs i).f4) (-1000000) 1000000).bind fun t113 => (spec_GoodChanges.j1 k xs xs (xs.length : Int) (i : Int) (!t113) ((rd_T56 xs i).f0) ((rd_T56 xs i).f1) ((rd_T56 xs i).f2) ((rd_T56 xs i).f3) ((rd_T56 xs i).f4))) else (spec_GoodChanges.j1 k xs xs (xs.length : Int) (i : Int) true ((rd_T56 xs i).f0) ((rd_T56 xs i).f1) ((rd_T56 xs i).f2) ((rd_T56 xs i).f3) ((rd_T56 xs i).f4)))) else (spec_GoodChanges.j1 k xs xs (xs.length : Int) (i : Int) true ((rd_T56 xs i).f0) ((rd_T56 xs i).f1) ((rd_T56 xs i).f2) ((rd_T56 xs i).f3) ((rd_T56 xs i).f4)))) r := by
      intro hp
      refine ev_bindc (in_some _ _ _) (ev_ite (fun h1 => ?_) fun h1 => by rw [hn (fun h => h1 (decide_eq_true h.1.1.2.1))]; exact gc_j1t)
      obtain ⟨b, hb⟩ := bool_of (NameOk (rd_T56 xs i).f2)
      refine Ev.bind (name_spec _ b hb) (ev_ite (fun h2 => ?_) fun h2 => by rw [hn (fun h => h2 (hb.2 h.1.1.2.2.1))]; exact gc_j1t)
      refine ev_bindc (in_some _ _ _) ?_
      by_cases h3 : -1000000 ≤ (rd_T56 xs i).f4 ∧ (rd_T56 xs i).f4 ≤ 1000000
      · rw [decide_eq_true h3]
        exact gc_j1 r (fun h => hy ⟨⟨⟨of_decide_eq_true h0, of_decide_eq_true h1, hb.1 h2, h3⟩, h.1, h.2⟩, hp⟩) (fun h => hn (fun h' => h ⟨h'.1.2.1, h'.1.2.2⟩))
      · rw [decide_eq_false h3, hn (fun h => h3 h.1.1.2.2.2)]
        exact gc_j1t
    rw [e]
    refine ev_ite (fun hp => ev_pos (by omega) (ev_pos (by omega) (ev_ite (fun h => ?_) fun h => rest (fun _ => by omega)))) fun hp => rest (fun h => by omega)
    rw [hn (fun h' => by have := h'.2 (by omega); omega)]
    exact gc_j1t
  · rw [hn (fun h => h0 (decide_eq_true h.1.1.1))]
    exact gc_j1t
theorem changes_spec (xs : List S56) (b : Bool) (hb : b = true ↔ ChangesOk xs) : Ev (fun k => spec_GoodChanges.f k xs) b := by
  refine ev_ite (fun h => ev_some (bool_false hb (fun h' => by have := h'.1; omega)).symm) fun h => ?_
  refine ev_all xs.length (fun k i => spec_GoodChanges.l0 k xs xs (xs.length : Int) (i : Int)) (ItemOk xs) true b ?_ ?_ ?_ ?_
  · rw [hb]; unfold ChangesOk; constructor
    · exact fun h => ⟨rfl, h.2⟩
    · exact fun h' => ⟨by omega, h'.2⟩
  · exact st_spec_GoodChanges_l0 (ev_neg (by omega) (ev_some rfl))
  · intro i hi _ ho r hr
    exact gc_item xs (by omega) i hi r (fun _ => by rw [w64s i (by omega)]; exact hr) (fun h => absurd ho h)
  · intro i hi _ ho
    exact gc_item xs (by omega) i hi false (fun h => absurd h ho) (fun _ => rfl)
theorem changes_same (xs : List S56) (hx : xs.length ≤ 1048576 ∧ ∀ y ∈ xs, Fit56 y) : ∃ b, Ev (fun k => spec_GoodChanges.f k xs) b ∧ Ev (fun k => impl_GoodChanges.f k xs) b ∧ (b = true ↔ ChangesOk xs) := by
  obtain ⟨b, hb⟩ := bool_of (ChangesOk xs)
  exact ⟨b, changes_spec xs b hb, changes_impl xs hx b hb, hb⟩
theorem cmp_lt : ∀ (a b : List UInt8), Lib.compareBytes a b < 0 ↔ Op.bytesLess a b = true
  | [], [] => by simp [Lib.compareBytes, Op.bytesLess]
  | [], _ :: _ => by simp [Lib.compareBytes, Op.bytesLess]
  | _ :: _, [] => by simp [Lib.compareBytes, Op.bytesLess]
  | x :: a, y :: b => by
    have ih := cmp_lt a b
    unfold Lib.compareBytes Op.bytesLess
    by_cases h : x < y
    · simp [h]
    · by_cases h2 : y < x
      · have : x ≠ y := fun e => by subst e; exact h h2
        simp [h, h2, this]
      · have : x = y := UInt8.le_antisymm (UInt8.not_lt.1 h2) (UInt8.not_lt.1 h)
        subst this
        simpa [h] using ih
theorem cmp_eq : ∀ (a b : List UInt8), Lib.compareBytes a b = 0 ↔ a = b
  | [], [] => by simp [Lib.compareBytes]
  | [], _ :: _ => by simp [Lib.compareBytes]
  | _ :: _, [] => by simp [Lib.compareBytes]
  | x :: a, y :: b => by
    have ih := cmp_eq a b
    unfold Lib.compareBytes
    by_cases h : x < y
    · have : x ≠ y := fun e => by subst e; exact UInt8.lt_irrefl _ h
      simp [h, this]
    · by_cases h2 : y < x
      · have : x ≠ y := fun e => by subst e; exact h h2
        simp [h, h2, this]
      · have : x = y := UInt8.le_antisymm (UInt8.not_lt.1 h2) (UInt8.not_lt.1 h)
        subst this
        simpa [h] using ih
theorem cmp_next : ∀ (a b s : List UInt8), Op.bytesLess a b = true → 0 ≤ Lib.compareBytes a s → 0 < Lib.compareBytes b s
  | [], [], _, h, _ => by simp [Op.bytesLess] at h
  | [], _ :: _, [], _, _ => by simp [Lib.compareBytes]
  | [], _ :: _, _ :: _, _, h => by simp [Lib.compareBytes] at h
  | _ :: _, [], _, h, _ => by simp [Op.bytesLess] at h
  | _ :: _, _ :: _, [], _, _ => by simp [Lib.compareBytes]
  | x :: a, y :: b, z :: s, h, k => by
    have ih := cmp_next a b s
    unfold Op.bytesLess at h
    unfold Lib.compareBytes at k ⊢
    simp only [Bool.or_eq_true, decide_eq_true_eq, Bool.and_eq_true, beq_iff_eq] at h
    by_cases h1 : x < z
    · simp [h1] at k
    · have hzx : z ≤ x := UInt8.not_lt.1 h1
      rcases h with h | ⟨rfl, h⟩
      · have hzy : z < y := UInt8.lt_of_le_of_lt hzx h
        have : ¬ y < z := fun h' => UInt8.lt_irrefl _ (UInt8.lt_trans hzy h')
        simp [hzy, this]
      · simp only [h1, if_false] at k ⊢
        by_cases h2 : z < x
        · simp [h2]
        · simp only [h2, if_false] at k ⊢
          exact ih h k
theorem less_trans (a b c : List UInt8) (h : Op.bytesLess a b = true) (k : Op.bytesLess b c = true) : Op.bytesLess a c = true := by
  rcases Int.lt_or_le (Lib.compareBytes a c) 0 with g | g
  · exact (cmp_lt a c).1 g
  · have h1 := cmp_next a b c h g
    have h2 := (cmp_lt b c).2 k
    omega
theorem uwm (n : Nat) : IntKind.u64.wrap (n : Int) = ((n % 18446744073709551616 : Nat) : Int) := by
  have e : ∀ m : Int, IntKind.u64.wrap m = m % 18446744073709551616 := fun m => by simp only [IntKind.wrap, IntKind.bits, IntKind.signed]; rfl
  rw [e]; omega
theorem td32 (n : Nat) : Int.tdiv (n : Int) 4294967296 = ((n / 4294967296 : Nat) : Int) := by rw [Int.tdiv_eq_ediv_of_nonneg (by omega)]; omega
theorem tm32 (n : Nat) : Int.tmod (n : Int) 4294967296 = ((n % 4294967296 : Nat) : Int) := by rw [Int.tmod_eq_emod_of_nonneg (by omega)]; omega
theorem uw (n : Nat) (h : n < 18446744073709551616) : IntKind.u64.wrap (n : Int) = (n : Int) := wrap_u64 (by omega) (by omega)
theorem b64 : (2 : Nat) ^ IntKind.u64.bits = 18446744073709551616 := by decide
theorem or_gen (X y : Nat) (e : X ||| y = X + y) (h : X + y < 18446744073709551616) : Go.bits .or .u64 (X : Int) (y : Int) = ((X + y : Nat) : Int) := by
  have hx' : X % 2 ^ IntKind.u64.bits = X := by rw [b64]; omega
  have hy' : y % 2 ^ IntKind.u64.bits = y := by rw [b64]; omega
  simp only [Go.bits, BitVec.ofInt_natCast, BitVec.toNat_or, BitVec.toNat_ofNat, hx', hy', e]
  exact uw _ h
theorem or_nat (x y k M : Nat) (hM : 2 ^ k = M) (hy : y < M) : x * M ||| y = x * M + y := by
  subst hM
  have h := Nat.shiftLeft_add_eq_or_of_lt hy x
  rw [Nat.shiftLeft_eq] at h
  exact h.symm
theorem or_split (x y : Nat) (hx : x < 4294967296) (hy : y < 4294967296) : Go.bits .or .u64 ((x * 4294967296 : Nat) : Int) (y : Int) = ((x * 4294967296 + y : Nat) : Int) :=
  or_gen _ y (or_nat x y 32 4294967296 (by decide) hy) (by omega)
theorem split_sum (n m : Nat) : n * 4294967296 + m = (n + m / 4294967296) / 4294967296 * 18446744073709551616 + ((n + m / 4294967296) % 4294967296 * 4294967296 + m % 4294967296) := by omega
theorem split_lt (x y : Nat) : x % 4294967296 * 4294967296 + y % 4294967296 < 18446744073709551616 := by omega
theorem exists_pair (A C : Nat) (h : C < 18446744073709551616) : ∃ hi lo : Nat, some ((A : Int), (C : Int)) = some ((hi : Int), (lo : Int)) ∧ A * 18446744073709551616 + C = hi * 18446744073709551616 + lo ∧ lo < 18446744073709551616 := ⟨A, C, rfl, rfl, h⟩
theorem times_wide (a b : Nat) (ha : a ≤ 1000000) (hb : b ≤ 9223372036854775808) : ∃ hi lo : Nat, spec_l1Times.f (a : Int) (b : Int) = some ((hi : Int), (lo : Int)) ∧ a * b = hi * 18446744073709551616 + lo ∧ lo < 18446744073709551616 := by
  have hB : b = b / 4294967296 * 4294967296 + b % 4294967296 := by omega
  generalize hbh : b / 4294967296 = bh at hB
  generalize hbl : b % 4294967296 = bl at hB
  have h1 : bh ≤ 2147483648 := by omega
  have h2 : bl < 4294967296 := by omega
  have p0 : a * bl ≤ 1000000 * 4294967296 := Nat.mul_le_mul ha (by omega)
  have p1 : a * bh ≤ 1000000 * 2147483648 := Nat.mul_le_mul ha h1
  have ha0 : a / 4294967296 = 0 := by omega
  have ha1 : a % 4294967296 = a := by omega
  have hab : a * b = a * bh * 4294967296 + a * bl := by rw [hB, Nat.mul_add, Nat.mul_assoc]
  unfold spec_l1Times.f
  simp only [td32, tm32, ha0, ha1, hbh, hbl]
  generalize hm : a * bl = m at *
  generalize hn : a * bh = n at *
  have c1 : ((a : Nat) : Int) * ((bl : Nat) : Int) = ((m : Nat) : Int) := by rw [← hm]; exact (Int.natCast_mul _ _).symm
  have c2 : ((a : Nat) : Int) * ((bh : Nat) : Int) = ((n : Nat) : Int) := by rw [← hn]; exact (Int.natCast_mul _ _).symm
  have z : ((0 : Nat) : Int) = 0 := rfl
  have u0 : IntKind.u64.wrap 0 = 0 := wrap_u64 (by omega) (by omega)
  simp only [z, u0, Int.zero_mul, uw bh (by omega), c1, c2, uw m (by omega), uw n (by omega), td32, tm32, uw (m / 4294967296) (by omega), Int.zero_add, Int.add_zero]
  have d1 : m / 4294967296 / 4294967296 = 0 := by omega
  have d2 : m / 4294967296 % 4294967296 = m / 4294967296 := by omega
  simp only [d1, d2, z, u0, Int.zero_add]
  have c3 : ((n : Nat) : Int) + ((m / 4294967296 : Nat) : Int) = ((n + m / 4294967296 : Nat) : Int) := (Int.natCast_add _ _).symm
  simp only [c3, uw (n + m / 4294967296) (by omega), td32, tm32]
  have c6 : (((n + m / 4294967296 : Nat) : Int)) * 4294967296 = (((n + m / 4294967296) * 4294967296 : Nat) : Int) := by omega
  have c7 : (n + m / 4294967296) * 4294967296 % 18446744073709551616 = (n + m / 4294967296) % 4294967296 * 4294967296 := by omega
  rw [c6, uw ((n + m / 4294967296) / 4294967296) (by omega), uw ((n + m / 4294967296) / 4294967296) (by omega), uwm ((n + m / 4294967296) * 4294967296), c7, or_split _ _ (show (n + m / 4294967296) % 4294967296 < 4294967296 by omega) (show m % 4294967296 < 4294967296 by omega)]
  have hsum := split_sum n m
  have hlt : (n + m / 4294967296) % 4294967296 * 4294967296 + m % 4294967296 < 18446744073709551616 := split_lt _ _
  rw [hab, hsum]
  clear hsum c1 c2 c3 c6 c7 hab
  exact exists_pair _ _ hlt
theorem size_far (n : Int) (h : -9223372036854775807 ≤ n ∧ n ≤ 9223372036854775807) : impl_size.f n = some (n.natAbs : Int) := by
  unfold impl_size.f mx
  rw [w64 (by omega) (by omega)]
  congr 1
  split <;> omega
theorem turn_same (F K : Int) (N T : ByteArray) (B n : Int) (hK : K = 2 ∨ K = 3) (hB : -1000000 ≤ B ∧ B ≤ 1000000) (hn : In64 n) :
    ∃ (m m' : Int) (ok : Bool), spec_l22Turn.f F K N T B n = some (m, ok) ∧ Ev (fun k => impl_Change_changed.f k F K N T B n) (m', ok) ∧ (ok = true → m' = m ∧ In64 m) := by
  have hn1 : -9223372036854775808 ≤ n := hn.1
  have hn2 : n ≤ 9223372036854775807 := by have := hn.2; omega
  rcases hK with rfl | rfl
  · by_cases h : -2000000000000000 ≤ n ∧ n ≤ 2000000000000000
    · have e : wrap64 (n + B) = n + B := w64 (by omega) (by omega)
      refine ⟨n + B, n + B, decide (-1000000000000000 ≤ n + B ∧ n + B ≤ 1000000000000000), ?_, ?_, fun ho => ⟨rfl, by have := of_decide_eq_true ho; exact ⟨by omega, by omega⟩⟩⟩
      · unfold spec_l22Turn.f
        rw [if_neg (by decide), in_some, Option.bind_some, if_pos (decide_eq_true h), e, in_some, Option.bind_some]
      · refine ev_pos rfl (ev_bindc (inr_some _ _ _) ?_)
        rw [decide_eq_true h]
        refine st_impl_Change_changed_j0 (ev_pos rfl ?_)
        rw [e]
        exact ev_bindc (inr_some _ _ _) (ev_some rfl)
    · refine ⟨0, 0, false, ?_, ?_, fun ho => by cases ho⟩
      · unfold spec_l22Turn.f
        rw [if_neg (by decide), in_some, Option.bind_some, if_neg (by simpa using h)]
      · refine ev_pos rfl (ev_bindc (inr_some _ _ _) ?_)
        rw [decide_eq_false h]
        exact st_impl_Change_changed_j0 (ev_neg (by decide) (ev_neg (by decide) (st_impl_Change_changed_j1 (ev_neg (by decide) (ev_neg (by decide) (ev_some rfl))))))
  · have ea : spec_l1Abs.f B = some (B.natAbs : Int) := by
      unfold spec_l1Abs.f
      split
      · rw [w64 (by omega) (by omega)]; congr 1; omega
      · congr 1; omega
    have es : spec_l22Size.f n = some (n.natAbs : Int) := by
      unfold spec_l22Size.f
      split
      · rw [w64 (n := n + 1) (by omega) (by omega), w64 (by omega) (by omega), wrap_u64 (n := -(n + 1)) (by omega) (by omega), wrap_u64 (by omega) (by omega)]; congr 1; omega
      · rw [wrap_u64 (by omega) (by omega)]; congr 1; omega
    obtain ⟨hi, lo, ht, hp, hlo⟩ := times_wide B.natAbs n.natAbs (by omega) (by omega)
    have spec0 : spec_l22Turn.f F 3 N T B n = (if (hi : Int) > 0 then (some (0, false)) else (if (lo : Int) > 1000000000000000 then (some (0, false)) else (some (wrap64 (B * n), true)))) := by
      unfold spec_l22Turn.f
      rw [if_pos rfl, ea, Option.bind_some, es, Option.bind_some, uw _ (by omega), ht, Option.bind_some]
    have hpn : (B * n).natAbs = B.natAbs * n.natAbs := Int.natAbs_mul B n
    by_cases hB0 : B = 0
    · subst hB0
      have : (0 : Int).natAbs * n.natAbs = 0 := by simp
      refine ⟨0, 0, true, ?_, ?_, fun _ => ⟨rfl, by constructor <;> decide⟩⟩
      · rw [spec0, if_neg (by omega), if_neg (by omega), Int.zero_mul, w64 (by omega) (by omega)]
      · exact ev_neg (by decide) (st_impl_Change_changed_j0 (ev_neg (by decide) (ev_pos rfl (st_impl_Change_changed_j1 (ev_pos rfl (ev_bindc (inr_some _ _ _) (ev_some rfl)))))))
    · have hb1 : 1 ≤ B.natAbs := by omega
      have hge : n.natAbs ≤ B.natAbs * n.natAbs := Nat.le_mul_of_pos_left _ hb1
      have hbad : ∀ r, Ev (fun k => impl_Change_changed.j1 k n false F 3 N T B) r → Ev (fun k => impl_Change_changed.f k F 3 N T B n) r := fun r hr =>
        ev_neg (by decide) (st_impl_Change_changed_j0 (ev_neg (by decide) (ev_pos rfl (by rw [show (B == 0) = false by simpa using hB0]; exact hr))))
      by_cases hbig : B.natAbs * n.natAbs ≤ 1000000000000000
      · have hr : -1000000000000000 ≤ n ∧ n ≤ 1000000000000000 := by omega
        have hBn : -1000000000000000 ≤ B * n ∧ B * n ≤ 1000000000000000 := by omega
        have hd : n.natAbs ≤ 1000000000000000 / B.natAbs := by
          rw [Nat.le_div_iff_mul_le hb1, Nat.mul_comm]; exact hbig
        have e : wrap64 (B * n) = B * n := w64 (by omega) (by omega)
        have s1 : impl_size.f n = some (n.natAbs : Int) := size_far n (by omega)
        have s2 : impl_size.f B = some (B.natAbs : Int) := size_far B (by omega)
        have hdz : Int.tdiv 1000000000000000 (B.natAbs : Int) = ((1000000000000000 / B.natAbs : Nat) : Int) := by
          rw [Int.tdiv_eq_ediv_of_nonneg (by omega), Int.natCast_ediv]; rfl
        have hdl : 1000000000000000 / B.natAbs ≤ 1000000000000000 := Nat.div_le_self _ _
        generalize 1000000000000000 / B.natAbs = q at hd hdz hdl
        refine ⟨B * n, B * n, true, ?_, ?_, fun _ => ⟨rfl, ⟨by omega, by omega⟩⟩⟩
        · rw [spec0, if_neg (by omega), if_neg (by omega), e]
        · refine hbad _ (st_impl_Change_changed_j1 (ev_neg (by decide) (ev_pos rfl (ev_bindc (inr_some _ _ _) (ev_pos (decide_eq_true hr) (ev_bindc s1 (ev_bindc s2 (ev_neg (by omega) ?_))))))))
          rw [hdz, w64 (n := (q : Int)) (by omega) (by omega)]
          refine ev_pos (by omega) ?_
          rw [Int.mul_comm n B, e]
          exact ev_bindc (inr_some _ _ _) (ev_some (by rw [decide_eq_true hBn]))
      · refine ⟨0, 0, false, ?_, ?_, fun ho => by cases ho⟩
        · rw [spec0]
          by_cases hh : (hi : Int) > 0
          · rw [if_pos hh]
          · rw [if_neg hh, if_pos (by omega)]
        · by_cases hr : -1000000000000000 ≤ n ∧ n ≤ 1000000000000000
          · have s1 : impl_size.f n = some (n.natAbs : Int) := size_far n (by omega)
            have s2 : impl_size.f B = some (B.natAbs : Int) := size_far B (by omega)
            have hd : ¬ n.natAbs ≤ 1000000000000000 / B.natAbs := by
              rw [Nat.le_div_iff_mul_le hb1, Nat.mul_comm]; exact hbig
            have hdz : Int.tdiv 1000000000000000 (B.natAbs : Int) = ((1000000000000000 / B.natAbs : Nat) : Int) := by
              rw [Int.tdiv_eq_ediv_of_nonneg (by omega), Int.natCast_ediv]; rfl
            have hdl : 1000000000000000 / B.natAbs ≤ 1000000000000000 := Nat.div_le_self _ _
            generalize 1000000000000000 / B.natAbs = q at hd hdz hdl
            refine hbad _ (st_impl_Change_changed_j1 (ev_neg (by decide) (ev_pos rfl (ev_bindc (inr_some _ _ _) (ev_pos (decide_eq_true hr) (ev_bindc s1 (ev_bindc s2 (ev_neg (by omega) ?_))))))))
            rw [hdz, w64 (n := (q : Int)) (by omega) (by omega)]
            exact ev_neg (by omega) (ev_some rfl)
          · exact hbad _ (st_impl_Change_changed_j1 (ev_neg (by decide) (ev_pos rfl (ev_bindc (inr_some _ _ _) (ev_neg (by simpa using hr) (ev_some rfl))))))
abbrev nameAt (l : List S59) (i : Nat) : List UInt8 := (rd_T59 l (i : Int)).f0.toList
def Rises (l : List S59) : Prop := (l.map fun x => x.f0.toList).Pairwise fun a b => Op.bytesLess a b = true
def Spot (l : List S59) (t : List UInt8) (p : Nat) : Prop := p ≤ l.length ∧ (∀ i, i < p → Op.bytesLess (nameAt l i) t = true) ∧ (p < l.length → Op.bytesLess (nameAt l p) t = false)
def There (l : List S59) (t : List UInt8) (p : Nat) : Prop := p < l.length ∧ nameAt l p = t
theorem rd_value {l : List S59} {i : Nat} (h : i < l.length) : rd_T59 l (i : Int) = l[i] := getD_get h
theorem less_irrefl (a : List UInt8) : Op.bytesLess a a = false := by
  cases h : Op.bytesLess a a with
  | false => rfl
  | true => have h1 := (cmp_lt a a).2 h; have h2 := (cmp_eq a a).2 rfl; omega
theorem less_total : ∀ (a b : List UInt8), Op.bytesLess a b = false → a ≠ b → Op.bytesLess b a = true
  | [], [], _, h => absurd rfl h
  | [], _ :: _, h, _ => by simp [Op.bytesLess] at h
  | _ :: _, [], _, _ => by simp [Op.bytesLess]
  | x :: a, y :: b, h, k => by
    have ih := less_total a b
    unfold Op.bytesLess at h ⊢
    simp only [Bool.or_eq_false_iff, decide_eq_false_iff_not, Bool.and_eq_false_imp, beq_iff_eq] at h
    simp only [Bool.or_eq_true, decide_eq_true_eq, Bool.and_eq_true, beq_iff_eq]
    by_cases hxy : x = y
    · subst hxy
      exact .inr ⟨rfl, ih (h.2 rfl) (fun e => k (by rw [e]))⟩
    · refine .inl ?_
      rcases UInt8.lt_or_lt_of_ne hxy with h1 | h1
      · exact absurd h1 h.1
      · exact h1
theorem rises_at {l : List S59} (h : Rises l) (i j : Nat) (hij : i < j) (hj : j < l.length) : Op.bytesLess (nameAt l i) (nameAt l j) = true := by
  have := List.pairwise_iff_getElem.1 h i j (by simpa using Nat.lt_trans hij hj) (by simpa using hj) hij
  simp only [List.getElem_map] at this
  unfold nameAt
  rw [rd_value hj, rd_value (Nat.lt_trans hij hj)]
  exact this
theorem spot_near {l : List S59} (h : Rises l) {t : List UInt8} {p : Nat} (hp : Spot l t p) (i : Nat) (hi : i < l.length) : nameAt l i = t ↔ i = p ∧ There l t p := by
  constructor
  · intro e
    rcases Nat.lt_trichotomy i p with h1 | h1 | h1
    · have := hp.2.1 i h1
      rw [e, less_irrefl] at this
      cases this
    · subst h1
      exact ⟨rfl, hi, e⟩
    · have h2 := rises_at h p i h1 hi
      rw [e, hp.2.2 (by omega)] at h2
      cases h2
  · rintro ⟨rfl, h1⟩
    exact h1.2
theorem place_spec (l : List S59) (hl : l.length ≤ 1048576) (h : Rises l) (s : ByteArray) (p : Nat) (hp : Spot l s.toList p) (hT : There l s.toList p) : Ev (fun k => spec_l22At.f k l s) (p : Int) := by
  refine ev_for1 l.length (fun k i (_ : Unit) => spec_l22At.l0 k s l (l.length : Int) (i : Int)) (fun i _ => i ≤ p) _ ?_ ?_ 0 () (Nat.zero_le _) (Nat.zero_le _)
  · intro _ hi
    have := hT.1
    omega
  · intro i _ hi hle
    by_cases e : nameAt l i = s.toList
    · refine .inl (st_spec_l22At_l0 (ev_pos (by omega) (ev_pos (by omega) (ev_pos (by omega) (ev_pos e ?_)))))
      rw [((spot_near h hp i hi).1 e).1]
      exact ev_some rfl
    · refine .inr ⟨(), ?_, fun r hr => st_spec_l22At_l0 (ev_pos (by omega) (ev_pos (by omega) (ev_pos (by omega) (ev_neg e ?_))))⟩
      · rcases Nat.lt_or_ge i p with h1 | h1
        · omega
        · obtain rfl : i = p := by omega
          exact absurd hT.2 e
      · rw [w64s i (by omega)]; exact hr
theorem place_none (l : List S59) (hl : l.length ≤ 1048576) (h : Rises l) (s : ByteArray) (p : Nat) (hp : Spot l s.toList p) (hT : ¬ There l s.toList p) : Ev (fun k => spec_l22At.f k l s) (-1) := by
  refine ev_for1 l.length (fun k i (_ : Unit) => spec_l22At.l0 k s l (l.length : Int) (i : Int)) (fun _ _ => True) _ ?_ ?_ 0 () (Nat.zero_le _) trivial
  · intro _ _
    exact st_spec_l22At_l0 (ev_neg (by omega) (ev_some rfl))
  · intro i _ hi _
    refine .inr ⟨(), trivial, fun r hr => st_spec_l22At_l0 (ev_pos (by omega) (ev_pos (by omega) (ev_pos (by omega) (ev_neg (fun e => hT ((spot_near h hp i hi).1 e).2) ?_))))⟩
    rw [w64s i (by omega)]; exact hr
theorem place_impl (l : List S59) (hl : l.length ≤ 1048576) (h : Rises l) (s : ByteArray) : ∃ p, Spot l s.toList p ∧ ∃ b : Bool, Ev (fun k => impl_valuePlace.f k l s) ((p : Int), b) ∧ (b = true ↔ There l s.toList p) := by
  have hz : ∀ i : Nat, cmps (rd_T59 l (i : Int)).f0 s = 0 ↔ nameAt l i = s.toList := fun i => by
    unfold nameAt
    rw [Go.ByteArray.toList_eq, Go.ByteArray.toList_eq]; exact cmp_eq _ _
  have hlt : ∀ i : Nat, cmps (rd_T59 l (i : Int)).f0 s < 0 ↔ Op.bytesLess (nameAt l i) s.toList = true := fun i => by
    unfold nameAt
    rw [Go.ByteArray.toList_eq, Go.ByteArray.toList_eq]; exact cmp_lt _ _
  have hm : ∀ i j : Nat, i < j → j < l.length → 0 ≤ cmps (rd_T59 l (i : Int)).f0 s → 0 < cmps (rd_T59 l (j : Int)).f0 s := by
    intro i j hij hj h0
    have hs := rises_at h i j hij hj
    unfold nameAt at hs
    rw [Go.ByteArray.toList_eq, Go.ByteArray.toList_eq] at hs
    exact cmp_next _ _ _ hs h0
  obtain ⟨p, g1, g2, g3, g4⟩ := ev_search (fun k xs x n i j => slices_BinarySearchFunc_w67.l0 k xs x n i j) (fun _ xs i x => impl_valuePlace_1.f (rd_T59 xs i).f0 (rd_T59 xs i).f1 (rd_T59 xs i).f2 x) (fun _ _ _ _ _ _ => rfl) l s hl (fun i => cmps (rd_T59 l (i : Int)).f0 s) (fun i _ => ev_some rfl) hm
  refine ⟨p, ⟨g1, fun i hi => (hlt i).1 (g2 i hi), fun hp => ?_⟩, _, Ev.bind g4 (ev_some rfl), ?_⟩
  · have h3 := g3 p (Nat.le_refl _) hp
    cases hb : Op.bytesLess (nameAt l p) s.toList with
    | false => rfl
    | true => have := (hlt p).2 hb; omega
  · show decide _ = true ↔ _
    rw [decide_eq_true_eq, hz]
    exact Iff.rfl
def ins (l : List S59) (p : Nat) (x : S59) : List S59 := l.take p ++ [x] ++ l.drop p
theorem ins_len (l : List S59) (p : Nat) (x : S59) : (ins l p x).length = l.length + 1 := by
  simp only [ins, List.length_append, List.length_take, List.length_drop, List.length_singleton]; omega
theorem put_spec (l : List S59) (hl : l.length ≤ 1000) (x : S59) (p : Nat) (hp : Spot l x.f0.toList p) : Ev (fun k => spec_l22Put.f k l x.f0 x.f1 x.f2) (ins l p x) := by
  have hpl := hp.1
  have hlen : (l.take p).length ≤ 1000 ∧ (l.drop p).length ≤ 1000 := by rw [List.length_take, List.length_drop]; omega
  have hl1 := hlen.1
  have hl2 := hlen.2
  refine ev_for1 p (fun k i (_ : Unit) => spec_l22Put.l0 k l (i : Int) x.f0 x.f1 x.f2) (fun _ _ => True) _ ?_ ?_ 0 () (Nat.zero_le _) trivial
  · intro _ _
    by_cases hlt : p < l.length
    · have hb := hp.2.2 hlt
      refine st_spec_l22Put_l0 (ev_pos (by omega) (ev_pos (by omega) (ev_neg (by unfold nameAt at hb; rw [hb]; decide) (ev_pos (by omega) (ev_bindc rfl (ev_pos ?_ (ev_bindc rfl (ev_pos ?_ (ev_bindc rfl (ev_bindc rfl (ev_pos ?_ (ev_some rfl)))))))))))) <;>
        (simp only [Int.toNat_natCast, List.length_append, List.length_nil, List.length_singleton]; omega)
    · refine st_spec_l22Put_l0 (ev_neg (by omega) (ev_pos (by omega) (ev_pos (by omega) (ev_bindc rfl (ev_pos ?_ (ev_bindc rfl (ev_pos ?_ (ev_bindc rfl (ev_bindc rfl (ev_pos ?_ (ev_some rfl))))))))))) <;>
        (simp only [Int.toNat_natCast, List.length_append, List.length_nil, List.length_singleton]; omega)
  · intro i _ hi _
    have hb := hp.2.1 i hi
    refine .inr ⟨(), trivial, fun r hr => st_spec_l22Put_l0 (ev_pos (by omega) (ev_pos (by omega) (ev_pos hb ?_)))⟩
    rw [w64s i (by omega)]; exact hr
theorem drop_spec (l : List S59) (hl : l.length ≤ 1000) (i : Nat) (hi : i < l.length) : spec_l22Drop.f l (i : Int) = some (l.eraseIdx i) := by
  have e : wrap64 ((i : Int) + 1) = ((i + 1 : Nat) : Int) := by rw [w64 (by omega) (by omega)]; omega
  unfold spec_l22Drop.f
  rw [e, if_pos (by omega), if_pos (by omega), Option.bind_some, if_pos (by simp only [Int.toNat_natCast, List.length_take, List.length_nil]; omega), Option.bind_some, if_pos (by omega), if_pos (by omega), Option.bind_some, if_pos (by simp only [Int.toNat_natCast, List.length_append, List.length_take, List.length_drop, List.length_nil]; omega)]
  rw [List.eraseIdx_eq_take_drop_succ]
  rfl
theorem insert_impl (l : List S59) (hl : l.length ≤ 1000) (p : Nat) (hp : p ≤ l.length) (x : S59) : impl_Value_58.f l (p : Int) [x] = some (ins l p x) := by
  unfold impl_Value_58.f
  rw [if_pos (by omega), if_pos (by omega), if_pos (by simp), if_pos (by omega)]
  rfl
theorem delete_impl (l : List S59) (hl : l.length ≤ 1000) (i : Nat) (hi : i < l.length) : impl_Value_59.f l (i : Int) (wrap64 ((i : Int) + 1)) = some (l.eraseIdx i) := by
  rw [w64s i (by omega)]
  unfold impl_Value_59.f
  rw [if_pos (by omega), if_pos (by omega), if_pos (by omega)]
  rfl
theorem rises_ins {l : List S59} (h : Rises l) (x : S59) (p : Nat) (hp : Spot l x.f0.toList p) (hT : ¬ There l x.f0.toList p) : Rises (ins l p x) := by
  have hl : ∀ i, i < l.length → (l.map fun x => x.f0.toList)[i]? = some (nameAt l i) := fun i hi => by
    rw [List.getElem?_map, List.getElem?_eq_getElem hi]; unfold nameAt; rw [rd_value hi]; rfl
  have hpl := hp.1
  unfold Rises ins at *
  rw [← List.take_append_drop p l, List.map_append, List.pairwise_append] at h
  obtain ⟨h1, h2, h3⟩ := h
  have hlo : ∀ a ∈ (l.take p).map (fun x => x.f0.toList), Op.bytesLess a x.f0.toList = true := by
    intro a ha
    rw [List.map_take, List.mem_iff_getElem?] at ha
    obtain ⟨i, hi⟩ := ha
    rw [List.getElem?_take] at hi
    split at hi
    · rename_i hip
      rw [hl i (by omega)] at hi
      injection hi with hi
      rw [← hi]
      exact hp.2.1 i hip
    · cases hi
  have hhi : ∀ b ∈ (l.drop p).map (fun x => x.f0.toList), Op.bytesLess x.f0.toList b = true := by
    intro b hb
    rw [List.map_drop, List.mem_iff_getElem?] at hb
    obtain ⟨i, hi⟩ := hb
    rw [List.getElem?_drop] at hi
    have hil : p + i < l.length := by
      have := (List.getElem?_eq_some_iff.1 hi).1
      simpa using this
    rw [hl _ hil] at hi
    injection hi with hi
    have hp0 : p < l.length := by omega
    have h0 : Op.bytesLess x.f0.toList (nameAt l p) = true := less_total _ _ (hp.2.2 hp0) (fun e => hT ⟨hp0, e⟩)
    rcases Nat.eq_zero_or_pos i with rfl | hpos
    · rw [← hi]; exact h0
    · rw [← hi]
      refine less_trans _ _ _ h0 (rises_at (l := l) ?_ p (p + i) (by omega) hil)
      unfold Rises
      rw [← List.take_append_drop p l, List.map_append, List.pairwise_append]
      exact ⟨h1, h2, h3⟩
  rw [List.map_append, List.map_append, List.pairwise_append, List.pairwise_append]
  refine ⟨⟨h1, by simp, fun a ha b hb => ?_⟩, h2, fun a ha b hb => ?_⟩
  · simp only [List.map_cons, List.map_nil, List.mem_singleton] at hb
    rw [hb]; exact hlo a ha
  · rcases List.mem_append.1 ha with ha | ha
    · exact h3 a ha b hb
    · simp only [List.map_cons, List.map_nil, List.mem_singleton] at ha
      rw [ha]; exact hhi b hb
theorem rises_erase {l : List S59} (h : Rises l) (i : Nat) : Rises (l.eraseIdx i) := by
  unfold Rises at *
  exact h.sublist ((List.eraseIdx_sublist _ _).map _)
theorem rises_set {l : List S59} (h : Rises l) (i : Nat) (hi : i < l.length) (n : Int) : Rises (l.set i ⟨(rd_T59 l (i : Int)).f0, n, (rd_T59 l (i : Int)).f2⟩) := by
  have e : (l.set i ⟨(rd_T59 l (i : Int)).f0, n, (rd_T59 l (i : Int)).f2⟩).map (fun x => x.f0.toList) = l.map fun x => x.f0.toList := by
    rw [List.map_set]
    refine List.ext_getElem (by simp) (fun j h1 h2 => ?_)
    rw [List.getElem_set]
    split
    · rename_i hij
      subst hij
      simp only [List.getElem_map]
      rw [rd_value hi]
    · rfl
  unfold Rises at *
  rw [e]; exact h
def Sound (l : List S59) : Prop := ∀ y ∈ l, Fit59 y ∧ In64 y.f1
theorem sound_ins {l : List S59} (h : Sound l) (p : Nat) (x : S59) (hx : Fit59 x ∧ In64 x.f1) : Sound (ins l p x) := by
  intro y hy
  unfold ins at hy
  rcases List.mem_append.1 hy with hy | hy
  · rcases List.mem_append.1 hy with hy | hy
    · exact h y (List.mem_of_mem_take hy)
    · rw [List.mem_singleton.1 hy]; exact hx
  · exact h y (List.mem_of_mem_drop hy)
theorem sound_erase {l : List S59} (h : Sound l) (i : Nat) : Sound (l.eraseIdx i) := fun y hy => h y (List.mem_of_mem_eraseIdx hy)
theorem sound_at {l : List S59} (h : Sound l) (i : Nat) (hi : i < l.length) : Fit59 (rd_T59 l (i : Int)) ∧ In64 (rd_T59 l (i : Int)).f1 := by
  rw [rd_value hi]; exact h _ (List.getElem_mem hi)
theorem sound_set {l : List S59} (h : Sound l) (i : Nat) (x : S59) (hx : Fit59 x ∧ In64 x.f1) : Sound (l.set i x) := by
  intro y hy
  rcases List.mem_or_eq_of_mem_set hy with hy | hy
  · exact h y hy
  · rw [hy]; exact hx
theorem none_near {l : List S59} (h : Rises l) {t : List UInt8} {p : Nat} (hp : Spot l t p) (hT : ¬ There l t p) (q : Nat) : ¬ There (l.eraseIdx q) t p ∧ ∀ r, ¬ There (l.eraseIdx q) t r := by
  have key : ∀ r, ¬ There (l.eraseIdx q) t r := by
    intro r ⟨h1, h2⟩
    unfold nameAt at h2
    rw [rd_value h1] at h2
    have hm : (l.eraseIdx q)[r] ∈ l := List.mem_of_mem_eraseIdx (List.getElem_mem h1)
    obtain ⟨i, hi, he⟩ := List.getElem_of_mem hm
    rw [← he] at h2
    refine hT ((spot_near h hp i hi).1 ?_).2
    unfold nameAt
    rw [rd_value hi]; exact h2
  exact ⟨key p, key⟩
theorem step (v : Int) (l : List S59) (hr : Rises l) (hs : Sound l) (hl : l.length ≤ 30) (cs : List S56) (hcs : cs.length ≤ 30) (hfit : ∀ y ∈ cs, Fit56 y) (i : Nat) (hi : i < cs.length) (hc : ItemOk cs i) (hv : ¬ (rd_T56 cs (i : Int)).f0 < v) :
    ∃ (m : List S59) (ok : Bool), Ev (fun k => impl_change.f k l (rd_T56 cs (i : Int)).f0 (rd_T56 cs (i : Int)).f1 (rd_T56 cs (i : Int)).f2 (rd_T56 cs (i : Int)).f3 (rd_T56 cs (i : Int)).f4) (m, ok) ∧
      (ok = true → Rises m ∧ Sound m ∧ m.length ≤ 30 ∧ ∀ r, Ev (fun k => spec_MigrateSave.l0 k v m cs (cs.length : Int) (wrap64 ((i : Int) + 1))) r → Ev (fun k => spec_MigrateSave.l0 k v l cs (cs.length : Int) (i : Int)) r) ∧
      (ok = false → Ev (fun k => spec_MigrateSave.l0 k v l cs (cs.length : Int) (i : Int)) ([], false)) := by
  have hF : Fit56 (rd_T56 cs (i : Int)) := by
    have e : rd_T56 cs (i : Int) = cs[i] := getD_get hi
    rw [e]; exact hfit _ (List.getElem_mem hi)
  have hck := hc.1.1
  have hgo : ∀ r, Ev (fun k => (spec_l22At.f k l (rd_T56 cs (i : Int)).f2).bind fun t197 => (if ((rd_T56 cs (i : Int)).f1) = 5 then (if t197 < 0 then ((spec_l22Put.f k l ((rd_T56 cs (i : Int)).f2) ((rd_T56 cs (i : Int)).f4) (⟨#[]⟩ : ByteArray)).bind fun t198 => (if (t198.length : Int) > 30 then (some (([] : List (S59)), false)) else (spec_MigrateSave.l0 k v t198 cs (cs.length : Int) (wrap64 ((i : Int) + 1))))) else (if (l.length : Int) > 30 then (some (([] : List (S59)), false)) else (spec_MigrateSave.l0 k v l cs (cs.length : Int) (wrap64 ((i : Int) + 1))))) else (if t197 < 0 then (spec_MigrateSave.l0 k v l cs (cs.length : Int) (wrap64 ((i : Int) + 1))) else (if ((rd_T56 cs (i : Int)).f1) = 1 then ((spec_l22At.f k l ((rd_T56 cs (i : Int)).f3)).bind fun t201 => (if t201 ≥ 0 then (some (([] : List (S59)), false)) else (if 0 ≤ t197 then (if t197 < (l.length : Int) then ((spec_l22Drop.f l t197).bind fun t204 => ((spec_l22Put.f k t204 ((rd_T56 cs (i : Int)).f3) ((rd_T59 l t197).f1) ((rd_T59 l t197).f2)).bind fun t207 => (spec_MigrateSave.l0 k v t207 cs (cs.length : Int) (wrap64 ((i : Int) + 1))))) else (none)) else (none)))) else (if ((rd_T56 cs (i : Int)).f1) = 4 then ((spec_l22Drop.f l t197).bind fun t210 => (spec_MigrateSave.l0 k v t210 cs (cs.length : Int) (wrap64 ((i : Int) + 1)))) else (if 0 ≤ t197 then (if t197 < (l.length : Int) then ((spec_l22Turn.f ((rd_T56 cs (i : Int)).f0) ((rd_T56 cs (i : Int)).f1) ((rd_T56 cs (i : Int)).f2) ((rd_T56 cs (i : Int)).f3) ((rd_T56 cs (i : Int)).f4) ((rd_T59 l t197).f1)).bind fun bt214 => (if bt214.2 = true then (spec_MigrateSave.l0 k v (l.set (t197 : Int).toNat (⟨(rd_T59 l t197).f0, bt214.1, (rd_T59 l t197).f2⟩ : S59)) cs (cs.length : Int) (wrap64 ((i : Int) + 1))) else (some (([] : List (S59)), false)))) else (none)) else (none))))))) r → Ev (fun k => spec_MigrateSave.l0 k v l cs (cs.length : Int) (i : Int)) r :=
    fun r hX => st_spec_MigrateSave_l0 (ev_pos (by omega) (ev_pos (by omega) (ev_pos (by omega) (ev_neg hv hX))))
  revert hgo
  generalize hcr : rd_T56 cs (i : Int) = c at hF hck hv ⊢
  obtain ⟨F, K, N, T, B⟩ := c
  obtain ⟨hF1, hF2⟩ := hF
  replace hF1 : N.size ≤ 1048576 := hF1
  replace hF2 : T.size ≤ 1048576 := hF2
  obtain ⟨_, hK, _, hB⟩ := hck
  replace hK : 1 ≤ K ∧ K ≤ 5 := hK
  replace hB : -1000000 ≤ B ∧ B ≤ 1000000 := hB
  show (∀ r, Ev (fun k => (spec_l22At.f k l N).bind fun t197 => (if K = 5 then (if t197 < 0 then ((spec_l22Put.f k l N B (⟨#[]⟩ : ByteArray)).bind fun t198 => (if (t198.length : Int) > 30 then (some (([] : List (S59)), false)) else (spec_MigrateSave.l0 k v t198 cs (cs.length : Int) (wrap64 ((i : Int) + 1))))) else (if (l.length : Int) > 30 then (some (([] : List (S59)), false)) else (spec_MigrateSave.l0 k v l cs (cs.length : Int) (wrap64 ((i : Int) + 1))))) else (if t197 < 0 then (spec_MigrateSave.l0 k v l cs (cs.length : Int) (wrap64 ((i : Int) + 1))) else (if K = 1 then ((spec_l22At.f k l T).bind fun t201 => (if t201 ≥ 0 then (some (([] : List (S59)), false)) else (if 0 ≤ t197 then (if t197 < (l.length : Int) then ((spec_l22Drop.f l t197).bind fun t204 => ((spec_l22Put.f k t204 T ((rd_T59 l t197).f1) ((rd_T59 l t197).f2)).bind fun t207 => (spec_MigrateSave.l0 k v t207 cs (cs.length : Int) (wrap64 ((i : Int) + 1))))) else (none)) else (none)))) else (if K = 4 then ((spec_l22Drop.f l t197).bind fun t210 => (spec_MigrateSave.l0 k v t210 cs (cs.length : Int) (wrap64 ((i : Int) + 1)))) else (if 0 ≤ t197 then (if t197 < (l.length : Int) then ((spec_l22Turn.f F K N T B ((rd_T59 l t197).f1)).bind fun bt214 => (if bt214.2 = true then (spec_MigrateSave.l0 k v (l.set (t197 : Int).toNat (⟨(rd_T59 l t197).f0, bt214.1, (rd_T59 l t197).f2⟩ : S59)) cs (cs.length : Int) (wrap64 ((i : Int) + 1))) else (some (([] : List (S59)), false)))) else (none)) else (none))))))) r → Ev (fun k => spec_MigrateSave.l0 k v l cs (cs.length : Int) (i : Int)) r) →
    ∃ (m : List S59) (ok : Bool), Ev (fun k => impl_change.f k l F K N T B) (m, ok) ∧ _
  intro hgo
  clear hcr hc
  obtain ⟨p, hp, b, hpi, hb⟩ := place_impl l (by omega) hr N
  by_cases hT : There l N.toList p
  · have hps := place_spec l (by omega) hr N p hp hT
    obtain rfl : b = true := hb.2 hT
    have hpl : p < l.length := hT.1
    have hat := sound_at hs p hpl
    by_cases hK5 : K = 5
    · refine ⟨l, true, Ev.bind hpi (ev_pos hK5 (ev_pos rfl (ev_some rfl))), fun _ => ⟨hr, hs, hl, fun r hn => ?_⟩, (fun h => by cases h)⟩
      exact hgo r (Ev.bind hps (ev_pos hK5 (ev_neg (by omega) (ev_neg (by omega) hn))))
    · by_cases hK1 : K = 1
      · obtain ⟨p2, hp2, b2, hpi2, hb2⟩ := place_impl l (by omega) hr T
        by_cases hT2 : There l T.toList p2
        · obtain rfl : b2 = true := hb2.2 hT2
          have hps2 := place_spec l (by omega) hr T p2 hp2 hT2
          refine ⟨[], false, Ev.bind hpi (ev_neg hK5 (ev_pos rfl (ev_pos hK1 (ev_pos (by omega) (ev_pos (by omega) (Ev.bind hpi2 (ev_pos rfl (ev_some rfl)))))))), (fun h => by cases h), fun _ => ?_⟩
          exact hgo _ (Ev.bind hps (ev_neg hK5 (ev_neg (by omega) (ev_pos hK1 (Ev.bind hps2 (ev_pos (by omega) (ev_some rfl)))))))
        · obtain rfl : b2 = false := by cases b2 with | false => rfl | true => exact absurd (hb2.1 rfl) hT2
          have hps2 := place_none l (by omega) hr T p2 hp2 hT2
          have hel : (l.eraseIdx p).length = l.length - 1 := List.length_eraseIdx_of_lt hpl
          have hre := rises_erase hr p
          have hse := sound_erase hs p
          obtain ⟨p3, hp3, b3, hpi3, hb3⟩ := place_impl (l.eraseIdx p) (by omega) hre T
          have hT3 := (none_near hr hp2 hT2 p).2 p3
          have hlen := ins_len (l.eraseIdx p) p3 ⟨T, (rd_T59 l (p : Int)).f1, (rd_T59 l (p : Int)).f2⟩
          refine ⟨ins (l.eraseIdx p) p3 ⟨T, (rd_T59 l (p : Int)).f1, (rd_T59 l (p : Int)).f2⟩, true, Ev.bind hpi (ev_neg hK5 (ev_pos rfl (ev_pos hK1 (ev_pos (by omega) (ev_pos (by omega) (Ev.bind hpi2 (ev_neg (by simp) (ev_bindc (delete_impl l (by omega) p hpl) (Ev.bind hpi3 (ev_bindc (insert_impl _ (by omega) p3 hp3.1 _) (ev_some rfl))))))))))), fun _ => ⟨rises_ins hre _ p3 hp3 hT3, sound_ins hse p3 _ ⟨⟨hF2, hat.1.2⟩, hat.2⟩, by omega, fun r hn => ?_⟩, (fun h => by cases h)⟩
          exact hgo r (Ev.bind hps (ev_neg hK5 (ev_neg (by omega) (ev_pos hK1 (Ev.bind hps2 (ev_neg (by decide) (ev_pos (by omega) (ev_pos (by omega) (ev_bindc (drop_spec l (by omega) p hpl) (Ev.bind (put_spec (l.eraseIdx p) (by omega) ⟨T, (rd_T59 l (p : Int)).f1, (rd_T59 l (p : Int)).f2⟩ p3 hp3) hn))))))))))
      · by_cases hK4 : K = 4
        · have hel : (l.eraseIdx p).length = l.length - 1 := List.length_eraseIdx_of_lt hpl
          refine ⟨l.eraseIdx p, true, Ev.bind hpi (ev_neg hK5 (ev_pos rfl (ev_neg hK1 (ev_pos hK4 (ev_bindc (delete_impl l (by omega) p hpl) (ev_some rfl)))))), fun _ => ⟨rises_erase hr p, sound_erase hs p, by omega, fun r hn => ?_⟩, (fun h => by cases h)⟩
          exact hgo r (Ev.bind hps (ev_neg hK5 (ev_neg (by omega) (ev_neg hK1 (ev_pos hK4 (ev_bindc (drop_spec l (by omega) p hpl) hn))))))
        · obtain ⟨m, m', ok, ht, hi', hok⟩ := turn_same F K N T B (rd_T59 l (p : Int)).f1 (by omega) hB hat.2
          refine ⟨l.set p ⟨(rd_T59 l (p : Int)).f0, m', (rd_T59 l (p : Int)).f2⟩, ok, Ev.bind hpi (ev_neg hK5 (ev_pos rfl (ev_neg hK1 (ev_neg hK4 (ev_pos (by omega) (ev_pos (by omega) (Ev.bind hi' (ev_some rfl)))))))), fun h => ?_, fun h => ?_⟩
          · obtain ⟨rfl, hm⟩ := hok h
            subst h
            refine ⟨rises_set hr p hpl _, sound_set hs p _ ⟨hat.1, hm⟩, by rw [List.length_set]; exact hl, fun r hn => ?_⟩
            exact hgo r (Ev.bind hps (ev_neg hK5 (ev_neg (by omega) (ev_neg hK1 (ev_neg hK4 (ev_pos (by omega) (ev_pos (by omega) (ev_bindc ht (ev_pos rfl hn)))))))))
          · subst h
            exact hgo _ (Ev.bind hps (ev_neg hK5 (ev_neg (by omega) (ev_neg hK1 (ev_neg hK4 (ev_pos (by omega) (ev_pos (by omega) (ev_bindc ht (ev_neg (by simp) (ev_some rfl))))))))))
  · have hps := place_none l (by omega) hr N p hp hT
    obtain rfl : b = false := by cases b with | false => rfl | true => exact absurd (hb.1 rfl) hT
    by_cases hK5 : K = 5
    · have hlen := ins_len l p ⟨N, B, ⟨#[]⟩⟩
      have hput := put_spec l (by omega) ⟨N, B, ⟨#[]⟩⟩ p hp
      refine ⟨ins l p ⟨N, B, ⟨#[]⟩⟩, decide ((l.length : Int) < 30), Ev.bind hpi (ev_pos hK5 (ev_neg (by simp) (ev_bindc (insert_impl l (by omega) p hp.1 _) (ev_some rfl)))), fun h => ?_, fun h => ?_⟩
      · have h := of_decide_eq_true h
        refine ⟨rises_ins hr _ p hp hT, sound_ins hs p _ ⟨⟨hF1, by show (0 : Nat) ≤ _; omega⟩, ⟨by show -9223372036854775808 ≤ B; omega, by show B ≤ 9223372036854775807; omega⟩⟩, by omega, fun r hn => ?_⟩
        exact hgo r (Ev.bind hps (ev_pos hK5 (ev_pos (by decide) (Ev.bind hput (ev_neg (by omega) hn)))))
      · have h := of_decide_eq_false h
        exact hgo _ (Ev.bind hps (ev_pos hK5 (ev_pos (by decide) (Ev.bind hput (ev_pos (by omega) (ev_some rfl))))))
    · refine ⟨l, true, Ev.bind hpi (ev_neg hK5 (ev_neg (by simp) (ev_some rfl))), fun _ => ⟨hr, hs, hl, fun r hn => ?_⟩, (fun h => by cases h)⟩
      exact hgo r (Ev.bind hps (ev_neg hK5 (ev_pos (by decide) hn)))
theorem run_same (v : Int) (cs : List S56) (hcs : ChangesOk cs) (hfit : ∀ y ∈ cs, Fit56 y) : ∀ (d i : Nat) (l : List S59), cs.length - i = d → i ≤ cs.length → Rises l → Sound l → l.length ≤ 30 →
    ∃ (m : List S59) (ok : Bool), Ev (fun k => spec_MigrateSave.l0 k v l cs (cs.length : Int) (i : Int)) (m, ok) ∧ Ev (fun k => impl_MigrateSave.l0 k v l cs (cs.length : Int) (i : Int)) (m, ok) ∧ Sound m ∧ m.length ≤ 30 := by
  have hl30 := hcs.1
  intro d
  induction d with
  | zero =>
    intro i l hd hi hr hs hl
    obtain rfl : i = cs.length := by omega
    exact ⟨l, true, st_spec_MigrateSave_l0 (ev_neg (by omega) (ev_some rfl)), st_impl_MigrateSave_l0 (ev_neg (by omega) (ev_some rfl)), hs, hl⟩
  | succ d ih =>
    intro i l hd hi hr hs hl
    have hlt : i < cs.length := by omega
    by_cases hv : (rd_T56 cs (i : Int)).f0 < v
    · obtain ⟨m, ok, h1, h2, h3⟩ := ih (i + 1) l (by omega) (by omega) hr hs hl
      refine ⟨m, ok, st_spec_MigrateSave_l0 (ev_pos (by omega) (ev_pos (by omega) (ev_pos (by omega) (ev_pos hv ?_)))), st_impl_MigrateSave_l0 (ev_pos (by omega) (ev_pos (by omega) (ev_pos (by omega) (ev_pos hv ?_)))), h3⟩
      · rw [w64s i (by omega)]; exact h1
      · rw [w64s i (by omega)]; exact h2
    · obtain ⟨l', ok, hi', hyes, hno⟩ := step v l hr hs hl cs hl30 hfit i hlt (hcs.2 i hlt) hv
      cases ok with
      | false =>
        exact ⟨[], false, hno rfl, st_impl_MigrateSave_l0 (ev_pos (by omega) (ev_pos (by omega) (ev_pos (by omega) (ev_neg hv (Ev.bind hi' (ev_neg (by simp) (ev_some rfl))))))), (fun y hy => by cases hy), by simp⟩
      | true =>
        obtain ⟨g1, g2, g3, g4⟩ := hyes rfl
        obtain ⟨m, ok, h1, h2, h3⟩ := ih (i + 1) l' (by omega) (by omega) g1 g2 g3
        refine ⟨m, ok, g4 _ ?_, st_impl_MigrateSave_l0 (ev_pos (by omega) (ev_pos (by omega) (ev_pos (by omega) (ev_neg hv (Ev.bind hi' (ev_pos rfl ?_)))))), h3⟩
        · rw [w64s i (by omega)]; exact h1
        · rw [w64s i (by omega)]; exact h2
theorem rises_of {l : List S59} (h : ∀ i, i < l.length → ValueOk l i) : Rises l := by
  have key : ∀ j i : Nat, i < j → j < l.length → Op.bytesLess (nameAt l i) (nameAt l j) = true := by
    intro j
    induction j with
    | zero => intro i hi _; omega
    | succ j ih =>
      intro i hi hj
      have h1 := (h (j + 1) hj).2.2 (by omega)
      rw [show ((j + 1 : Nat) : Int) - 1 = (j : Int) by omega] at h1
      rcases Nat.lt_or_ge i j with h2 | h2
      · exact less_trans _ _ _ (ih i h2 (by omega)) h1
      · obtain rfl : i = j := by omega
        exact h1
  unfold Rises
  rw [List.pairwise_iff_getElem]
  intro i j hi hj hij
  simp only [List.length_map] at hi hj
  have := key j i hij hj
  unfold nameAt at this
  rw [rd_value hi, rd_value hj] at this
  simpa using this
theorem migrate_same (v : Int) (l : List S59) (hx : l.length ≤ 1048576 ∧ ∀ y ∈ l, Fit59 y) (hs : Sound l) (cs : List S56) (hy : cs.length ≤ 1048576 ∧ ∀ y ∈ cs, Fit56 y) :
    ∃ (m : List S59) (ok : Bool), Ev (fun k => spec_MigrateSave.f k v l cs) (m, ok) ∧ Ev (fun k => impl_MigrateSave.f k v l cs) (m, ok) ∧ Sound m ∧ m.length ≤ 30 := by
  have no : ∀ (P : ([] : List S59).length ≤ 30), Sound ([] : List S59) ∧ ([] : List S59).length ≤ 30 := fun P => ⟨(fun y hy => by cases hy), P⟩
  by_cases hv : 1 ≤ v ∧ v ≤ 3
  · obtain ⟨g, gs, gi, hg⟩ := values_same l hx
    cases g with
    | false => exact ⟨[], false, ev_bindc (in_some _ _ _) (ev_pos (decide_eq_true hv) (Ev.bind gs (ev_neg (by decide) (st_spec_MigrateSave_j0 (ev_pos rfl (ev_some rfl)))))), ev_bindc (inr_some _ _ _) (ev_pos (decide_eq_true hv) (Ev.bind gi (ev_neg (by decide) (st_impl_MigrateSave_j0 (ev_pos rfl (ev_some rfl)))))), no (by simp)⟩
    | true =>
      have hok := hg.1 rfl
      obtain ⟨c, cg, ci, hc⟩ := changes_same cs hy
      cases c with
      | false => exact ⟨[], false, ev_bindc (in_some _ _ _) (ev_pos (decide_eq_true hv) (Ev.bind gs (ev_pos rfl (Ev.bind cg (st_spec_MigrateSave_j0 (ev_pos rfl (ev_some rfl))))))), ev_bindc (inr_some _ _ _) (ev_pos (decide_eq_true hv) (Ev.bind gi (ev_pos rfl (Ev.bind ci (st_impl_MigrateSave_j0 (ev_pos rfl (ev_some rfl))))))), no (by simp)⟩
      | true =>
        have hl := hok.1
        obtain ⟨m, ok, h1, h2, h3⟩ := run_same v cs (hc.1 rfl) hy.2 cs.length 0 l (by omega) (by omega) (rises_of hok.2) hs hl
        have c1 : impl_Value_38.f l = some l := if_pos (by omega)
        refine ⟨m, ok, ev_bindc (in_some _ _ _) (ev_pos (decide_eq_true hv) (Ev.bind gs (ev_pos rfl (Ev.bind cg (st_spec_MigrateSave_j0 (ev_neg (by decide) (ev_bindc rfl (ev_pos (by simp only [List.length_nil]; omega) h1)))))))), ev_bindc (inr_some _ _ _) (ev_pos (decide_eq_true hv) (Ev.bind gi (ev_pos rfl (Ev.bind ci (st_impl_MigrateSave_j0 (ev_neg (by decide) (ev_bindc c1 h2))))))), h3⟩
  · exact ⟨[], false, ev_bindc (in_some _ _ _) (ev_neg (by simpa using hv) (st_spec_MigrateSave_j0 (ev_pos rfl (ev_some rfl)))), ev_bindc (inr_some _ _ _) (ev_neg (by simpa using hv) (st_impl_MigrateSave_j0 (ev_pos rfl (ev_some rfl)))), no (by simp)⟩
theorem markText_l : ∀ (n : Nat) (a : Int) (t : ByteArray), a ≤ n → t.size + n ≤ 9223372036854775000 → n ≤ 4611686018427387904 → ∃ s, Ev (fun k => laws_markText.l0 k a t) s
  | 0, a, t, ha, ht, _ => ⟨_, Ev.step (fun _ => rfl) (ev_neg (by omega) (ev_pos (by omega) (ev_some rfl)))⟩
  | n + 1, a, t, ha, ht, hn => by
    by_cases h : a > 0
    · have e1 : Int.tdiv a 10 = a / 10 := Int.tdiv_eq_ediv_of_nonneg (by omega)
      have e2 : wrap64 (Int.tdiv a 10) = a / 10 := by rw [e1]; exact w64 (by omega) (by omega)
      have hs : ∀ x : Int, (strOfNums [x]).size = 1 := fun x => by rw [strOfNums_size]; rfl
      obtain ⟨s, hs'⟩ := markText_l n (a / 10) (strOfNums [(wrap64 (48 + (Int.tmod a 10))) % 256] ++ t) (by omega) (by rw [ByteArray.size_append, hs]; omega) (by omega)
      refine ⟨s, Ev.step (fun _ => rfl) (ev_pos h (ev_bindc rfl (ev_pos (by rw [hs]; omega) ?_)))⟩
      rw [e2]
      exact hs'
    · exact ⟨_, Ev.step (fun _ => rfl) (ev_neg h (ev_pos (by omega) (ev_some rfl)))⟩
theorem markText_ev (a : Int) (h1 : a ≤ 4611686018427387904) : ∃ s, Ev (fun k => laws_markText.f k a) s := by
  by_cases h : a ≤ 0
  · exact ⟨_, ev_pos h (ev_some rfl)⟩
  · obtain ⟨s, hs⟩ := markText_l a.toNat a (⟨#[]⟩ : ByteArray) (by omega) (by show (0 : Nat) + _ ≤ _; omega) (by omega)
    exact ⟨s, ev_neg h hs⟩
theorem rdset_v {xs : List S59} {i : Nat} (h : i < xs.length) (v : S59) : rd_T59 (xs.set i v) (i : Int) = v := by
  unfold rd_T59
  rw [getD_get (by simpa using h), List.getElem_set_self]
def MarkValueS (x : S59) (c d : Int) : Prop := Ev (fun k => laws_markText.f k c) x.f0 ∧ x.f1 = c + 1 ∧ Ev (fun k => laws_markText.f k (c + 2)) x.f2 ∧ d = c + 3
theorem markValueS_ev (xs : List S59) (hl : xs.length ≤ 1048576) (c : Int) (hc0 : 0 ≤ c) (hc1 : c ≤ 1152921504606846976) :
    ∃ ys d, Chain MarkValueS ys c d ∧ c ≤ d ∧ d ≤ c + 3 * xs.length ∧ ys.length = xs.length ∧ Ev (fun k => laws_markValueS.f k xs c) (d, ys) := by
  refine ev_mark (fun k zs c i => laws_markValueS.l0 k zs c (i : Int)) MarkValueS (fun _ => True) 3 (by omega) (by omega) ?_ ?_ xs (fun _ _ => trivial) hl c hc0 hc1
  · intro zs c
    exact st_laws_markValueS_l0 (ev_neg (by omega) (ev_some rfl))
  · intro zs c i hi h20 _ h0 h1
    obtain ⟨s1, hs1⟩ := markText_ev c (by omega)
    obtain ⟨s2, hs2⟩ := markText_ev (c + 2) (by omega)
    have e1 : wrap64 (c + 1) = c + 1 := w64 (by omega) (by omega)
    have e2 : wrap64 (c + 1 + 1) = c + 2 := by rw [show c + 1 + 1 = c + 2 by omega]; exact w64 (by omega) (by omega)
    have e3 : wrap64 (c + 2 + 1) = c + 3 := by rw [show c + 2 + 1 = c + 3 by omega]; exact w64 (by omega) (by omega)
    refine ⟨⟨s1, c + 1, s2⟩, c + 3, ⟨hs1, rfl, hs2, rfl⟩, by omega, by omega, fun r hr => st_laws_markValueS_l0 (ev_pos (by omega) (Ev.bind hs1 (ev_pos (by omega) (ev_bindc rfl (ev_bindc rfl ?_)))))⟩
    simp only [e1, e2, e3]
    refine Ev.bind hs2 ?_
    simp only [Int.toNat_natCast, rdset_v hi, List.set_set, w64s i (by omega)]
    exact hr
theorem heldValueS_ev (ys : List S59) (hl : ys.length ≤ 1048576) (c d : Int) (hc0 : 0 ≤ c) (hd : d ≤ 2305843009213693952) (h : Chain MarkValueS ys c d) : Ev (fun k => laws_heldValueS.f k ys c) d := by
  refine ev_held (fun k ys c i => laws_heldValueS.l0 k ys c (i : Int)) MarkValueS (fun x c d h => by have := h.2.2.2; omega) ?_ ?_ ys hl c d hc0 hd h
  · intro ys c
    exact st_laws_heldValueS_l0 (ev_neg (by omega) (ev_some rfl))
  · intro ys c c' i hi h20 hE h0 h1 r hr
    obtain ⟨hE1, hE2, hE3, rfl⟩ := hE
    have e1 : wrap64 (c + 1) = c + 1 := w64 (by omega) (by omega)
    have e2 : wrap64 (c + 1 + 1) = c + 2 := by rw [show c + 1 + 1 = c + 2 by omega]; exact w64 (by omega) (by omega)
    have e3 : wrap64 (c + 2 + 1) = c + 3 := by rw [show c + 2 + 1 = c + 3 by omega]; exact w64 (by omega) (by omega)
    have ex : rd_T59 ys (i : Int) = ys[i] := getD_get hi
    refine st_laws_heldValueS_l0 (ev_pos (by omega) (ev_pos (by omega) (Ev.bind hE1 (ev_pos (by rw [ex]) (ev_pos (by rw [ex, e1]; exact hE2) ?_)))))
    rw [e1, e2]
    refine Ev.bind hE3 (ev_pos (by rw [ex]) ?_)
    rw [e3, w64s i (by omega)]
    exact hr
theorem rdset_c {xs : List S56} {i : Nat} (h : i < xs.length) (v : S56) : rd_T56 (xs.set i v) (i : Int) = v := by
  unfold rd_T56
  rw [getD_get (by simpa using h), List.getElem_set_self]
theorem markChangeS_ev (xs : List S56) (hl : xs.length ≤ 1048576) (c : Int) (hc0 : 0 ≤ c) (hc1 : c ≤ 1152921504606846976) :
    ∃ ys d, (0 : Int) ≤ d ∧ Ev (fun k => laws_markChangeS.f k xs c) (d, ys) := by
  obtain ⟨ys, d, _, h0, _, _, h⟩ := ev_mark (fun k zs c i => laws_markChangeS.l0 k zs c (i : Int)) (fun _ _ _ => True) (fun _ => True) 5 (by omega) (by omega) (fun zs c => st_laws_markChangeS_l0 (ev_neg (by omega) (ev_some rfl))) (by
    intro zs c i hi h20 _ h0 h1
    obtain ⟨s1, hs1⟩ := markText_ev (c + 2) (by omega)
    obtain ⟨s2, hs2⟩ := markText_ev (c + 3) (by omega)
    have e1 : wrap64 (c + 1) = c + 1 := w64 (by omega) (by omega)
    have e2 : wrap64 (c + 1 + 1) = c + 2 := by rw [show c + 1 + 1 = c + 2 by omega]; exact w64 (by omega) (by omega)
    have e3 : wrap64 (c + 2 + 1) = c + 3 := by rw [show c + 2 + 1 = c + 3 by omega]; exact w64 (by omega) (by omega)
    have e4 : wrap64 (c + 3 + 1) = c + 4 := by rw [show c + 3 + 1 = c + 4 by omega]; exact w64 (by omega) (by omega)
    have e5 : wrap64 (c + 4 + 1) = c + 5 := by rw [show c + 4 + 1 = c + 5 by omega]; exact w64 (by omega) (by omega)
    refine ⟨⟨c, c + 1, s1, s2, c + 4⟩, c + 5, trivial, by omega, by omega, fun r hr => st_laws_markChangeS_l0 (ev_pos (by omega) (ev_pos (by omega) (ev_bindc rfl (ev_bindc rfl ?_))))⟩
    simp only [e1, e2, e3, e4, e5]
    refine Ev.bind hs1 (ev_bindc rfl (Ev.bind hs2 (ev_bindc rfl ?_)))
    simp only [Int.toNat_natCast, rdset_c hi, List.set_set, w64s i (by omega)]
    exact hr) xs (fun _ _ => trivial) hl c hc0 hc1
  exact ⟨ys, d, by omega, h⟩
theorem FnExactMigrateSave : ∀ (a0 : Int) (l1 : List (S49)) (l2 : List (S52)), (In64 a0) → (l1.length * 40 ≤ 140737488351232 ∧ ∀ y ∈ l1, Ok49 y) → (l2.length * 56 ≤ 140737488351232 ∧ ∀ y ∈ l2, Ok52 y) → ∃ k, laws_FnExactMigrateSave.f k a0 l1 l2 = some true := by
  intro v xs cs _ gl gc
  refine Ev.rounds (g := fun k => laws_FnExactMigrateSave.f k v xs cs) ?_
  obtain ⟨r, hr, h | ⟨h0, h1, hx⟩⟩ := szValueS_some xs gl 1048576 (by omega) (by omega)
  · exact Ev.bind hr (ev_pos h (ev_some rfl))
  · obtain ⟨r2, hr2, h | ⟨g0, g1, hy⟩⟩ := szChangeS_some cs gc r h0 h1
    · exact Ev.bind hr (ev_neg (by omega) (Ev.bind hr2 (ev_pos h (ev_some rfl))))
    · have tx := toValueS_ev xs hx
      have ty := toChangeS_ev cs hy
      have hx' : (xs.map cv49).length ≤ 1048576 ∧ ∀ y ∈ xs.map cv49, Fit59 y := ⟨by rw [List.length_map]; exact hx.1, fun y hy => by
        obtain ⟨z, hz, rfl⟩ := List.mem_map.1 hy
        exact fit_cv49 (hx.2 z hz)⟩
      have hy' : (cs.map cv52).length ≤ 1048576 ∧ ∀ y ∈ cs.map cv52, Fit56 y := ⟨by rw [List.length_map]; exact hy.1, fun y hy2 => by
        obtain ⟨z, hz, rfl⟩ := List.mem_map.1 hy2
        exact fit_cv52 (hy.2 z hz)⟩
      have hs : Sound (xs.map cv49) := fun y hy => ⟨hx'.2 y hy, by
        obtain ⟨z, hz, rfl⟩ := List.mem_map.1 hy
        exact (gl.2 z hz).2.1⟩
      obtain ⟨m, t, hsp, him, hm1, hm2⟩ := migrate_same v (xs.map cv49) hx' hs (cs.map cv52) hy'
      have hm' : m.length ≤ 1048576 ∧ ∀ y ∈ m, Fit59 y := ⟨by omega, fun y hy => (hm1 y hy).1⟩
      obtain ⟨y1, d1, _, p0, p1, _, mk1⟩ := markValueS_ev (xs.map cv49) hx'.1 1 (by omega) (by omega)
      obtain ⟨y3, d3, p3, mk3⟩ := markChangeS_ev (cs.map cv52) hy'.1 d1 (by omega) (by have := hx'.1; omega)
      obtain ⟨y2, d2, hch, q0, q1, ml, mk2⟩ := markValueS_ev m (by omega) 1 (by omega) (by omega)
      have hh := heldValueS_ev y2 (by omega) 1 d2 (by omega) (by omega) hch
      have ee := eqValueS_ev m hm'
      have ex := eqValueS_ev (xs.map cv49) hx'
      have ey := eqChangeS_ev (cs.map cv52) hy'
      have et : (t != t) = false := by simp
      refine Ev.bind hr (ev_neg (by omega) (Ev.bind hr2 (ev_neg (by omega) (Ev.bind tx (Ev.bind ty (Ev.bind hsp (Ev.bind tx (Ev.bind ty (Ev.bind him (Ev.bind ee (ev_pos rfl ?_)))))))))))
      simp only [et]
      refine st_laws_FnExactMigrateSave_j0 (ev_neg (by decide) (Ev.bind tx (Ev.bind ex (ev_pos rfl (Ev.bind ty (Ev.bind ey (ev_pos rfl (Ev.bind mk1 (Ev.bind mk3 (ev_neg (by omega) (Ev.bind ee (ev_pos rfl ?_)))))))))))) 
      simp only [et]
      refine st_laws_FnExactMigrateSave_j1 (ev_neg (by decide) (Ev.bind mk2 (Ev.bind hh (ev_neg (by omega) (ev_pos rfl (Ev.bind tx (Ev.bind ty (Ev.bind him (Ev.bind ee (ev_pos rfl ?_))))))))))
      simp only [et]
      exact st_laws_FnExactMigrateSave_j2 (ev_neg (by decide) (Ev.bind hh (ev_neg (by omega) (ev_pos rfl (ev_some rfl)))))
end Go.Proofs.Ytdgaphefgpjbfaa.Pure
