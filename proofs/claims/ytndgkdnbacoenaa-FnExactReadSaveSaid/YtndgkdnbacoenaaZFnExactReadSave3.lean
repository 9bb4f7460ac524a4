/- Texts of a row. -/
import Derived.Test.YtndgkdnbacoenaaZFnExactReadSave1
import Derived.Test.YtndgkdnbacoenaaZFnExactReadSave2
import Derived.Test.YtndgkdnbacoenaaZFnExactReadSave0
import Derived.SizedLaws
import Derived.ChangeArms
import Derived.OpenShut
import Derived.WideShapes
import Derived.WalkKit
import Derived.KernelRfl
import Derived.Laws.BitsLemmas
namespace Go.Proofs.Ytndgkdnbacoenaa.PFnExactReadSave
open Go.RowKit Go.Proofs.YtndgkdnbacoenaaW.PrintWords Go.Proofs.YtndgkdnbacoenaaW.PrintLast Go.Proofs.YtndgkdnbacoenaaW.PrintMore
attribute [local go_sem] max2_int min2_int max_two min_two max_three min_three max_four min_four   -- for this text's walks alone
set_option linter.unusedVariables false
set_option linter.unusedSimpArgs false
def laws_heldValueS.l0 : Nat → List (S41) → Int → Int → Option (Int)
 | 0, _, _, _ => none
 | k + 1, x0, x1, x5 => if x5 < (x0.length : Int) then (if 0 ≤ x5 then ((laws_markText.f k x1).bind fun t144 => (if ((rd_T41 x0 x5).f0).toList = t144.toList then (if ((rd_T41 x0 x5).f1) = (wrap64 (x1 + 1)) then ((laws_markText.f k (wrap64 ((wrap64 (x1 + 1)) + 1))).bind fun t147 => (if ((rd_T41 x0 x5).f2).toList = t147.toList then (laws_heldValueS.l0 k x0 (wrap64 ((wrap64 ((wrap64 (x1 + 1)) + 1)) + 1)) (wrap64 (x5 + 1))) else (some (-1)))) else (some (-1))) else (some (-1)))) else (none)) else (some x1)
def laws_heldValueS.f (k : Nat) (l0 : List (S41)) (a1 : Int) : Option (Int) := laws_heldValueS.l0 k l0 a1 0
theorem laws_heldValueS.mono_l : ∀ k, (∀ y0 y1 y2, LeO (laws_heldValueS.l0 k y0 y1 y2) (laws_heldValueS.l0 (k + 1) y0 y1 y2))
 | 0 => fun _ _ _ r h => by simp [laws_heldValueS.l0] at h
 | k + 1 => by
  have ih0 := laws_heldValueS.mono_l k
  ·intro y0 y1 y2
   unfold laws_heldValueS.l0
   repeat' first
   | (with_reducible exact ih0 _ _ _)
   | (with_reducible exact laws_markText.mono _ _)
   | (with_reducible first | exact LeO.refl _ | exact LeO.none _ | refine LeO.ite ?_ ?_ | refine LeO.bind ?_ (fun _ => ?_))
   | exact ih0 _ _ _
   | exact laws_markText.mono _ _ | exact LeO.none _ | refine LeO.ite ?_ ?_ | refine LeO.bind ?_ (fun _ => ?_)
theorem laws_heldValueS.mono : ∀ a0 a1 k, LeO (laws_heldValueS.f k a0 a1) (laws_heldValueS.f (k + 1) a0 a1) := by
 intro a0 a1 k
 have ih0 := laws_heldValueS.mono_l k
 unfold laws_heldValueS.f
 repeat' first
   | (with_reducible exact ih0 _ _ _)
   | (with_reducible exact laws_markText.mono _ _)
   | (with_reducible first | exact LeO.refl _ | exact LeO.none _ | refine LeO.ite ?_ ?_ | refine LeO.bind ?_ (fun _ => ?_))
   | exact ih0 _ _ _
   | exact laws_markText.mono _ _ | exact LeO.none _ | refine LeO.ite ?_ ?_ | refine LeO.bind ?_ (fun _ => ?_)
def laws_heldValueS.T4 : Bool × List (List Nat × List Nat) := (true, [([], []), ([], []), ([0, 1], [0, 1]), ([2], [2]), ([3], [3]), ([], []), ([5], [5]), ([4, 6], [4, 6])])
def laws_heldValueS.B4 : List Nat := [0, 0, 3, 7, 15, 0, 32, 127]
theorem laws_heldValueS.tab4 : rtab .any (opsOf Try.f11 4) = laws_heldValueS.T4 := by kernel_rfl
theorem laws_heldValueS.bits4 : waitsOk laws_heldValueS.T4.2 laws_heldValueS.B4 = true := by kernel_rfl
def laws_heldValueS.T10 : Bool × List (List Nat × List Nat) := (true, [([], []), ([], []), ([0, 1], [0, 1]), ([2], [2]), ([3], [3]), ([], []), ([5], [5]), ([4, 6], [4, 6])])
def laws_heldValueS.B10 : List Nat := [0, 0, 3, 7, 15, 0, 32, 127]
theorem laws_heldValueS.tab10 : rtab .any (opsOf Try.f11 10) = laws_heldValueS.T10 := by kernel_rfl
theorem laws_heldValueS.bits10 : waitsOk laws_heldValueS.T10.2 laws_heldValueS.B10 = true := by kernel_rfl
set_option maxHeartbeats 8000000 in
set_option maxRecDepth 100000 in
theorem laws_heldValueS.calls (k : Nat) (A0 : Option Addr) (c0 : Nat) (l0 : List (S41)) (a1 : Int) (r : Int) (w : World) (hr0 : Kd.C k41 w A0 l0.length l0) (hc0 : l0.length ≤ c0) (h : laws_heldValueS.f k l0 a1 = some r) :
  Calls Try.prog 11 #[.slice A0 l0.length c0, .int .i64 a1] w fun e w' => e = .returned (.int .i64 r) ∧ Below w.heap.size w w' := by
 have HR0 := Aside0.mk hr0
 have HC0 := Aside0.mk hc0
 clear hr0 hc0
 have HB := Aside0.mk (Below.refl w.heap.size w)
 have H : (laws_heldValueS.l0 k l0 a1 0) = some r := h
 clear h
 have H' := Aside0.mk H
 clear H
 go_enter Try.func11, Try.ntmps11
 go_wp2
 go_loopg [1, 5] k (fun kq v1 v5 w' => ∃ (x1_1 : Int) (x5_1 : Int), v1 = .int .i64 x1_1 ∧ v5 = .int .i64 x5_1 ∧ Aside0 (laws_heldValueS.l0 kq l0 x1_1 x5_1 = some r) ∧ Aside0 (kq ≤ k) ∧ Aside0 (Below w.heap.size w w'))
 case atStart => exact ⟨(a1), (0), (by first | rfl | (simp; done) | (simp [*]; done) | exact not_isEmpty _ | exact (not_isEmpty _).symm | exact is_empty _ | exact (is_empty _).symm), (by first | rfl | (simp; done) | (simp [*]; done) | exact not_isEmpty _ | exact (not_isEmpty _).symm | exact is_empty _ | exact (is_empty _).symm), H', ⟨Nat.le_refl _⟩, ⟨by repeat (first | (with_reducible first | exact HB.out | apply below_alloc | apply pw_below_drewN | apply below_drew1) | exact HB.out)⟩⟩
 case round =>
  clear H'
  try clear c1
  try clear p2
  obtain ⟨x1_1, x5_1, rfl, rfl, HA, HK1, HB⟩ := hrel
  cases gk with
  | zero => exact absurd HA.out (by simp [laws_heldValueS.l0])
  | succ k1 =>
   have H := HA.out
   clear HA
   simp only [laws_heldValueS.l0] at H
   by_cases c3 : x5_1 < (l0.length : Int)
   ·rw [if_pos c3] at H
    have c3b0 : decide (x5_1 < (l0.length : Int)) = true := decide_eq_true c3
    clear c3
    by_cases c4 : 0 ≤ x5_1
    ·rw [if_pos c4] at H
     have c4b0 : decide (0 ≤ x5_1) = true := decide_eq_true c4
     clear c4
     replace H := Option.bind_eq_some_iff.mp H
     obtain ⟨t144, A50, H⟩ := H
     replace H : (if ((rd_T41 l0 x5_1).f0).toList = t144.toList then (if ((rd_T41 l0 x5_1).f1) = (wrap64 (x1_1 + 1)) then ((laws_markText.f k1 (wrap64 ((wrap64 (x1_1 + 1)) + 1))).bind fun t147 => (if ((rd_T41 l0 x5_1).f2).toList = t147.toList then (laws_heldValueS.l0 k1 l0 (wrap64 ((wrap64 ((wrap64 (x1_1 + 1)) + 1)) + 1)) (wrap64 (x5_1 + 1))) else (some (-1)))) else (some (-1))) else (some (-1))) = some r := H
     have A5 := Aside0.mk A50
     clear A50
     by_cases c6 : ((rd_T41 l0 x5_1).f0).toList = t144.toList
     ·rw [if_pos c6] at H
      have c6b0 : (((rd_T41 l0 x5_1).f0).toList == t144.toList) = true := beq_iff_eq.mpr c6
      have c6b1 : (((rd_T41 l0 x5_1).f0).toList != t144.toList) = false := bne_eq_false_iff_eq.mpr c6
      clear c6
      by_cases c7 : ((rd_T41 l0 x5_1).f1) = (wrap64 (x1_1 + 1))
      ·rw [if_pos c7] at H
       have c7b0 : (((rd_T41 l0 x5_1).f1) == (wrap64 (x1_1 + 1))) = true := beq_iff_eq.mpr c7
       have c7b1 : (((rd_T41 l0 x5_1).f1) != (wrap64 (x1_1 + 1))) = false := bne_eq_false_iff_eq.mpr c7
       clear c7
       replace H := Option.bind_eq_some_iff.mp H
       obtain ⟨t147, A80, H⟩ := H
       replace H : (if ((rd_T41 l0 x5_1).f2).toList = t147.toList then (laws_heldValueS.l0 k1 l0 (wrap64 ((wrap64 ((wrap64 (x1_1 + 1)) + 1)) + 1)) (wrap64 (x5_1 + 1))) else (some (-1))) = some r := H
       have A8 := Aside0.mk A80
       clear A80
       by_cases c9 : ((rd_T41 l0 x5_1).f2).toList = t147.toList
       ·rw [if_pos c9] at H
        have c9b0 : (((rd_T41 l0 x5_1).f2).toList == t147.toList) = true := beq_iff_eq.mpr c9
        have c9b1 : (((rd_T41 l0 x5_1).f2).toList != t147.toList) = false := bne_eq_false_iff_eq.mpr c9
        clear c9
        have H' := Aside0.mk H
        clear H
        try go_wp2
        have n0_ := Aside0.mk (below_drew1 HB.out)
        clear HB
        have HB := n0_
        clear n0_
        have p143 : 0 ≤ (x5_1 : Int) := of_decide_eq_true (by first | (with_reducible assumption) | assumption)
        have q143 : x5_1 < (l0.length : Int) := of_decide_eq_true (by first | (with_reducible assumption) | assumption)
        obtain ⟨ad143, e143, hx143_0, hx143_1, hx143_2⟩ := at_T41 HR0.out x5_1 p143 q143
        have hw143_2 := hx143_2
        have hw143_1 := hx143_1
        have hw143_0 := hx143_0
        cases e143
        replace hx143_0 := (HB.out.cell (World.block_lt_of_cell? w _ hx143_0)).trans hx143_0
        replace hx143_1 := (HB.out.cell (World.block_lt_of_cell? w _ hx143_1)).trans hx143_1
        replace hx143_2 := (HB.out.cell (World.block_lt_of_cell? w _ hx143_2)).trans hx143_2
        replace p143 := eq_true p143
        replace q143 := eq_true q143
        refine start_ (n := 8) (S := fun w' => w'.cell? (ad143.add ((x5_1).toNat * 3)) = some (.string ((rd_T41 l0 x5_1).f0)) ∧ w'.cell? ⟨(ad143.add ((x5_1).toNat * 3)).block, (ad143.add ((x5_1).toNat * 3)).off + 1, none⟩ = some (.int .i64 ((rd_T41 l0 x5_1).f1)) ∧ w'.cell? ⟨(ad143.add ((x5_1).toNat * 3)).block, (ad143.add ((x5_1).toNat * 3)).off + 2, none⟩ = some (.string ((rd_T41 l0 x5_1).f2))) (ds := []) #[false, false, false, false, false, false, false, false] (by kernel_rfl) rfl rfl ⟨((HB.out.cell (World.block_lt_of_cell? w _ hw143_0)).trans hw143_0), ((HB.out.cell (World.block_lt_of_cell? w _ hw143_1)).trans hw143_1), ((HB.out.cell (World.block_lt_of_cell? w _ hw143_2)).trans hw143_2)⟩ (fun hHeld => ?_); refine with_tabW laws_heldValueS.tab4 laws_heldValueS.bits4 (fun HT_ HW_ => ?_)
        generalize wr.drew = w10 at HB hx143_0 hx143_1 hx143_2 hHeld ⊢
        refine pure_ (i := 0) (N := some 12) (v := ?_) (a' := ?_) #[true, false, false, false, false, false, false, false] rfl rfl (any_of HT_.out (by kernel_rfl)) (fun _ _ _ h => h) (Or.inl ⟨by rfl, ?_⟩) ?_ ?_
        rotate_left
        ·intro w'
         go_simp
         with_reducible rfl
        rotate_left
        ·simp only [Act.put, List.setIfInBounds_toArray, List.set_cons_zero, List.set_cons_succ, i64_w, i32_w]
         rfl
        refine pure_ (i := 1) (N := some 13) (v := ?_) (a' := ?_) #[true, true, false, false, false, false, false, false] rfl rfl (any_of HT_.out (by kernel_rfl)) (fun _ _ _ h => h) (Or.inl ⟨by rfl, ?_⟩) ?_ ?_
        rotate_left
        ·intro w'
         go_simp
         with_reducible rfl
        rotate_left
        ·simp only [Act.put, List.setIfInBounds_toArray, List.set_cons_zero, List.set_cons_succ, i64_w, i32_w]
         rfl
        refine pure_ (i := 2) (N := some 14) (v := ?_) (a' := ?_) #[true, true, true, false, false, false, false, false] rfl rfl (any_of HT_.out (by kernel_rfl)) (fun _ _ _ h => h) (Or.inl ⟨by rfl, ?_⟩) ?_ ?_
        rotate_left
        ·intro w'
         go_simp
         with_reducible rfl
        rotate_left
        ·simp only [Act.put, List.setIfInBounds_toArray, List.set_cons_zero, List.set_cons_succ, i64_w, i32_w]
         rfl
        refine pure_ (i := 3) (N := some 15) (v := ?_) (a' := ?_) #[true, true, true, true, false, false, false, false] rfl rfl (any_of HT_.out (by kernel_rfl)) (fun _ _ _ h => h) (Or.inl ⟨by rfl, ?_⟩) ?_ ?_
        rotate_left
        ·intro w'
         go_simp
         with_reducible rfl
        rotate_left
        ·simp only [Act.put, List.setIfInBounds_toArray, List.set_cons_zero, List.set_cons_succ, i64_w, i32_w]
         rfl
        refine pure_ (i := 5) (N := some 17) (v := ?_) (a' := ?_) #[true, true, true, true, false, true, false, false] rfl rfl (any_of HT_.out (by kernel_rfl)) (fun _ _ _ h => h) (Or.inl ⟨by rfl, ?_⟩) ?_ ?_
        rotate_left
        ·intro w'
         go_simp
         with_reducible rfl
        rotate_left
        ·simp only [Act.put, List.setIfInBounds_toArray, List.set_cons_zero, List.set_cons_succ, i64_w, i32_w]
         rfl
        refine take_ (i := 4) (N := some 16) (v := ?_) (a' := ?_) #[true, true, true, true, true, true, false, false] rfl rfl (take_ofW HT_.out HW_.out (by kernel_rfl)) (fun _ _ _ h => h) (Or.inl ⟨by rfl, ?_⟩) hHeld ?_ ?_
        rotate_left
        ·rintro w' ⟨s0, s1, s2⟩
         go_simp
         with_reducible rfl
        rotate_left
        ·simp only [Act.put, List.setIfInBounds_toArray, List.set_cons_zero, List.set_cons_succ, i64_w, i32_w]
         rfl
        refine one_ (i := 6) (N := some 18) #[true, true, true, true, true, true, true, false] rfl rfl (one_of HT_.out (by kernel_rfl)) (by decide) (fun K hK => ?_)
        refine goes_ Try.func25 (by kernel_rfl) rfl #[.int .i64 x1_1] (by rfl) rfl rfl (by (try simp only [List.map_toArray, List.map_cons, List.map_nil]); first | done | rfl | (simp only [List.length_drop, List.length_take]; rfl)) ?_
        with_reducible refine (laws_markText.calls k1 x1_1 t144 _ A5.out).mono ?_
        rintro e w11 ⟨rfl, hb⟩
        refine ⟨_, rfl, ?_⟩
        have n0_ := Aside0.mk (below_step (by repeat (first | (with_reducible first | exact HB.out | apply below_alloc | apply pw_below_drewN | apply below_drew1) | exact HB.out)) hb)
        clear HB
        have HB := n0_
        clear n0_
        (try clear hb)
        (try clear hb2)
        (try clear hk)
        (try clear hi)
        refine hK.out _ _ ⟨((HB.out.cell (World.block_lt_of_cell? w _ hw143_0)).trans hw143_0), ((HB.out.cell (World.block_lt_of_cell? w _ hw143_1)).trans hw143_1), ((HB.out.cell (World.block_lt_of_cell? w _ hw143_2)).trans hw143_2)⟩ (fun hHeld => ?_)
        clear hK K
        refine norm_ (a' := ?_) ?_ ?_
        rotate_left
        ·show Act.put _ (some 18) _ = _
         simp only [Act.put, List.setIfInBounds_toArray, List.set_cons_zero, List.set_cons_succ, i64_w, i32_w]
         rfl
        refine pure_ (i := 7) (N := some 19) (v := ?_) (a' := ?_) #[true, true, true, true, true, true, true, true] rfl rfl (any_of HT_.out (by kernel_rfl)) (fun _ _ _ h => h) (Or.inl ⟨by rfl, ?_⟩) ?_ ?_
        rotate_left
        ·intro w'
         go_simp
         with_reducible rfl
        rotate_left
        ·simp only [Act.put, List.setIfInBounds_toArray, List.set_cons_zero, List.set_cons_succ, i64_w, i32_w]
         rfl
        refine done_ (done_of HT_.out (by kernel_rfl)) ?_
        have p145 : 0 ≤ (x5_1 : Int) := of_decide_eq_true (by first | (with_reducible assumption) | assumption)
        have q145 : x5_1 < (l0.length : Int) := of_decide_eq_true (by first | (with_reducible assumption) | assumption)
        obtain ⟨ad145, e145, hx145_0, hx145_1, hx145_2⟩ := at_T41 HR0.out x5_1 p145 q145
        obtain rfl : ad143 = ad145 := (by injection e145)
        replace hx145_0 := (HB.out.cell (World.block_lt_of_cell? w _ hx145_0)).trans hx145_0
        replace hx145_1 := (HB.out.cell (World.block_lt_of_cell? w _ hx145_1)).trans hx145_1
        replace hx145_2 := (HB.out.cell (World.block_lt_of_cell? w _ hx145_2)).trans hx145_2
        replace p145 := eq_true p145
        replace q145 := eq_true q145
        try go_wp2
        have n0_ := Aside0.mk (below_drew1 HB.out)
        clear HB
        have HB := n0_
        clear n0_
        have p146 : 0 ≤ (x5_1 : Int) := of_decide_eq_true (by first | (with_reducible assumption) | assumption)
        have q146 : x5_1 < (l0.length : Int) := of_decide_eq_true (by first | (with_reducible assumption) | assumption)
        obtain ⟨ad146, e146, hx146_0, hx146_1, hx146_2⟩ := at_T41 HR0.out x5_1 p146 q146
        have hw146_2 := hx146_2
        have hw146_1 := hx146_1
        have hw146_0 := hx146_0
        obtain rfl : ad143 = ad146 := (by injection e146)
        replace hx146_0 := (HB.out.cell (World.block_lt_of_cell? w _ hx146_0)).trans hx146_0
        replace hx146_1 := (HB.out.cell (World.block_lt_of_cell? w _ hx146_1)).trans hx146_1
        replace hx146_2 := (HB.out.cell (World.block_lt_of_cell? w _ hx146_2)).trans hx146_2
        replace p146 := eq_true p146
        replace q146 := eq_true q146
        refine start_ (n := 8) (S := fun w' => w'.cell? (ad143.add ((x5_1).toNat * 3)) = some (.string ((rd_T41 l0 x5_1).f0)) ∧ w'.cell? ⟨(ad143.add ((x5_1).toNat * 3)).block, (ad143.add ((x5_1).toNat * 3)).off + 1, none⟩ = some (.int .i64 ((rd_T41 l0 x5_1).f1)) ∧ w'.cell? ⟨(ad143.add ((x5_1).toNat * 3)).block, (ad143.add ((x5_1).toNat * 3)).off + 2, none⟩ = some (.string ((rd_T41 l0 x5_1).f2))) (ds := []) #[false, false, false, false, false, false, false, false] (by kernel_rfl) rfl rfl ⟨((HB.out.cell (World.block_lt_of_cell? w _ hw146_0)).trans hw146_0), ((HB.out.cell (World.block_lt_of_cell? w _ hw146_1)).trans hw146_1), ((HB.out.cell (World.block_lt_of_cell? w _ hw146_2)).trans hw146_2)⟩ (fun hHeld => ?_); refine with_tabW laws_heldValueS.tab10 laws_heldValueS.bits10 (fun HT_ HW_ => ?_)
        generalize w11.drew = w12 at HB hx146_0 hx146_1 hx146_2 hHeld ⊢
        refine pure_ (i := 0) (N := some 31) (v := ?_) (a' := ?_) #[true, false, false, false, false, false, false, false] rfl rfl (any_of HT_.out (by kernel_rfl)) (fun _ _ _ h => h) (Or.inl ⟨by rfl, ?_⟩) ?_ ?_
        rotate_left
        ·intro w'
         go_simp
         with_reducible rfl
        rotate_left
        ·simp only [Act.put, List.setIfInBounds_toArray, List.set_cons_zero, List.set_cons_succ, i64_w, i32_w]
         rfl
        refine pure_ (i := 1) (N := some 32) (v := ?_) (a' := ?_) #[true, true, false, false, false, false, false, false] rfl rfl (any_of HT_.out (by kernel_rfl)) (fun _ _ _ h => h) (Or.inl ⟨by rfl, ?_⟩) ?_ ?_
        rotate_left
        ·intro w'
         go_simp
         with_reducible rfl
        rotate_left
        ·simp only [Act.put, List.setIfInBounds_toArray, List.set_cons_zero, List.set_cons_succ, i64_w, i32_w]
         rfl
        refine pure_ (i := 2) (N := some 33) (v := ?_) (a' := ?_) #[true, true, true, false, false, false, false, false] rfl rfl (any_of HT_.out (by kernel_rfl)) (fun _ _ _ h => h) (Or.inl ⟨by rfl, ?_⟩) ?_ ?_
        rotate_left
        ·intro w'
         go_simp
         with_reducible rfl
        rotate_left
        ·simp only [Act.put, List.setIfInBounds_toArray, List.set_cons_zero, List.set_cons_succ, i64_w, i32_w]
         rfl
        refine pure_ (i := 3) (N := some 34) (v := ?_) (a' := ?_) #[true, true, true, true, false, false, false, false] rfl rfl (any_of HT_.out (by kernel_rfl)) (fun _ _ _ h => h) (Or.inl ⟨by rfl, ?_⟩) ?_ ?_
        rotate_left
        ·intro w'
         go_simp
         with_reducible rfl
        rotate_left
        ·simp only [Act.put, List.setIfInBounds_toArray, List.set_cons_zero, List.set_cons_succ, i64_w, i32_w]
         rfl
        refine pure_ (i := 5) (N := some 36) (v := ?_) (a' := ?_) #[true, true, true, true, false, true, false, false] rfl rfl (any_of HT_.out (by kernel_rfl)) (fun _ _ _ h => h) (Or.inl ⟨by rfl, ?_⟩) ?_ ?_
        rotate_left
        ·intro w'
         go_simp
         with_reducible rfl
        rotate_left
        ·simp only [Act.put, List.setIfInBounds_toArray, List.set_cons_zero, List.set_cons_succ, i64_w, i32_w]
         rfl
        refine take_ (i := 4) (N := some 35) (v := ?_) (a' := ?_) #[true, true, true, true, true, true, false, false] rfl rfl (take_ofW HT_.out HW_.out (by kernel_rfl)) (fun _ _ _ h => h) (Or.inl ⟨by rfl, ?_⟩) hHeld ?_ ?_
        rotate_left
        ·rintro w' ⟨s0, s1, s2⟩
         go_simp
         with_reducible rfl
        rotate_left
        ·simp only [Act.put, List.setIfInBounds_toArray, List.set_cons_zero, List.set_cons_succ, i64_w, i32_w]
         rfl
        refine one_ (i := 6) (N := some 37) #[true, true, true, true, true, true, true, false] rfl rfl (one_of HT_.out (by kernel_rfl)) (by decide) (fun K hK => ?_)
        refine goes_ Try.func25 (by kernel_rfl) rfl #[.int .i64 (wrap64 ((wrap64 (x1_1 + 1)) + 1))] (by rfl) rfl rfl (by (try simp only [List.map_toArray, List.map_cons, List.map_nil]); first | done | rfl | (simp only [List.length_drop, List.length_take]; rfl)) ?_
        with_reducible refine (laws_markText.calls k1 (wrap64 ((wrap64 (x1_1 + 1)) + 1)) t147 _ A8.out).mono ?_
        rintro e w13 ⟨rfl, hb⟩
        refine ⟨_, rfl, ?_⟩
        have n0_ := Aside0.mk (below_step (by repeat (first | (with_reducible first | exact HB.out | apply below_alloc | apply pw_below_drewN | apply below_drew1) | exact HB.out)) hb)
        clear HB
        have HB := n0_
        clear n0_
        (try clear hb)
        (try clear hb2)
        (try clear hk)
        (try clear hi)
        refine hK.out _ _ ⟨((HB.out.cell (World.block_lt_of_cell? w _ hw146_0)).trans hw146_0), ((HB.out.cell (World.block_lt_of_cell? w _ hw146_1)).trans hw146_1), ((HB.out.cell (World.block_lt_of_cell? w _ hw146_2)).trans hw146_2)⟩ (fun hHeld => ?_)
        clear hK K
        refine norm_ (a' := ?_) ?_ ?_
        rotate_left
        ·show Act.put _ (some 37) _ = _
         simp only [Act.put, List.setIfInBounds_toArray, List.set_cons_zero, List.set_cons_succ, i64_w, i32_w]
         rfl
        refine pure_ (i := 7) (N := some 38) (v := ?_) (a' := ?_) #[true, true, true, true, true, true, true, true] rfl rfl (any_of HT_.out (by kernel_rfl)) (fun _ _ _ h => h) (Or.inl ⟨by rfl, ?_⟩) ?_ ?_
        rotate_left
        ·intro w'
         go_simp
         with_reducible rfl
        rotate_left
        ·simp only [Act.put, List.setIfInBounds_toArray, List.set_cons_zero, List.set_cons_succ, i64_w, i32_w]
         rfl
        refine done_ (done_of HT_.out (by kernel_rfl)) ?_
        try go_wp2
        go_roundg k1
        case measure => have := HK1.out; omega
        case rel => exact ⟨(wrap64 ((wrap64 ((wrap64 (x1_1 + 1)) + 1)) + 1)), (wrap64 (x5_1 + 1)), (by first | rfl | (simp; done) | (simp [*]; done) | exact not_isEmpty _ | exact (not_isEmpty _).symm | exact is_empty _ | exact (is_empty _).symm), (by first | rfl | (simp; done) | (simp [*]; done) | exact not_isEmpty _ | exact (not_isEmpty _).symm | exact is_empty _ | exact (is_empty _).symm), H', ⟨by have := HK1.out; omega⟩, ⟨by repeat (first | (with_reducible first | exact HB.out | apply below_alloc | apply pw_below_drewN | apply below_drew1) | exact HB.out)⟩⟩
       ·rw [if_neg c9] at H
        have c9b0 : (((rd_T41 l0 x5_1).f2).toList == t147.toList) = false := beq_eq_false_iff_ne.mpr c9
        have c9b1 : (((rd_T41 l0 x5_1).f2).toList != t147.toList) = true := bne_iff_ne.mpr c9
        obtain rfl := Option.some.inj H
        try go_wp2
        have n0_ := Aside0.mk (below_drew1 HB.out)
        clear HB
        have HB := n0_
        clear n0_
        have p143 : 0 ≤ (x5_1 : Int) := of_decide_eq_true (by first | (with_reducible assumption) | assumption)
        have q143 : x5_1 < (l0.length : Int) := of_decide_eq_true (by first | (with_reducible assumption) | assumption)
        obtain ⟨ad143, e143, hx143_0, hx143_1, hx143_2⟩ := at_T41 HR0.out x5_1 p143 q143
        have hw143_2 := hx143_2
        have hw143_1 := hx143_1
        have hw143_0 := hx143_0
        cases e143
        replace hx143_0 := (HB.out.cell (World.block_lt_of_cell? w _ hx143_0)).trans hx143_0
        replace hx143_1 := (HB.out.cell (World.block_lt_of_cell? w _ hx143_1)).trans hx143_1
        replace hx143_2 := (HB.out.cell (World.block_lt_of_cell? w _ hx143_2)).trans hx143_2
        replace p143 := eq_true p143
        replace q143 := eq_true q143
        refine start_ (n := 8) (S := fun w' => w'.cell? (ad143.add ((x5_1).toNat * 3)) = some (.string ((rd_T41 l0 x5_1).f0)) ∧ w'.cell? ⟨(ad143.add ((x5_1).toNat * 3)).block, (ad143.add ((x5_1).toNat * 3)).off + 1, none⟩ = some (.int .i64 ((rd_T41 l0 x5_1).f1)) ∧ w'.cell? ⟨(ad143.add ((x5_1).toNat * 3)).block, (ad143.add ((x5_1).toNat * 3)).off + 2, none⟩ = some (.string ((rd_T41 l0 x5_1).f2))) (ds := []) #[false, false, false, false, false, false, false, false] (by kernel_rfl) rfl rfl ⟨((HB.out.cell (World.block_lt_of_cell? w _ hw143_0)).trans hw143_0), ((HB.out.cell (World.block_lt_of_cell? w _ hw143_1)).trans hw143_1), ((HB.out.cell (World.block_lt_of_cell? w _ hw143_2)).trans hw143_2)⟩ (fun hHeld => ?_); refine with_tabW laws_heldValueS.tab4 laws_heldValueS.bits4 (fun HT_ HW_ => ?_)
        generalize wr.drew = w14 at HB hx143_0 hx143_1 hx143_2 hHeld ⊢
        refine pure_ (i := 0) (N := some 12) (v := ?_) (a' := ?_) #[true, false, false, false, false, false, false, false] rfl rfl (any_of HT_.out (by kernel_rfl)) (fun _ _ _ h => h) (Or.inl ⟨by rfl, ?_⟩) ?_ ?_
        rotate_left
        ·intro w'
         go_simp
         with_reducible rfl
        rotate_left
        ·simp only [Act.put, List.setIfInBounds_toArray, List.set_cons_zero, List.set_cons_succ, i64_w, i32_w]
         rfl
        refine pure_ (i := 1) (N := some 13) (v := ?_) (a' := ?_) #[true, true, false, false, false, false, false, false] rfl rfl (any_of HT_.out (by kernel_rfl)) (fun _ _ _ h => h) (Or.inl ⟨by rfl, ?_⟩) ?_ ?_
        rotate_left
        ·intro w'
         go_simp
         with_reducible rfl
        rotate_left
        ·simp only [Act.put, List.setIfInBounds_toArray, List.set_cons_zero, List.set_cons_succ, i64_w, i32_w]
         rfl
        refine pure_ (i := 2) (N := some 14) (v := ?_) (a' := ?_) #[true, true, true, false, false, false, false, false] rfl rfl (any_of HT_.out (by kernel_rfl)) (fun _ _ _ h => h) (Or.inl ⟨by rfl, ?_⟩) ?_ ?_
        rotate_left
        ·intro w'
         go_simp
         with_reducible rfl
        rotate_left
        ·simp only [Act.put, List.setIfInBounds_toArray, List.set_cons_zero, List.set_cons_succ, i64_w, i32_w]
         rfl
        refine pure_ (i := 3) (N := some 15) (v := ?_) (a' := ?_) #[true, true, true, true, false, false, false, false] rfl rfl (any_of HT_.out (by kernel_rfl)) (fun _ _ _ h => h) (Or.inl ⟨by rfl, ?_⟩) ?_ ?_
        rotate_left
        ·intro w'
         go_simp
         with_reducible rfl
        rotate_left
        ·simp only [Act.put, List.setIfInBounds_toArray, List.set_cons_zero, List.set_cons_succ, i64_w, i32_w]
         rfl
        refine pure_ (i := 5) (N := some 17) (v := ?_) (a' := ?_) #[true, true, true, true, false, true, false, false] rfl rfl (any_of HT_.out (by kernel_rfl)) (fun _ _ _ h => h) (Or.inl ⟨by rfl, ?_⟩) ?_ ?_
        rotate_left
        ·intro w'
         go_simp
         with_reducible rfl
        rotate_left
        ·simp only [Act.put, List.setIfInBounds_toArray, List.set_cons_zero, List.set_cons_succ, i64_w, i32_w]
         rfl
        refine take_ (i := 4) (N := some 16) (v := ?_) (a' := ?_) #[true, true, true, true, true, true, false, false] rfl rfl (take_ofW HT_.out HW_.out (by kernel_rfl)) (fun _ _ _ h => h) (Or.inl ⟨by rfl, ?_⟩) hHeld ?_ ?_
        rotate_left
        ·rintro w' ⟨s0, s1, s2⟩
         go_simp
         with_reducible rfl
        rotate_left
        ·simp only [Act.put, List.setIfInBounds_toArray, List.set_cons_zero, List.set_cons_succ, i64_w, i32_w]
         rfl
        refine one_ (i := 6) (N := some 18) #[true, true, true, true, true, true, true, false] rfl rfl (one_of HT_.out (by kernel_rfl)) (by decide) (fun K hK => ?_)
        refine goes_ Try.func25 (by kernel_rfl) rfl #[.int .i64 x1_1] (by rfl) rfl rfl (by (try simp only [List.map_toArray, List.map_cons, List.map_nil]); first | done | rfl | (simp only [List.length_drop, List.length_take]; rfl)) ?_
        with_reducible refine (laws_markText.calls k1 x1_1 t144 _ A5.out).mono ?_
        rintro e w15 ⟨rfl, hb⟩
        refine ⟨_, rfl, ?_⟩
        have n0_ := Aside0.mk (below_step (by repeat (first | (with_reducible first | exact HB.out | apply below_alloc | apply pw_below_drewN | apply below_drew1) | exact HB.out)) hb)
        clear HB
        have HB := n0_
        clear n0_
        (try clear hb)
        (try clear hb2)
        (try clear hk)
        (try clear hi)
        refine hK.out _ _ ⟨((HB.out.cell (World.block_lt_of_cell? w _ hw143_0)).trans hw143_0), ((HB.out.cell (World.block_lt_of_cell? w _ hw143_1)).trans hw143_1), ((HB.out.cell (World.block_lt_of_cell? w _ hw143_2)).trans hw143_2)⟩ (fun hHeld => ?_)
        clear hK K
        refine norm_ (a' := ?_) ?_ ?_
        rotate_left
        ·show Act.put _ (some 18) _ = _
         simp only [Act.put, List.setIfInBounds_toArray, List.set_cons_zero, List.set_cons_succ, i64_w, i32_w]
         rfl
        refine pure_ (i := 7) (N := some 19) (v := ?_) (a' := ?_) #[true, true, true, true, true, true, true, true] rfl rfl (any_of HT_.out (by kernel_rfl)) (fun _ _ _ h => h) (Or.inl ⟨by rfl, ?_⟩) ?_ ?_
        rotate_left
        ·intro w'
         go_simp
         with_reducible rfl
        rotate_left
        ·simp only [Act.put, List.setIfInBounds_toArray, List.set_cons_zero, List.set_cons_succ, i64_w, i32_w]
         rfl
        refine done_ (done_of HT_.out (by kernel_rfl)) ?_
        have p145 : 0 ≤ (x5_1 : Int) := of_decide_eq_true (by first | (with_reducible assumption) | assumption)
        have q145 : x5_1 < (l0.length : Int) := of_decide_eq_true (by first | (with_reducible assumption) | assumption)
        obtain ⟨ad145, e145, hx145_0, hx145_1, hx145_2⟩ := at_T41 HR0.out x5_1 p145 q145
        obtain rfl : ad143 = ad145 := (by injection e145)
        replace hx145_0 := (HB.out.cell (World.block_lt_of_cell? w _ hx145_0)).trans hx145_0
        replace hx145_1 := (HB.out.cell (World.block_lt_of_cell? w _ hx145_1)).trans hx145_1
        replace hx145_2 := (HB.out.cell (World.block_lt_of_cell? w _ hx145_2)).trans hx145_2
        replace p145 := eq_true p145
        replace q145 := eq_true q145
        try go_wp2
        have n0_ := Aside0.mk (below_drew1 HB.out)
        clear HB
        have HB := n0_
        clear n0_
        have p146 : 0 ≤ (x5_1 : Int) := of_decide_eq_true (by first | (with_reducible assumption) | assumption)
        have q146 : x5_1 < (l0.length : Int) := of_decide_eq_true (by first | (with_reducible assumption) | assumption)
        obtain ⟨ad146, e146, hx146_0, hx146_1, hx146_2⟩ := at_T41 HR0.out x5_1 p146 q146
        have hw146_2 := hx146_2
        have hw146_1 := hx146_1
        have hw146_0 := hx146_0
        obtain rfl : ad143 = ad146 := (by injection e146)
        replace hx146_0 := (HB.out.cell (World.block_lt_of_cell? w _ hx146_0)).trans hx146_0
        replace hx146_1 := (HB.out.cell (World.block_lt_of_cell? w _ hx146_1)).trans hx146_1
        replace hx146_2 := (HB.out.cell (World.block_lt_of_cell? w _ hx146_2)).trans hx146_2
        replace p146 := eq_true p146
        replace q146 := eq_true q146
        refine start_ (n := 8) (S := fun w' => w'.cell? (ad143.add ((x5_1).toNat * 3)) = some (.string ((rd_T41 l0 x5_1).f0)) ∧ w'.cell? ⟨(ad143.add ((x5_1).toNat * 3)).block, (ad143.add ((x5_1).toNat * 3)).off + 1, none⟩ = some (.int .i64 ((rd_T41 l0 x5_1).f1)) ∧ w'.cell? ⟨(ad143.add ((x5_1).toNat * 3)).block, (ad143.add ((x5_1).toNat * 3)).off + 2, none⟩ = some (.string ((rd_T41 l0 x5_1).f2))) (ds := []) #[false, false, false, false, false, false, false, false] (by kernel_rfl) rfl rfl ⟨((HB.out.cell (World.block_lt_of_cell? w _ hw146_0)).trans hw146_0), ((HB.out.cell (World.block_lt_of_cell? w _ hw146_1)).trans hw146_1), ((HB.out.cell (World.block_lt_of_cell? w _ hw146_2)).trans hw146_2)⟩ (fun hHeld => ?_); refine with_tabW laws_heldValueS.tab10 laws_heldValueS.bits10 (fun HT_ HW_ => ?_)
        generalize w15.drew = w16 at HB hx146_0 hx146_1 hx146_2 hHeld ⊢
        refine pure_ (i := 0) (N := some 31) (v := ?_) (a' := ?_) #[true, false, false, false, false, false, false, false] rfl rfl (any_of HT_.out (by kernel_rfl)) (fun _ _ _ h => h) (Or.inl ⟨by rfl, ?_⟩) ?_ ?_
        rotate_left
        ·intro w'
         go_simp
         with_reducible rfl
        rotate_left
        ·simp only [Act.put, List.setIfInBounds_toArray, List.set_cons_zero, List.set_cons_succ, i64_w, i32_w]
         rfl
        refine pure_ (i := 1) (N := some 32) (v := ?_) (a' := ?_) #[true, true, false, false, false, false, false, false] rfl rfl (any_of HT_.out (by kernel_rfl)) (fun _ _ _ h => h) (Or.inl ⟨by rfl, ?_⟩) ?_ ?_
        rotate_left
        ·intro w'
         go_simp
         with_reducible rfl
        rotate_left
        ·simp only [Act.put, List.setIfInBounds_toArray, List.set_cons_zero, List.set_cons_succ, i64_w, i32_w]
         rfl
        refine pure_ (i := 2) (N := some 33) (v := ?_) (a' := ?_) #[true, true, true, false, false, false, false, false] rfl rfl (any_of HT_.out (by kernel_rfl)) (fun _ _ _ h => h) (Or.inl ⟨by rfl, ?_⟩) ?_ ?_
        rotate_left
        ·intro w'
         go_simp
         with_reducible rfl
        rotate_left
        ·simp only [Act.put, List.setIfInBounds_toArray, List.set_cons_zero, List.set_cons_succ, i64_w, i32_w]
         rfl
        refine pure_ (i := 3) (N := some 34) (v := ?_) (a' := ?_) #[true, true, true, true, false, false, false, false] rfl rfl (any_of HT_.out (by kernel_rfl)) (fun _ _ _ h => h) (Or.inl ⟨by rfl, ?_⟩) ?_ ?_
        rotate_left
        ·intro w'
         go_simp
         with_reducible rfl
        rotate_left
        ·simp only [Act.put, List.setIfInBounds_toArray, List.set_cons_zero, List.set_cons_succ, i64_w, i32_w]
         rfl
        refine pure_ (i := 5) (N := some 36) (v := ?_) (a' := ?_) #[true, true, true, true, false, true, false, false] rfl rfl (any_of HT_.out (by kernel_rfl)) (fun _ _ _ h => h) (Or.inl ⟨by rfl, ?_⟩) ?_ ?_
        rotate_left
        ·intro w'
         go_simp
         with_reducible rfl
        rotate_left
        ·simp only [Act.put, List.setIfInBounds_toArray, List.set_cons_zero, List.set_cons_succ, i64_w, i32_w]
         rfl
        refine take_ (i := 4) (N := some 35) (v := ?_) (a' := ?_) #[true, true, true, true, true, true, false, false] rfl rfl (take_ofW HT_.out HW_.out (by kernel_rfl)) (fun _ _ _ h => h) (Or.inl ⟨by rfl, ?_⟩) hHeld ?_ ?_
        rotate_left
        ·rintro w' ⟨s0, s1, s2⟩
         go_simp
         with_reducible rfl
        rotate_left
        ·simp only [Act.put, List.setIfInBounds_toArray, List.set_cons_zero, List.set_cons_succ, i64_w, i32_w]
         rfl
        refine one_ (i := 6) (N := some 37) #[true, true, true, true, true, true, true, false] rfl rfl (one_of HT_.out (by kernel_rfl)) (by decide) (fun K hK => ?_)
        refine goes_ Try.func25 (by kernel_rfl) rfl #[.int .i64 (wrap64 ((wrap64 (x1_1 + 1)) + 1))] (by rfl) rfl rfl (by (try simp only [List.map_toArray, List.map_cons, List.map_nil]); first | done | rfl | (simp only [List.length_drop, List.length_take]; rfl)) ?_
        with_reducible refine (laws_markText.calls k1 (wrap64 ((wrap64 (x1_1 + 1)) + 1)) t147 _ A8.out).mono ?_
        rintro e w17 ⟨rfl, hb⟩
        refine ⟨_, rfl, ?_⟩
        have n0_ := Aside0.mk (below_step (by repeat (first | (with_reducible first | exact HB.out | apply below_alloc | apply pw_below_drewN | apply below_drew1) | exact HB.out)) hb)
        clear HB
        have HB := n0_
        clear n0_
        (try clear hb)
        (try clear hb2)
        (try clear hk)
        (try clear hi)
        refine hK.out _ _ ⟨((HB.out.cell (World.block_lt_of_cell? w _ hw146_0)).trans hw146_0), ((HB.out.cell (World.block_lt_of_cell? w _ hw146_1)).trans hw146_1), ((HB.out.cell (World.block_lt_of_cell? w _ hw146_2)).trans hw146_2)⟩ (fun hHeld => ?_)
        clear hK K
        refine norm_ (a' := ?_) ?_ ?_
        rotate_left
        ·show Act.put _ (some 37) _ = _
         simp only [Act.put, List.setIfInBounds_toArray, List.set_cons_zero, List.set_cons_succ, i64_w, i32_w]
         rfl
        refine pure_ (i := 7) (N := some 38) (v := ?_) (a' := ?_) #[true, true, true, true, true, true, true, true] rfl rfl (any_of HT_.out (by kernel_rfl)) (fun _ _ _ h => h) (Or.inl ⟨by rfl, ?_⟩) ?_ ?_
        rotate_left
        ·intro w'
         go_simp
         with_reducible rfl
        rotate_left
        ·simp only [Act.put, List.setIfInBounds_toArray, List.set_cons_zero, List.set_cons_succ, i64_w, i32_w]
         rfl
        refine done_ (done_of HT_.out (by kernel_rfl)) ?_
        try go_wp2
        go_ret
        exact ⟨by first | rfl | (simp [errW_none, errW_some] <;> rfl) | (simp [*, errW_none, errW_some] <;> rfl), by repeat (first | (with_reducible first | exact HB.out | apply below_alloc | apply pw_below_drewN | apply below_drew1) | exact HB.out)⟩
      ·rw [if_neg c7] at H
       have c7b0 : (((rd_T41 l0 x5_1).f1) == (wrap64 (x1_1 + 1))) = false := beq_eq_false_iff_ne.mpr c7
       have c7b1 : (((rd_T41 l0 x5_1).f1) != (wrap64 (x1_1 + 1))) = true := bne_iff_ne.mpr c7
       obtain rfl := Option.some.inj H
       try go_wp2
       have n0_ := Aside0.mk (below_drew1 HB.out)
       clear HB
       have HB := n0_
       clear n0_
       have p143 : 0 ≤ (x5_1 : Int) := of_decide_eq_true (by first | (with_reducible assumption) | assumption)
       have q143 : x5_1 < (l0.length : Int) := of_decide_eq_true (by first | (with_reducible assumption) | assumption)
       obtain ⟨ad143, e143, hx143_0, hx143_1, hx143_2⟩ := at_T41 HR0.out x5_1 p143 q143
       have hw143_2 := hx143_2
       have hw143_1 := hx143_1
       have hw143_0 := hx143_0
       cases e143
       replace hx143_0 := (HB.out.cell (World.block_lt_of_cell? w _ hx143_0)).trans hx143_0
       replace hx143_1 := (HB.out.cell (World.block_lt_of_cell? w _ hx143_1)).trans hx143_1
       replace hx143_2 := (HB.out.cell (World.block_lt_of_cell? w _ hx143_2)).trans hx143_2
       replace p143 := eq_true p143
       replace q143 := eq_true q143
       refine start_ (n := 8) (S := fun w' => w'.cell? (ad143.add ((x5_1).toNat * 3)) = some (.string ((rd_T41 l0 x5_1).f0)) ∧ w'.cell? ⟨(ad143.add ((x5_1).toNat * 3)).block, (ad143.add ((x5_1).toNat * 3)).off + 1, none⟩ = some (.int .i64 ((rd_T41 l0 x5_1).f1)) ∧ w'.cell? ⟨(ad143.add ((x5_1).toNat * 3)).block, (ad143.add ((x5_1).toNat * 3)).off + 2, none⟩ = some (.string ((rd_T41 l0 x5_1).f2))) (ds := []) #[false, false, false, false, false, false, false, false] (by kernel_rfl) rfl rfl ⟨((HB.out.cell (World.block_lt_of_cell? w _ hw143_0)).trans hw143_0), ((HB.out.cell (World.block_lt_of_cell? w _ hw143_1)).trans hw143_1), ((HB.out.cell (World.block_lt_of_cell? w _ hw143_2)).trans hw143_2)⟩ (fun hHeld => ?_); refine with_tabW laws_heldValueS.tab4 laws_heldValueS.bits4 (fun HT_ HW_ => ?_)
       generalize wr.drew = w18 at HB hx143_0 hx143_1 hx143_2 hHeld ⊢
       refine pure_ (i := 0) (N := some 12) (v := ?_) (a' := ?_) #[true, false, false, false, false, false, false, false] rfl rfl (any_of HT_.out (by kernel_rfl)) (fun _ _ _ h => h) (Or.inl ⟨by rfl, ?_⟩) ?_ ?_
       rotate_left
       ·intro w'
        go_simp
        with_reducible rfl
       rotate_left
       ·simp only [Act.put, List.setIfInBounds_toArray, List.set_cons_zero, List.set_cons_succ, i64_w, i32_w]
        rfl
       refine pure_ (i := 1) (N := some 13) (v := ?_) (a' := ?_) #[true, true, false, false, false, false, false, false] rfl rfl (any_of HT_.out (by kernel_rfl)) (fun _ _ _ h => h) (Or.inl ⟨by rfl, ?_⟩) ?_ ?_
       rotate_left
       ·intro w'
        go_simp
        with_reducible rfl
       rotate_left
       ·simp only [Act.put, List.setIfInBounds_toArray, List.set_cons_zero, List.set_cons_succ, i64_w, i32_w]
        rfl
       refine pure_ (i := 2) (N := some 14) (v := ?_) (a' := ?_) #[true, true, true, false, false, false, false, false] rfl rfl (any_of HT_.out (by kernel_rfl)) (fun _ _ _ h => h) (Or.inl ⟨by rfl, ?_⟩) ?_ ?_
       rotate_left
       ·intro w'
        go_simp
        with_reducible rfl
       rotate_left
       ·simp only [Act.put, List.setIfInBounds_toArray, List.set_cons_zero, List.set_cons_succ, i64_w, i32_w]
        rfl
       refine pure_ (i := 3) (N := some 15) (v := ?_) (a' := ?_) #[true, true, true, true, false, false, false, false] rfl rfl (any_of HT_.out (by kernel_rfl)) (fun _ _ _ h => h) (Or.inl ⟨by rfl, ?_⟩) ?_ ?_
       rotate_left
       ·intro w'
        go_simp
        with_reducible rfl
       rotate_left
       ·simp only [Act.put, List.setIfInBounds_toArray, List.set_cons_zero, List.set_cons_succ, i64_w, i32_w]
        rfl
       refine pure_ (i := 5) (N := some 17) (v := ?_) (a' := ?_) #[true, true, true, true, false, true, false, false] rfl rfl (any_of HT_.out (by kernel_rfl)) (fun _ _ _ h => h) (Or.inl ⟨by rfl, ?_⟩) ?_ ?_
       rotate_left
       ·intro w'
        go_simp
        with_reducible rfl
       rotate_left
       ·simp only [Act.put, List.setIfInBounds_toArray, List.set_cons_zero, List.set_cons_succ, i64_w, i32_w]
        rfl
       refine take_ (i := 4) (N := some 16) (v := ?_) (a' := ?_) #[true, true, true, true, true, true, false, false] rfl rfl (take_ofW HT_.out HW_.out (by kernel_rfl)) (fun _ _ _ h => h) (Or.inl ⟨by rfl, ?_⟩) hHeld ?_ ?_
       rotate_left
       ·rintro w' ⟨s0, s1, s2⟩
        go_simp
        with_reducible rfl
       rotate_left
       ·simp only [Act.put, List.setIfInBounds_toArray, List.set_cons_zero, List.set_cons_succ, i64_w, i32_w]
        rfl
       refine one_ (i := 6) (N := some 18) #[true, true, true, true, true, true, true, false] rfl rfl (one_of HT_.out (by kernel_rfl)) (by decide) (fun K hK => ?_)
       refine goes_ Try.func25 (by kernel_rfl) rfl #[.int .i64 x1_1] (by rfl) rfl rfl (by (try simp only [List.map_toArray, List.map_cons, List.map_nil]); first | done | rfl | (simp only [List.length_drop, List.length_take]; rfl)) ?_
       with_reducible refine (laws_markText.calls k1 x1_1 t144 _ A5.out).mono ?_
       rintro e w19 ⟨rfl, hb⟩
       refine ⟨_, rfl, ?_⟩
       have n0_ := Aside0.mk (below_step (by repeat (first | (with_reducible first | exact HB.out | apply below_alloc | apply pw_below_drewN | apply below_drew1) | exact HB.out)) hb)
       clear HB
       have HB := n0_
       clear n0_
       (try clear hb)
       (try clear hb2)
       (try clear hk)
       (try clear hi)
       refine hK.out _ _ ⟨((HB.out.cell (World.block_lt_of_cell? w _ hw143_0)).trans hw143_0), ((HB.out.cell (World.block_lt_of_cell? w _ hw143_1)).trans hw143_1), ((HB.out.cell (World.block_lt_of_cell? w _ hw143_2)).trans hw143_2)⟩ (fun hHeld => ?_)
       clear hK K
       refine norm_ (a' := ?_) ?_ ?_
       rotate_left
       ·show Act.put _ (some 18) _ = _
        simp only [Act.put, List.setIfInBounds_toArray, List.set_cons_zero, List.set_cons_succ, i64_w, i32_w]
        rfl
       refine pure_ (i := 7) (N := some 19) (v := ?_) (a' := ?_) #[true, true, true, true, true, true, true, true] rfl rfl (any_of HT_.out (by kernel_rfl)) (fun _ _ _ h => h) (Or.inl ⟨by rfl, ?_⟩) ?_ ?_
       rotate_left
       ·intro w'
        go_simp
        with_reducible rfl
       rotate_left
       ·simp only [Act.put, List.setIfInBounds_toArray, List.set_cons_zero, List.set_cons_succ, i64_w, i32_w]
        rfl
       refine done_ (done_of HT_.out (by kernel_rfl)) ?_
       have p145 : 0 ≤ (x5_1 : Int) := of_decide_eq_true (by first | (with_reducible assumption) | assumption)
       have q145 : x5_1 < (l0.length : Int) := of_decide_eq_true (by first | (with_reducible assumption) | assumption)
       obtain ⟨ad145, e145, hx145_0, hx145_1, hx145_2⟩ := at_T41 HR0.out x5_1 p145 q145
       obtain rfl : ad143 = ad145 := (by injection e145)
       replace hx145_0 := (HB.out.cell (World.block_lt_of_cell? w _ hx145_0)).trans hx145_0
       replace hx145_1 := (HB.out.cell (World.block_lt_of_cell? w _ hx145_1)).trans hx145_1
       replace hx145_2 := (HB.out.cell (World.block_lt_of_cell? w _ hx145_2)).trans hx145_2
       replace p145 := eq_true p145
       replace q145 := eq_true q145
       try go_wp2
       go_ret
       exact ⟨by first | rfl | (simp [errW_none, errW_some] <;> rfl) | (simp [*, errW_none, errW_some] <;> rfl), by repeat (first | (with_reducible first | exact HB.out | apply below_alloc | apply pw_below_drewN | apply below_drew1) | exact HB.out)⟩
     ·rw [if_neg c6] at H
      have c6b0 : (((rd_T41 l0 x5_1).f0).toList == t144.toList) = false := beq_eq_false_iff_ne.mpr c6
      have c6b1 : (((rd_T41 l0 x5_1).f0).toList != t144.toList) = true := bne_iff_ne.mpr c6
      obtain rfl := Option.some.inj H
      try go_wp2
      have n0_ := Aside0.mk (below_drew1 HB.out)
      clear HB
      have HB := n0_
      clear n0_
      have p143 : 0 ≤ (x5_1 : Int) := of_decide_eq_true (by first | (with_reducible assumption) | assumption)
      have q143 : x5_1 < (l0.length : Int) := of_decide_eq_true (by first | (with_reducible assumption) | assumption)
      obtain ⟨ad143, e143, hx143_0, hx143_1, hx143_2⟩ := at_T41 HR0.out x5_1 p143 q143
      have hw143_2 := hx143_2
      have hw143_1 := hx143_1
      have hw143_0 := hx143_0
      cases e143
      replace hx143_0 := (HB.out.cell (World.block_lt_of_cell? w _ hx143_0)).trans hx143_0
      replace hx143_1 := (HB.out.cell (World.block_lt_of_cell? w _ hx143_1)).trans hx143_1
      replace hx143_2 := (HB.out.cell (World.block_lt_of_cell? w _ hx143_2)).trans hx143_2
      replace p143 := eq_true p143
      replace q143 := eq_true q143
      refine start_ (n := 8) (S := fun w' => w'.cell? (ad143.add ((x5_1).toNat * 3)) = some (.string ((rd_T41 l0 x5_1).f0)) ∧ w'.cell? ⟨(ad143.add ((x5_1).toNat * 3)).block, (ad143.add ((x5_1).toNat * 3)).off + 1, none⟩ = some (.int .i64 ((rd_T41 l0 x5_1).f1)) ∧ w'.cell? ⟨(ad143.add ((x5_1).toNat * 3)).block, (ad143.add ((x5_1).toNat * 3)).off + 2, none⟩ = some (.string ((rd_T41 l0 x5_1).f2))) (ds := []) #[false, false, false, false, false, false, false, false] (by kernel_rfl) rfl rfl ⟨((HB.out.cell (World.block_lt_of_cell? w _ hw143_0)).trans hw143_0), ((HB.out.cell (World.block_lt_of_cell? w _ hw143_1)).trans hw143_1), ((HB.out.cell (World.block_lt_of_cell? w _ hw143_2)).trans hw143_2)⟩ (fun hHeld => ?_); refine with_tabW laws_heldValueS.tab4 laws_heldValueS.bits4 (fun HT_ HW_ => ?_)
      generalize wr.drew = w20 at HB hx143_0 hx143_1 hx143_2 hHeld ⊢
      refine pure_ (i := 0) (N := some 12) (v := ?_) (a' := ?_) #[true, false, false, false, false, false, false, false] rfl rfl (any_of HT_.out (by kernel_rfl)) (fun _ _ _ h => h) (Or.inl ⟨by rfl, ?_⟩) ?_ ?_
      rotate_left
      ·intro w'
       go_simp
       with_reducible rfl
      rotate_left
      ·simp only [Act.put, List.setIfInBounds_toArray, List.set_cons_zero, List.set_cons_succ, i64_w, i32_w]
       rfl
      refine pure_ (i := 1) (N := some 13) (v := ?_) (a' := ?_) #[true, true, false, false, false, false, false, false] rfl rfl (any_of HT_.out (by kernel_rfl)) (fun _ _ _ h => h) (Or.inl ⟨by rfl, ?_⟩) ?_ ?_
      rotate_left
      ·intro w'
       go_simp
       with_reducible rfl
      rotate_left
      ·simp only [Act.put, List.setIfInBounds_toArray, List.set_cons_zero, List.set_cons_succ, i64_w, i32_w]
       rfl
      refine pure_ (i := 2) (N := some 14) (v := ?_) (a' := ?_) #[true, true, true, false, false, false, false, false] rfl rfl (any_of HT_.out (by kernel_rfl)) (fun _ _ _ h => h) (Or.inl ⟨by rfl, ?_⟩) ?_ ?_
      rotate_left
      ·intro w'
       go_simp
       with_reducible rfl
      rotate_left
      ·simp only [Act.put, List.setIfInBounds_toArray, List.set_cons_zero, List.set_cons_succ, i64_w, i32_w]
       rfl
      refine pure_ (i := 3) (N := some 15) (v := ?_) (a' := ?_) #[true, true, true, true, false, false, false, false] rfl rfl (any_of HT_.out (by kernel_rfl)) (fun _ _ _ h => h) (Or.inl ⟨by rfl, ?_⟩) ?_ ?_
      rotate_left
      ·intro w'
       go_simp
       with_reducible rfl
      rotate_left
      ·simp only [Act.put, List.setIfInBounds_toArray, List.set_cons_zero, List.set_cons_succ, i64_w, i32_w]
       rfl
      refine pure_ (i := 5) (N := some 17) (v := ?_) (a' := ?_) #[true, true, true, true, false, true, false, false] rfl rfl (any_of HT_.out (by kernel_rfl)) (fun _ _ _ h => h) (Or.inl ⟨by rfl, ?_⟩) ?_ ?_
      rotate_left
      ·intro w'
       go_simp
       with_reducible rfl
      rotate_left
      ·simp only [Act.put, List.setIfInBounds_toArray, List.set_cons_zero, List.set_cons_succ, i64_w, i32_w]
       rfl
      refine take_ (i := 4) (N := some 16) (v := ?_) (a' := ?_) #[true, true, true, true, true, true, false, false] rfl rfl (take_ofW HT_.out HW_.out (by kernel_rfl)) (fun _ _ _ h => h) (Or.inl ⟨by rfl, ?_⟩) hHeld ?_ ?_
      rotate_left
      ·rintro w' ⟨s0, s1, s2⟩
       go_simp
       with_reducible rfl
      rotate_left
      ·simp only [Act.put, List.setIfInBounds_toArray, List.set_cons_zero, List.set_cons_succ, i64_w, i32_w]
       rfl
      refine one_ (i := 6) (N := some 18) #[true, true, true, true, true, true, true, false] rfl rfl (one_of HT_.out (by kernel_rfl)) (by decide) (fun K hK => ?_)
      refine goes_ Try.func25 (by kernel_rfl) rfl #[.int .i64 x1_1] (by rfl) rfl rfl (by (try simp only [List.map_toArray, List.map_cons, List.map_nil]); first | done | rfl | (simp only [List.length_drop, List.length_take]; rfl)) ?_
      with_reducible refine (laws_markText.calls k1 x1_1 t144 _ A5.out).mono ?_
      rintro e w21 ⟨rfl, hb⟩
      refine ⟨_, rfl, ?_⟩
      have n0_ := Aside0.mk (below_step (by repeat (first | (with_reducible first | exact HB.out | apply below_alloc | apply pw_below_drewN | apply below_drew1) | exact HB.out)) hb)
      clear HB
      have HB := n0_
      clear n0_
      (try clear hb)
      (try clear hb2)
      (try clear hk)
      (try clear hi)
      refine hK.out _ _ ⟨((HB.out.cell (World.block_lt_of_cell? w _ hw143_0)).trans hw143_0), ((HB.out.cell (World.block_lt_of_cell? w _ hw143_1)).trans hw143_1), ((HB.out.cell (World.block_lt_of_cell? w _ hw143_2)).trans hw143_2)⟩ (fun hHeld => ?_)
      clear hK K
      refine norm_ (a' := ?_) ?_ ?_
      rotate_left
      ·show Act.put _ (some 18) _ = _
       simp only [Act.put, List.setIfInBounds_toArray, List.set_cons_zero, List.set_cons_succ, i64_w, i32_w]
       rfl
      refine pure_ (i := 7) (N := some 19) (v := ?_) (a' := ?_) #[true, true, true, true, true, true, true, true] rfl rfl (any_of HT_.out (by kernel_rfl)) (fun _ _ _ h => h) (Or.inl ⟨by rfl, ?_⟩) ?_ ?_
      rotate_left
      ·intro w'
       go_simp
       with_reducible rfl
      rotate_left
      ·simp only [Act.put, List.setIfInBounds_toArray, List.set_cons_zero, List.set_cons_succ, i64_w, i32_w]
       rfl
      refine done_ (done_of HT_.out (by kernel_rfl)) ?_
      try go_wp2
      go_ret
      exact ⟨by first | rfl | (simp [errW_none, errW_some] <;> rfl) | (simp [*, errW_none, errW_some] <;> rfl), by repeat (first | (with_reducible first | exact HB.out | apply below_alloc | apply pw_below_drewN | apply below_drew1) | exact HB.out)⟩
    ·rw [if_neg c4] at H
     exact absurd H (by simp)
   ·rw [if_neg c3] at H
    have c3b0 : decide (x5_1 < (l0.length : Int)) = false := decide_eq_false c3
    clear c3
    obtain rfl := Option.some.inj H
    go_wp2
    go_ret
    exact ⟨by first | rfl | (simp [errW_none, errW_some] <;> rfl) | (simp [*, errW_none, errW_some] <;> rfl), by repeat (first | (with_reducible first | exact HB.out | apply below_alloc | apply pw_below_drewN | apply below_drew1) | exact HB.out)⟩
end Go.Proofs.Ytndgkdnbacoenaa.PFnExactReadSave
namespace Go.Proofs.Ytndgkdnbacoenaa.PFnExactReadSave
open Go.RowKit Go.Proofs.YtndgkdnbacoenaaW.PrintWords Go.Proofs.YtndgkdnbacoenaaW.PrintLast Go.Proofs.YtndgkdnbacoenaaW.PrintMore
attribute [local go_sem] max2_int min2_int max_two min_two max_three min_three max_four min_four   -- for this text's walks alone
set_option linter.unusedVariables false
set_option linter.unusedSimpArgs false
mutual
def laws_FnExactReadSave.j0 : Nat → List Int → Int → List (S41) → Int → List Int → Int → List (S41) → Int → Bool → Option (Bool)
 | 0, _, _, _, _, _, _, _, _, _ => none
 | k + 1, x0, x3, x4, x5, x6, x7, x8, x9, x47 => if x47 = true then (some false) else ((laws_toByteS.f k x0).bind fun t165 => ((laws_eqByteS.f k x6 t165).bind fun t168 => (if t168 = true then ((laws_markByteS.f k x6 1).bind fun bt169 => (if bt169.1 < 0 then (laws_FnExactReadSave.j1 k x0 x3 x4 x5 x8 true) else (if x7 = x3 then ((laws_eqValueS.f k x8 x4).bind fun t171 => (if t171 = true then (laws_FnExactReadSave.j1 k x0 x3 x4 x5 x8 (x9 != x5)) else (laws_FnExactReadSave.j1 k x0 x3 x4 x5 x8 true))) else (laws_FnExactReadSave.j1 k x0 x3 x4 x5 x8 true)))) else (some false))))
def laws_FnExactReadSave.j1 : Nat → List Int → Int → List (S41) → Int → List (S41) → Bool → Option (Bool)
 | 0, _, _, _, _, _, _ => none
 | k + 1, x0, x3, x4, x5, x8, x73 => if x73 = true then (some false) else ((laws_markValueS.f k x8 1).bind fun bt172 => ((laws_heldValueS.f k bt172.2 1).bind fun t174 => (if t174 < 0 then (some false) else (if t174 = bt172.1 then ((laws_toByteS.f k x0).bind fun t175 => ((impl_ReadSave.f k t175).bind fun bt178 => (if bt178.1 = x3 then ((laws_eqValueS.f k bt178.2.1 x4).bind fun t183 => (if t183 = true then (laws_FnExactReadSave.j2 k bt172.2 bt172.1 (bt178.2.2 != x5)) else (laws_FnExactReadSave.j2 k bt172.2 bt172.1 true))) else (laws_FnExactReadSave.j2 k bt172.2 bt172.1 true)))) else (some false)))))
def laws_FnExactReadSave.j2 : Nat → List (S41) → Int → Bool → Option (Bool)
 | 0, _, _, _ => none
 | k + 1, x8, x11, x105 => if x105 = true then (some false) else ((laws_heldValueS.f k x8 1).bind fun t184 => (if t184 < 0 then (some false) else (if t184 = x11 then (some true) else (some false))))
end
def laws_FnExactReadSave.f (k : Nat) (l0 : List Int) : Option (Bool) := if (l0.length : Int) > 1048576 then (some true) else ((laws_toByteS.f k l0).bind fun t148 => ((spec_ReadSave.f k t148).bind fun bt151 => ((laws_toByteS.f k l0).bind fun t156 => ((impl_ReadSave.f k t156).bind fun bt159 => (if bt159.1 = bt151.1 then ((laws_eqValueS.f k bt159.2.1 bt151.2.1).bind fun t164 => (if t164 = true then (laws_FnExactReadSave.j0 k l0 bt151.1 bt151.2.1 bt151.2.2 t156 bt159.1 bt159.2.1 bt159.2.2 (bt159.2.2 != bt151.2.2)) else (laws_FnExactReadSave.j0 k l0 bt151.1 bt151.2.1 bt151.2.2 t156 bt159.1 bt159.2.1 bt159.2.2 true))) else (laws_FnExactReadSave.j0 k l0 bt151.1 bt151.2.1 bt151.2.2 t156 bt159.1 bt159.2.1 bt159.2.2 true))))))
theorem laws_FnExactReadSave.mono_l : ∀ k, (∀ y0 y1 y2 y3 y4 y5 y6 y7 y8, LeO (laws_FnExactReadSave.j0 k y0 y1 y2 y3 y4 y5 y6 y7 y8) (laws_FnExactReadSave.j0 (k + 1) y0 y1 y2 y3 y4 y5 y6 y7 y8)) ∧ (∀ y0 y1 y2 y3 y4 y5, LeO (laws_FnExactReadSave.j1 k y0 y1 y2 y3 y4 y5) (laws_FnExactReadSave.j1 (k + 1) y0 y1 y2 y3 y4 y5)) ∧ (∀ y0 y1 y2, LeO (laws_FnExactReadSave.j2 k y0 y1 y2) (laws_FnExactReadSave.j2 (k + 1) y0 y1 y2))
 | 0 => ⟨fun _ _ _ _ _ _ _ _ _ r h => by simp [laws_FnExactReadSave.j0] at h, fun _ _ _ _ _ _ r h => by simp [laws_FnExactReadSave.j1] at h, fun _ _ _ r h => by simp [laws_FnExactReadSave.j2] at h⟩
 | k + 1 => by
  obtain ⟨ih0, ih1, ih2⟩ := laws_FnExactReadSave.mono_l k
  refine ⟨?_, ?_, ?_⟩
  ·intro y0 y1 y2 y3 y4 y5 y6 y7 y8
   unfold laws_FnExactReadSave.j0
   repeat' first
   | (with_reducible exact ih0 _ _ _ _ _ _ _ _ _)
   | (with_reducible exact ih1 _ _ _ _ _ _)
   | (with_reducible exact ih2 _ _ _)
   | (with_reducible exact impl_ReadSave.mono _ _)
   | (with_reducible exact laws_eqByteS.mono _ _ _)
   | (with_reducible exact laws_eqValueS.mono _ _ _)
   | (with_reducible exact laws_heldValueS.mono _ _ _)
   | (with_reducible exact laws_markByteS.mono _ _ _)
   | (with_reducible exact laws_markValueS.mono _ _ _)
   | (with_reducible exact laws_toByteS.mono _ _)
   | (with_reducible exact spec_ReadSave.mono _ _)
   | (with_reducible first | exact LeO.refl _ | exact LeO.none _ | refine LeO.ite ?_ ?_ | refine LeO.bind ?_ (fun _ => ?_))
   | exact ih0 _ _ _ _ _ _ _ _ _
   | exact ih1 _ _ _ _ _ _
   | exact ih2 _ _ _
   | exact impl_ReadSave.mono _ _
   | exact laws_eqByteS.mono _ _ _
   | exact laws_eqValueS.mono _ _ _
   | exact laws_heldValueS.mono _ _ _
   | exact laws_markByteS.mono _ _ _
   | exact laws_markValueS.mono _ _ _
   | exact laws_toByteS.mono _ _
   | exact spec_ReadSave.mono _ _ | exact LeO.none _ | refine LeO.ite ?_ ?_ | refine LeO.bind ?_ (fun _ => ?_)
  ·intro y0 y1 y2 y3 y4 y5
   unfold laws_FnExactReadSave.j1
   repeat' first
   | (with_reducible exact ih0 _ _ _ _ _ _ _ _ _)
   | (with_reducible exact ih1 _ _ _ _ _ _)
   | (with_reducible exact ih2 _ _ _)
   | (with_reducible exact impl_ReadSave.mono _ _)
   | (with_reducible exact laws_eqByteS.mono _ _ _)
   | (with_reducible exact laws_eqValueS.mono _ _ _)
   | (with_reducible exact laws_heldValueS.mono _ _ _)
   | (with_reducible exact laws_markByteS.mono _ _ _)
   | (with_reducible exact laws_markValueS.mono _ _ _)
   | (with_reducible exact laws_toByteS.mono _ _)
   | (with_reducible exact spec_ReadSave.mono _ _)
   | (with_reducible first | exact LeO.refl _ | exact LeO.none _ | refine LeO.ite ?_ ?_ | refine LeO.bind ?_ (fun _ => ?_))
   | exact ih0 _ _ _ _ _ _ _ _ _
   | exact ih1 _ _ _ _ _ _
   | exact ih2 _ _ _
   | exact impl_ReadSave.mono _ _
   | exact laws_eqByteS.mono _ _ _
   | exact laws_eqValueS.mono _ _ _
   | exact laws_heldValueS.mono _ _ _
   | exact laws_markByteS.mono _ _ _
   | exact laws_markValueS.mono _ _ _
   | exact laws_toByteS.mono _ _
   | exact spec_ReadSave.mono _ _ | exact LeO.none _ | refine LeO.ite ?_ ?_ | refine LeO.bind ?_ (fun _ => ?_)
  ·intro y0 y1 y2
   unfold laws_FnExactReadSave.j2
   repeat' first
   | (with_reducible exact ih0 _ _ _ _ _ _ _ _ _)
   | (with_reducible exact ih1 _ _ _ _ _ _)
   | (with_reducible exact ih2 _ _ _)
   | (with_reducible exact impl_ReadSave.mono _ _)
   | (with_reducible exact laws_eqByteS.mono _ _ _)
   | (with_reducible exact laws_eqValueS.mono _ _ _)
   | (with_reducible exact laws_heldValueS.mono _ _ _)
   | (with_reducible exact laws_markByteS.mono _ _ _)
   | (with_reducible exact laws_markValueS.mono _ _ _)
   | (with_reducible exact laws_toByteS.mono _ _)
   | (with_reducible exact spec_ReadSave.mono _ _)
   | (with_reducible first | exact LeO.refl _ | exact LeO.none _ | refine LeO.ite ?_ ?_ | refine LeO.bind ?_ (fun _ => ?_))
   | exact ih0 _ _ _ _ _ _ _ _ _
   | exact ih1 _ _ _ _ _ _
   | exact ih2 _ _ _
   | exact impl_ReadSave.mono _ _
   | exact laws_eqByteS.mono _ _ _
   | exact laws_eqValueS.mono _ _ _
   | exact laws_heldValueS.mono _ _ _
   | exact laws_markByteS.mono _ _ _
   | exact laws_markValueS.mono _ _ _
   | exact laws_toByteS.mono _ _
   | exact spec_ReadSave.mono _ _ | exact LeO.none _ | refine LeO.ite ?_ ?_ | refine LeO.bind ?_ (fun _ => ?_)
theorem laws_FnExactReadSave.mono : ∀ a0 k, LeO (laws_FnExactReadSave.f k a0) (laws_FnExactReadSave.f (k + 1) a0) := by
 intro a0 k
 obtain ⟨ih0, ih1, ih2⟩ := laws_FnExactReadSave.mono_l k
 unfold laws_FnExactReadSave.f
 repeat' first
   | (with_reducible exact ih0 _ _ _ _ _ _ _ _ _)
   | (with_reducible exact ih1 _ _ _ _ _ _)
   | (with_reducible exact ih2 _ _ _)
   | (with_reducible exact impl_ReadSave.mono _ _)
   | (with_reducible exact laws_eqByteS.mono _ _ _)
   | (with_reducible exact laws_eqValueS.mono _ _ _)
   | (with_reducible exact laws_heldValueS.mono _ _ _)
   | (with_reducible exact laws_markByteS.mono _ _ _)
   | (with_reducible exact laws_markValueS.mono _ _ _)
   | (with_reducible exact laws_toByteS.mono _ _)
   | (with_reducible exact spec_ReadSave.mono _ _)
   | (with_reducible first | exact LeO.refl _ | exact LeO.none _ | refine LeO.ite ?_ ?_ | refine LeO.bind ?_ (fun _ => ?_))
   | exact ih0 _ _ _ _ _ _ _ _ _
   | exact ih1 _ _ _ _ _ _
   | exact ih2 _ _ _
   | exact impl_ReadSave.mono _ _
   | exact laws_eqByteS.mono _ _ _
   | exact laws_eqValueS.mono _ _ _
   | exact laws_heldValueS.mono _ _ _
   | exact laws_markByteS.mono _ _ _
   | exact laws_markValueS.mono _ _ _
   | exact laws_toByteS.mono _ _
   | exact spec_ReadSave.mono _ _ | exact LeO.none _ | refine LeO.ite ?_ ?_ | refine LeO.bind ?_ (fun _ => ?_)
set_option maxHeartbeats 8000000 in
set_option maxRecDepth 100000 in
theorem laws_FnExactReadSave.calls (k : Nat) (A0 : Option Addr) (c0 : Nat) (l0 : List Int) (r : Bool) (w : World) (hr0 : Kd.C (Kd.int .u8) w A0 l0.length l0) (hc0 : l0.length ≤ c0) (h : laws_FnExactReadSave.f k l0 = some r) :
  Calls Try.prog 3 #[.slice A0 l0.length c0] w fun e w' => e = .returned (.bool r) ∧ Below w.heap.size w w' := by
 have HR0 := Aside0.mk hr0
 have HC0 := Aside0.mk hc0
 clear hr0 hc0
 have HB := Aside0.mk (Below.refl w.heap.size w)
 have H : (if (l0.length : Int) > 1048576 then (some true) else ((laws_toByteS.f k l0).bind fun t148 => ((spec_ReadSave.f k t148).bind fun bt151 => ((laws_toByteS.f k l0).bind fun t156 => ((impl_ReadSave.f k t156).bind fun bt159 => (if bt159.1 = bt151.1 then ((laws_eqValueS.f k bt159.2.1 bt151.2.1).bind fun t164 => (if t164 = true then (laws_FnExactReadSave.j0 k l0 bt151.1 bt151.2.1 bt151.2.2 t156 bt159.1 bt159.2.1 bt159.2.2 (bt159.2.2 != bt151.2.2)) else (laws_FnExactReadSave.j0 k l0 bt151.1 bt151.2.1 bt151.2.2 t156 bt159.1 bt159.2.1 bt159.2.2 true))) else (laws_FnExactReadSave.j0 k l0 bt151.1 bt151.2.1 bt151.2.2 t156 bt159.1 bt159.2.1 bt159.2.2 true))))))) = some r := h
 clear h
 by_cases c2 : (l0.length : Int) > 1048576
 ·rw [if_pos c2] at H
  have c2b0 : decide (1048576 < (l0.length : Int)) = true := decide_eq_true c2
  have c2b1 : decide (1048576 < l0.length) = true := decide_eq_true (by omega)
  clear c2
  obtain rfl := Option.some.inj H
  go_enter Try.func3, Try.ntmps3
  go_wp2
  go_ret
  exact ⟨by first | rfl | (simp [errW_none, errW_some] <;> rfl) | (simp [*, errW_none, errW_some] <;> rfl), by repeat (first | (with_reducible first | exact HB.out | apply below_alloc | apply pw_below_drewN | apply below_drew1) | exact HB.out)⟩
 ·rw [if_neg c2] at H
  have c2b0 : decide (1048576 < (l0.length : Int)) = false := decide_eq_false c2
  have c2b1 : decide (1048576 < l0.length) = false := decide_eq_false (by omega)
  clear c2
  replace H := Option.bind_eq_some_iff.mp H
  obtain ⟨t148, A30, H⟩ := H
  replace H : ((spec_ReadSave.f k t148).bind fun bt151 => ((laws_toByteS.f k l0).bind fun t156 => ((impl_ReadSave.f k t156).bind fun bt159 => (if bt159.1 = bt151.1 then ((laws_eqValueS.f k bt159.2.1 bt151.2.1).bind fun t164 => (if t164 = true then (laws_FnExactReadSave.j0 k l0 bt151.1 bt151.2.1 bt151.2.2 t156 bt159.1 bt159.2.1 bt159.2.2 (bt159.2.2 != bt151.2.2)) else (laws_FnExactReadSave.j0 k l0 bt151.1 bt151.2.1 bt151.2.2 t156 bt159.1 bt159.2.1 bt159.2.2 true))) else (laws_FnExactReadSave.j0 k l0 bt151.1 bt151.2.1 bt151.2.2 t156 bt159.1 bt159.2.1 bt159.2.2 true))))) = some r := H
  have A3 := Aside0.mk A30
  clear A30
  replace H := Option.bind_eq_some_iff.mp H
  obtain ⟨⟨t151, t152, t153⟩, A40, H⟩ := H
  replace H : ((laws_toByteS.f k l0).bind fun t156 => ((impl_ReadSave.f k t156).bind fun bt159 => (if bt159.1 = t151 then ((laws_eqValueS.f k bt159.2.1 t152).bind fun t164 => (if t164 = true then (laws_FnExactReadSave.j0 k l0 t151 t152 t153 t156 bt159.1 bt159.2.1 bt159.2.2 (bt159.2.2 != t153)) else (laws_FnExactReadSave.j0 k l0 t151 t152 t153 t156 bt159.1 bt159.2.1 bt159.2.2 true))) else (laws_FnExactReadSave.j0 k l0 t151 t152 t153 t156 bt159.1 bt159.2.1 bt159.2.2 true)))) = some r := H
  have A4 := Aside0.mk A40
  clear A40
  replace H := Option.bind_eq_some_iff.mp H
  obtain ⟨t156, A50, H⟩ := H
  replace H : ((impl_ReadSave.f k t156).bind fun bt159 => (if bt159.1 = t151 then ((laws_eqValueS.f k bt159.2.1 t152).bind fun t164 => (if t164 = true then (laws_FnExactReadSave.j0 k l0 t151 t152 t153 t156 bt159.1 bt159.2.1 bt159.2.2 (bt159.2.2 != t153)) else (laws_FnExactReadSave.j0 k l0 t151 t152 t153 t156 bt159.1 bt159.2.1 bt159.2.2 true))) else (laws_FnExactReadSave.j0 k l0 t151 t152 t153 t156 bt159.1 bt159.2.1 bt159.2.2 true))) = some r := H
  have A5 := Aside0.mk A50
  clear A50
  replace H := Option.bind_eq_some_iff.mp H
  obtain ⟨⟨t159, t160, t161⟩, A60, H⟩ := H
  replace H : (if t159 = t151 then ((laws_eqValueS.f k t160 t152).bind fun t164 => (if t164 = true then (laws_FnExactReadSave.j0 k l0 t151 t152 t153 t156 t159 t160 t161 (t161 != t153)) else (laws_FnExactReadSave.j0 k l0 t151 t152 t153 t156 t159 t160 t161 true))) else (laws_FnExactReadSave.j0 k l0 t151 t152 t153 t156 t159 t160 t161 true)) = some r := H
  have A6 := Aside0.mk A60
  clear A60
  have HC7 := Aside0.mk H
  clear H
  go_enter Try.func3, Try.ntmps3
  go_upto_region 6 with (first | ((with_reducible refine gate_callee (f := 5) rfl ?_); refine goesL_ (some 21) rfl rfl Try.func5 (by kernel_rfl) rfl #[.slice A0 l0.length c0] rfl (by (try simp only [List.map_toArray, List.map_cons, List.map_nil]); first | done | rfl | (simp only [List.length_drop, List.length_take]; rfl)) ?_; (with_reducible refine (laws_toByteS.calls k _ _ l0 t148 _ ?side1 ?side2 A3.out).mono ?_); (case side1 => repeat (first | exact HR0.out | (with_reducible refine Kd.C_alloc ?_ _) | (with_reducible refine Kd.C_drewN ?_ _) | (with_reducible refine Kd.C_drew ?_))); (case side2 => exact HC0.out); rintro e w8 ⟨v149, rfl, ho0, hb⟩; refine ⟨_, rfl, ?_⟩; have n0_ := Aside0.mk (Kd.R_lower ho0 (below_size (by repeat (first | (with_reducible first | exact HB.out | apply below_alloc | apply pw_below_drewN | apply below_drew1) | exact HB.out)))); have n1_ := Aside0.mk (below_step (by repeat (first | (with_reducible first | exact HB.out | apply below_alloc | apply pw_below_drewN | apply below_drew1) | exact HB.out)) hb); clear HB; have HO150 := n0_; have HB := n1_; clear n0_ n1_; (try clear hb); (try clear hb2); (try clear hk); (try clear hi); (try clear ho0); obtain ⟨Ao9, co9, eo9⟩ := Kd.R_slice HO150.out; subst eo9) | ((with_reducible refine gate_callee (f := 4) rfl ?_); refine goesL_ (some 22) rfl rfl Try.func4 (by kernel_rfl) rfl #[.slice Ao9 t148.length co9] rfl (by (try simp only [List.map_toArray, List.map_cons, List.map_nil]); first | done | rfl | (simp only [List.length_drop, List.length_take]; rfl)) ?_; (with_reducible refine (spec_ReadSave.calls k _ _ t148 t151 t152 t153 _ ?side1 ?side2 A4.out).mono ?_); (case side1 => repeat (first | exact (Kd.R_reads' HO150.out).2.2 | (with_reducible refine Kd.C_alloc ?_ _) | (with_reducible refine Kd.C_drewN ?_ _) | (with_reducible refine Kd.C_drew ?_))); (case side2 => exact (Kd.R_reads' HO150.out).2.1); rintro e w10 ⟨v154, rfl, ho0, hb⟩; refine ⟨_, rfl, ?_⟩; have n0_ := Aside0.mk (Kd.R_below (by (with_reducible repeat (first | apply Kd.R_alloc | apply Kd.R_drewN | apply Kd.R_drew)); exact HO150.out) hb); have n1_ := Aside0.mk (Kd.R_lower ho0 (below_size (by repeat (first | (with_reducible first | exact HB.out | apply below_alloc | apply pw_below_drewN | apply below_drew1) | exact HB.out)))); have n2_ := Aside0.mk (below_step (by repeat (first | (with_reducible first | exact HB.out | apply below_alloc | apply pw_below_drewN | apply below_drew1) | exact HB.out)) hb); clear HO150; clear HB; have HO150 := n0_; have HO155 := n1_; have HB := n2_; clear n0_ n1_ n2_; (try clear hb); (try clear hb2); (try clear hk); (try clear hi); (try clear ho0)) | ((with_reducible refine gate_callee (f := 5) rfl ?_); refine goesL_ (some 27) rfl rfl Try.func5 (by kernel_rfl) rfl #[.slice A0 l0.length c0] rfl (by (try simp only [List.map_toArray, List.map_cons, List.map_nil]); first | done | rfl | (simp only [List.length_drop, List.length_take]; rfl)) ?_; (with_reducible refine (laws_toByteS.calls k _ _ l0 t156 _ ?side1 ?side2 A5.out).mono ?_); (case side1 => repeat (first | exact (Kd.C_below HR0.out HB.out) | (with_reducible refine Kd.C_alloc ?_ _) | (with_reducible refine Kd.C_drewN ?_ _) | (with_reducible refine Kd.C_drew ?_))); (case side2 => exact HC0.out); rintro e w11 ⟨v157, rfl, ho0, hb⟩; refine ⟨_, rfl, ?_⟩; have n0_ := Aside0.mk (Kd.R_elder' (by (with_reducible repeat (first | apply Kd.R_alloc | apply Kd.R_drewN | apply Kd.R_drew)); exact HO150.out) (Kd.R_base ho0) hb); have n1_ := Aside0.mk (Kd.R_below (by (with_reducible repeat (first | apply Kd.R_alloc | apply Kd.R_drewN | apply Kd.R_drew)); exact HO155.out) hb); have n2_ := Aside0.mk (Kd.R_lower (Kd.R_new' ho0 (Kd.R_lt (by (with_reducible repeat (first | apply Kd.R_alloc | apply Kd.R_drewN | apply Kd.R_drew)); exact HO150.out))) (below_size (by repeat (first | (with_reducible first | exact HB.out | apply below_alloc | apply pw_below_drewN | apply below_drew1) | exact HB.out)))); have n3_ := Aside0.mk (below_step (by repeat (first | (with_reducible first | exact HB.out | apply below_alloc | apply pw_below_drewN | apply below_drew1) | exact HB.out)) hb); clear HO150; clear HO155; clear HB; have HO150 := n0_; have HO155 := n1_; have HO158 := n2_; have HB := n3_; clear n0_ n1_ n2_ n3_; (try clear hb); (try clear hb2); (try clear hk); (try clear hi); (try clear ho0); obtain ⟨Ao12, co12, eo12⟩ := Kd.R_slice HO158.out; subst eo12) | ((with_reducible refine gate_callee (f := 6) rfl ?_); refine goesL_ (some 30) rfl rfl Try.func6 (by kernel_rfl) rfl #[.slice Ao12 t156.length co12] rfl (by (try simp only [List.map_toArray, List.map_cons, List.map_nil]); first | done | rfl | (simp only [List.length_drop, List.length_take]; rfl)) ?_; (with_reducible refine (impl_ReadSave.calls k _ _ t156 t159 t160 t161 _ ?side1 ?side2 A6.out).mono ?_); (case side1 => repeat (first | exact (Kd.R_reads' HO158.out).2.2 | (with_reducible refine Kd.C_alloc ?_ _) | (with_reducible refine Kd.C_drewN ?_ _) | (with_reducible refine Kd.C_drew ?_))); (case side2 => exact (Kd.R_reads' HO158.out).2.1); rintro e w13 ⟨v162, rfl, ho0, hb⟩; refine ⟨_, rfl, ?_⟩; have n0_ := Aside0.mk (Kd.R_below (by (with_reducible repeat (first | apply Kd.R_alloc | apply Kd.R_drewN | apply Kd.R_drew)); exact HO150.out) hb); have n1_ := Aside0.mk (Kd.R_elder' (by (with_reducible repeat (first | apply Kd.R_alloc | apply Kd.R_drewN | apply Kd.R_drew)); exact HO155.out) (Kd.R_base ho0) hb); have n2_ := Aside0.mk (Kd.R_below (by (with_reducible repeat (first | apply Kd.R_alloc | apply Kd.R_drewN | apply Kd.R_drew)); exact HO158.out) hb); have n3_ := Aside0.mk (Kd.R_lower (Kd.R_new' ho0 (Kd.R_lt (by (with_reducible repeat (first | apply Kd.R_alloc | apply Kd.R_drewN | apply Kd.R_drew)); exact HO155.out))) (below_size (by repeat (first | (with_reducible first | exact HB.out | apply below_alloc | apply pw_below_drewN | apply below_drew1) | exact HB.out)))); have n4_ := Aside0.mk (below_step (by repeat (first | (with_reducible first | exact HB.out | apply below_alloc | apply pw_below_drewN | apply below_drew1) | exact HB.out)) hb); clear HO150; clear HO155; clear HO158; clear HB; have HO150 := n0_; have HO155 := n1_; have HO158 := n2_; have HO163 := n3_; have HB := n4_; clear n0_ n1_ n2_ n3_ n4_; (try clear hb); (try clear hb2); (try clear hk); (try clear hi); (try clear ho0)))
  (try simp only [Act.put, List.setIfInBounds_toArray, List.set_cons_zero, List.set_cons_succ])
  go_cut [47] (fun v47 wc => ∃ (kq : Nat) (x47_6 : Bool), v47 = .bool x47_6 ∧ Aside0 (laws_FnExactReadSave.j0 kq l0 t151 t152 t153 t156 t159 t160 t161 x47_6 = some r) ∧ Aside0 (kq ≤ k) ∧ Aside0 (Kd.R k41 41 wc w.heap.size (fun k_ => some k_ ≠ (v162 : Value).ownBlock) v154 t152) ∧ Aside0 (Kd.R (Kd.int .u8) 5 wc w.heap.size (fun _ => True) (.slice Ao12 t156.length co12) t156) ∧ Aside0 (Kd.R k41 41 wc w.heap.size (fun k_ => some k_ ≠ (v154 : Value).ownBlock) v162 t160) ∧ Aside0 (Below w.heap.size w wc))
  case first =>
   have H := HC7.out
   clear HC7
   by_cases c14 : t159 = t151
   ·rw [if_pos c14] at H
    have c14b0 : (t159 == t151) = true := beq_iff_eq.mpr c14
    have c14b1 : (t159 != t151) = false := bne_eq_false_iff_eq.mpr c14
    clear c14
    (first | rw [c14b0] | (simp only [i64_w, i32_w]; rw [c14b0]) | (rw [c14b2]; simp only [Bool.not_false, Bool.not_true]) | skip)
    replace H := Option.bind_eq_some_iff.mp H
    obtain ⟨t164, A150, H⟩ := H
    replace H : (if t164 = true then (laws_FnExactReadSave.j0 k l0 t151 t152 t153 t156 t159 t160 t161 (t161 != t153)) else (laws_FnExactReadSave.j0 k l0 t151 t152 t153 t156 t159 t160 t161 true)) = some r := H
    have A15 := Aside0.mk A150
    clear A150
    by_cases c16 : t164 = true
    ·subst c16
     have H1 : (laws_FnExactReadSave.j0 k l0 t151 t152 t153 t156 t159 t160 t161 (t161 != t153)) = some r := by rw [if_pos rfl] at H; exact H
     clear H
     have H := H1
     clear H1
     have H' := Aside0.mk H
     clear H
     obtain ⟨Ao17, co17, eo17⟩ := Kd.R_slice HO163.out
     subst eo17
     obtain ⟨Ao18, co18, eo18⟩ := Kd.R_slice HO155.out
     subst eo18
     go_wp2_with (first | (go_at_call 7; (with_reducible refine (laws_eqValueS.calls k _ _ t160 _ _ t152 true _ ?side1 ?side2 ?side3 ?side4 A15.out).mono ?_); (case side1 => repeat (first | exact (Kd.R_reads' HO163.out).2.2 | (with_reducible refine Kd.C_alloc ?_ _) | (with_reducible refine Kd.C_drewN ?_ _) | (with_reducible refine Kd.C_drew ?_))); (case side2 => exact (Kd.R_reads' HO163.out).2.1); (case side3 => repeat (first | exact (Kd.R_reads' HO155.out).2.2 | (with_reducible refine Kd.C_alloc ?_ _) | (with_reducible refine Kd.C_drewN ?_ _) | (with_reducible refine Kd.C_drew ?_))); (case side4 => exact (Kd.R_reads' HO155.out).2.1); rintro e w19 ⟨rfl, hb⟩; have n0_ := Aside0.mk (Kd.R_below (by (with_reducible repeat (first | apply Kd.R_alloc | apply Kd.R_drewN | apply Kd.R_drew)); exact HO150.out) hb); have n1_ := Aside0.mk (Kd.R_below (by (with_reducible repeat (first | apply Kd.R_alloc | apply Kd.R_drewN | apply Kd.R_drew)); exact HO155.out) hb); have n2_ := Aside0.mk (Kd.R_below (by (with_reducible repeat (first | apply Kd.R_alloc | apply Kd.R_drewN | apply Kd.R_drew)); exact HO158.out) hb); have n3_ := Aside0.mk (Kd.R_below (by (with_reducible repeat (first | apply Kd.R_alloc | apply Kd.R_drewN | apply Kd.R_drew)); exact HO163.out) hb); have n4_ := Aside0.mk (below_step (by repeat (first | (with_reducible first | exact HB.out | apply below_alloc | apply pw_below_drewN | apply below_drew1) | exact HB.out)) hb); clear HO150; clear HO155; clear HO158; clear HO163; clear HB; have HO150 := n0_; have HO155 := n1_; have HO158 := n2_; have HO163 := n3_; have HB := n4_; clear n0_ n1_ n2_ n3_ n4_; (try clear hb); (try clear hb2); (try clear hk); (try clear hi)))
     go_meet
     case rel => exact ⟨_, ((t161 != t153)), (by first | rfl | (simp; done) | (simp [*]; done) | exact not_isEmpty _ | exact (not_isEmpty _).symm | exact is_empty _ | exact (is_empty _).symm), H', ⟨by first | omega | exact Nat.le_refl _⟩, ⟨by (with_reducible repeat (first | apply Kd.R_alloc | apply Kd.R_drewN | apply Kd.R_drew)); exact Kd.R_mono HO155.out (fun _ hk => hk.2)⟩, ⟨by (with_reducible repeat (first | apply Kd.R_alloc | apply Kd.R_drewN | apply Kd.R_drew)); exact Kd.R_mono HO158.out (fun _ hk => trivial)⟩, ⟨by (with_reducible repeat (first | apply Kd.R_alloc | apply Kd.R_drewN | apply Kd.R_drew)); exact Kd.R_mono HO163.out (fun _ hk => hk.2)⟩, ⟨by repeat (first | (with_reducible first | exact HB.out | apply below_alloc | apply pw_below_drewN | apply below_drew1) | exact HB.out)⟩⟩
    ·replace c16 := Bool.eq_false_iff.mpr c16
     subst c16
     have H1 : (laws_FnExactReadSave.j0 k l0 t151 t152 t153 t156 t159 t160 t161 true) = some r := by rw [if_neg (show ¬ (false = true) by decide)] at H; exact H
     clear H
     have H := H1
     clear H1
     have H' := Aside0.mk H
     clear H
     obtain ⟨Ao20, co20, eo20⟩ := Kd.R_slice HO163.out
     subst eo20
     obtain ⟨Ao21, co21, eo21⟩ := Kd.R_slice HO155.out
     subst eo21
     go_wp2_with (first | (go_at_call 7; (with_reducible refine (laws_eqValueS.calls k _ _ t160 _ _ t152 false _ ?side1 ?side2 ?side3 ?side4 A15.out).mono ?_); (case side1 => repeat (first | exact (Kd.R_reads' HO163.out).2.2 | (with_reducible refine Kd.C_alloc ?_ _) | (with_reducible refine Kd.C_drewN ?_ _) | (with_reducible refine Kd.C_drew ?_))); (case side2 => exact (Kd.R_reads' HO163.out).2.1); (case side3 => repeat (first | exact (Kd.R_reads' HO155.out).2.2 | (with_reducible refine Kd.C_alloc ?_ _) | (with_reducible refine Kd.C_drewN ?_ _) | (with_reducible refine Kd.C_drew ?_))); (case side4 => exact (Kd.R_reads' HO155.out).2.1); rintro e w22 ⟨rfl, hb⟩; have n0_ := Aside0.mk (Kd.R_below (by (with_reducible repeat (first | apply Kd.R_alloc | apply Kd.R_drewN | apply Kd.R_drew)); exact HO150.out) hb); have n1_ := Aside0.mk (Kd.R_below (by (with_reducible repeat (first | apply Kd.R_alloc | apply Kd.R_drewN | apply Kd.R_drew)); exact HO155.out) hb); have n2_ := Aside0.mk (Kd.R_below (by (with_reducible repeat (first | apply Kd.R_alloc | apply Kd.R_drewN | apply Kd.R_drew)); exact HO158.out) hb); have n3_ := Aside0.mk (Kd.R_below (by (with_reducible repeat (first | apply Kd.R_alloc | apply Kd.R_drewN | apply Kd.R_drew)); exact HO163.out) hb); have n4_ := Aside0.mk (below_step (by repeat (first | (with_reducible first | exact HB.out | apply below_alloc | apply pw_below_drewN | apply below_drew1) | exact HB.out)) hb); clear HO150; clear HO155; clear HO158; clear HO163; clear HB; have HO150 := n0_; have HO155 := n1_; have HO158 := n2_; have HO163 := n3_; have HB := n4_; clear n0_ n1_ n2_ n3_ n4_; (try clear hb); (try clear hb2); (try clear hk); (try clear hi)))
     go_meet
     case rel => exact ⟨_, (true), (by first | rfl | (simp; done) | (simp [*]; done) | exact not_isEmpty _ | exact (not_isEmpty _).symm | exact is_empty _ | exact (is_empty _).symm), H', ⟨by first | omega | exact Nat.le_refl _⟩, ⟨by (with_reducible repeat (first | apply Kd.R_alloc | apply Kd.R_drewN | apply Kd.R_drew)); exact Kd.R_mono HO155.out (fun _ hk => hk.2)⟩, ⟨by (with_reducible repeat (first | apply Kd.R_alloc | apply Kd.R_drewN | apply Kd.R_drew)); exact Kd.R_mono HO158.out (fun _ hk => trivial)⟩, ⟨by (with_reducible repeat (first | apply Kd.R_alloc | apply Kd.R_drewN | apply Kd.R_drew)); exact Kd.R_mono HO163.out (fun _ hk => hk.2)⟩, ⟨by repeat (first | (with_reducible first | exact HB.out | apply below_alloc | apply pw_below_drewN | apply below_drew1) | exact HB.out)⟩⟩
   ·rw [if_neg c14] at H
    have c14b0 : (t159 == t151) = false := beq_eq_false_iff_ne.mpr c14
    have c14b1 : (t159 != t151) = true := bne_iff_ne.mpr c14
    (first | rw [c14b0] | (simp only [i64_w, i32_w]; rw [c14b0]) | (rw [c14b2]; simp only [Bool.not_false, Bool.not_true]) | skip)
    have H' := Aside0.mk H
    clear H
    go_wp2
    go_meet
    case rel => exact ⟨_, (true), (by first | rfl | (simp; done) | (simp [*]; done) | exact not_isEmpty _ | exact (not_isEmpty _).symm | exact is_empty _ | exact (is_empty _).symm), H', ⟨by first | omega | exact Nat.le_refl _⟩, ⟨by (with_reducible repeat (first | apply Kd.R_alloc | apply Kd.R_drewN | apply Kd.R_drew)); exact Kd.R_mono HO155.out (fun _ hk => hk.2)⟩, ⟨by (with_reducible repeat (first | apply Kd.R_alloc | apply Kd.R_drewN | apply Kd.R_drew)); exact Kd.R_mono HO158.out (fun _ hk => trivial)⟩, ⟨by (with_reducible repeat (first | apply Kd.R_alloc | apply Kd.R_drewN | apply Kd.R_drew)); exact Kd.R_mono HO163.out (fun _ hk => hk.2)⟩, ⟨by repeat (first | (with_reducible first | exact HB.out | apply below_alloc | apply pw_below_drewN | apply below_drew1) | exact HB.out)⟩⟩
  case rest =>
   clear HC7
   try clear c1
   try clear c2
   try clear c2b0
   try clear c2b1
   try clear p2
   try clear c3
   try clear c4
   try clear c5
   try clear c6
   try clear c14
   try clear c14b0
   try clear c14b1
   try clear c14b2
   try clear c16
   obtain ⟨kq, x47_6, rfl, HA, HJ6, HO_4, HO_6, HO_8, HB⟩ := hcut
   cases kq with
   | zero => exact absurd HA.out (by simp [laws_FnExactReadSave.j0])
   | succ kj6 =>
    have H := HA.out
    clear HA
    simp only [laws_FnExactReadSave.j0] at H
    by_cases c23 : x47_6 = true
    ·subst c23
     have H1 : (some false) = some r := by rw [if_pos rfl] at H; exact H
     clear H
     have H := H1
     clear H1
     obtain rfl := Option.some.inj H
     go_wp2
     go_ret
     exact ⟨by first | rfl | (simp [errW_none, errW_some] <;> rfl) | (simp [*, errW_none, errW_some] <;> rfl), by repeat (first | (with_reducible first | exact HB.out | apply below_alloc | apply pw_below_drewN | apply below_drew1) | exact HB.out)⟩
    ·replace c23 := Bool.eq_false_iff.mpr c23
     subst c23
     have H1 : ((laws_toByteS.f kj6 l0).bind fun t165 => ((laws_eqByteS.f kj6 t156 t165).bind fun t168 => (if t168 = true then ((laws_markByteS.f kj6 t156 1).bind fun bt169 => (if bt169.1 < 0 then (laws_FnExactReadSave.j1 kj6 l0 t151 t152 t153 t160 true) else (if t159 = t151 then ((laws_eqValueS.f kj6 t160 t152).bind fun t171 => (if t171 = true then (laws_FnExactReadSave.j1 kj6 l0 t151 t152 t153 t160 (t161 != t153)) else (laws_FnExactReadSave.j1 kj6 l0 t151 t152 t153 t160 true))) else (laws_FnExactReadSave.j1 kj6 l0 t151 t152 t153 t160 true)))) else (some false)))) = some r := by rw [if_neg (show ¬ (false = true) by decide)] at H; exact H
     clear H
     have H := H1
     clear H1
     replace H := Option.bind_eq_some_iff.mp H
     obtain ⟨t165, A240, H⟩ := H
     replace H : ((laws_eqByteS.f kj6 t156 t165).bind fun t168 => (if t168 = true then ((laws_markByteS.f kj6 t156 1).bind fun bt169 => (if bt169.1 < 0 then (laws_FnExactReadSave.j1 kj6 l0 t151 t152 t153 t160 true) else (if t159 = t151 then ((laws_eqValueS.f kj6 t160 t152).bind fun t171 => (if t171 = true then (laws_FnExactReadSave.j1 kj6 l0 t151 t152 t153 t160 (t161 != t153)) else (laws_FnExactReadSave.j1 kj6 l0 t151 t152 t153 t160 true))) else (laws_FnExactReadSave.j1 kj6 l0 t151 t152 t153 t160 true)))) else (some false))) = some r := H
     have A24 := Aside0.mk A240
     clear A240
     replace H := Option.bind_eq_some_iff.mp H
     obtain ⟨t168, A250, H⟩ := H
     replace H : (if t168 = true then ((laws_markByteS.f kj6 t156 1).bind fun bt169 => (if bt169.1 < 0 then (laws_FnExactReadSave.j1 kj6 l0 t151 t152 t153 t160 true) else (if t159 = t151 then ((laws_eqValueS.f kj6 t160 t152).bind fun t171 => (if t171 = true then (laws_FnExactReadSave.j1 kj6 l0 t151 t152 t153 t160 (t161 != t153)) else (laws_FnExactReadSave.j1 kj6 l0 t151 t152 t153 t160 true))) else (laws_FnExactReadSave.j1 kj6 l0 t151 t152 t153 t160 true)))) else (some false)) = some r := H
     have A25 := Aside0.mk A250
     clear A250
     by_cases c26 : t168 = true
     ·subst c26
      have H1 : ((laws_markByteS.f kj6 t156 1).bind fun bt169 => (if bt169.1 < 0 then (laws_FnExactReadSave.j1 kj6 l0 t151 t152 t153 t160 true) else (if t159 = t151 then ((laws_eqValueS.f kj6 t160 t152).bind fun t171 => (if t171 = true then (laws_FnExactReadSave.j1 kj6 l0 t151 t152 t153 t160 (t161 != t153)) else (laws_FnExactReadSave.j1 kj6 l0 t151 t152 t153 t160 true))) else (laws_FnExactReadSave.j1 kj6 l0 t151 t152 t153 t160 true)))) = some r := by rw [if_pos rfl] at H; exact H
      clear H
      have H := H1
      clear H1
      replace H := Option.bind_eq_some_iff.mp H
      obtain ⟨⟨t169, t170⟩, A270, H⟩ := H
      replace H : (if t169 < 0 then (laws_FnExactReadSave.j1 kj6 l0 t151 t152 t153 t160 true) else (if t159 = t151 then ((laws_eqValueS.f kj6 t160 t152).bind fun t171 => (if t171 = true then (laws_FnExactReadSave.j1 kj6 l0 t151 t152 t153 t160 (t161 != t153)) else (laws_FnExactReadSave.j1 kj6 l0 t151 t152 t153 t160 true))) else (laws_FnExactReadSave.j1 kj6 l0 t151 t152 t153 t160 true))) = some r := H
      have A27 := Aside0.mk A270
      clear A270
      have HC28 := Aside0.mk H
      clear H
      go_upto_region 12 with (first | ((with_reducible refine gate_callee (f := 5) rfl ?_); refine goesL_ (some 50) rfl rfl Try.func5 (by kernel_rfl) rfl #[.slice A0 l0.length c0] rfl (by (try simp only [List.map_toArray, List.map_cons, List.map_nil]); first | done | rfl | (simp only [List.length_drop, List.length_take]; rfl)) ?_; (with_reducible refine (laws_toByteS.calls kj6 _ _ l0 t165 _ ?side1 ?side2 A24.out).mono ?_); (case side1 => repeat (first | exact (Kd.C_below HR0.out HB.out) | (with_reducible refine Kd.C_alloc ?_ _) | (with_reducible refine Kd.C_drewN ?_ _) | (with_reducible refine Kd.C_drew ?_))); (case side2 => exact HC0.out); rintro e w29 ⟨v166, rfl, ho0, hb⟩; refine ⟨_, rfl, ?_⟩; have n0_ := Aside0.mk (Kd.R_below (by (with_reducible repeat (first | apply Kd.R_alloc | apply Kd.R_drewN | apply Kd.R_drew)); exact HO_4.out) hb); have n1_ := Aside0.mk (Kd.R_elder' (by (with_reducible repeat (first | apply Kd.R_alloc | apply Kd.R_drewN | apply Kd.R_drew)); exact HO_6.out) (Kd.R_base ho0) hb); have n2_ := Aside0.mk (Kd.R_below (by (with_reducible repeat (first | apply Kd.R_alloc | apply Kd.R_drewN | apply Kd.R_drew)); exact HO_8.out) hb); have n3_ := Aside0.mk (Kd.R_lower (Kd.R_new' ho0 (Kd.R_lt (by (with_reducible repeat (first | apply Kd.R_alloc | apply Kd.R_drewN | apply Kd.R_drew)); exact HO_6.out))) (below_size (by repeat (first | (with_reducible first | exact HB.out | apply below_alloc | apply pw_below_drewN | apply below_drew1) | exact HB.out)))); have n4_ := Aside0.mk (below_step (by repeat (first | (with_reducible first | exact HB.out | apply below_alloc | apply pw_below_drewN | apply below_drew1) | exact HB.out)) hb); clear HO_4; clear HO_6; clear HO_8; clear HB; have HO_4 := n0_; have HO_6 := n1_; have HO_8 := n2_; have HO167 := n3_; have HB := n4_; clear n0_ n1_ n2_ n3_ n4_; (try clear hb); (try clear hb2); (try clear hk); (try clear hi); (try clear ho0); obtain ⟨Ao30, co30, eo30⟩ := Kd.R_slice HO167.out; subst eo30) | ((with_reducible refine gate_callee (f := 8) rfl ?_); refine goesL_ (some 51) rfl rfl Try.func8 (by kernel_rfl) rfl #[.slice Ao12 t156.length co12, .slice Ao30 t165.length co30] rfl (by (try simp only [List.map_toArray, List.map_cons, List.map_nil]); first | done | rfl | (simp only [List.length_drop, List.length_take]; rfl)) ?_; (with_reducible refine (laws_eqByteS.calls kj6 _ _ t156 _ _ t165 true _ ?side1 ?side2 ?side3 ?side4 A25.out).mono ?_); (case side1 => repeat (first | exact (Kd.R_reads' HO_6.out).2.2 | (with_reducible refine Kd.C_alloc ?_ _) | (with_reducible refine Kd.C_drewN ?_ _) | (with_reducible refine Kd.C_drew ?_))); (case side2 => exact (Kd.R_reads' HO_6.out).2.1); (case side3 => repeat (first | exact (Kd.R_reads' HO167.out).2.2 | (with_reducible refine Kd.C_alloc ?_ _) | (with_reducible refine Kd.C_drewN ?_ _) | (with_reducible refine Kd.C_drew ?_))); (case side4 => exact (Kd.R_reads' HO167.out).2.1); rintro e w' ⟨rfl, ⟨nd, rfl⟩⟩; refine ⟨_, rfl, ?_⟩) | ((with_reducible refine gate_callee (f := 9) rfl ?_); refine goesL_ (some 55) rfl rfl Try.func9 (by kernel_rfl) rfl #[.slice Ao12 t156.length co12, .int .i64 1] rfl (by (try simp only [List.map_toArray, List.map_cons, List.map_nil]); first | done | rfl | (simp only [List.length_drop, List.length_take]; rfl)) ?_; (with_reducible refine (laws_markByteS.calls kj6 (fun k_ => some k_ = (.slice Ao12 t156.length co12 : Value).ownBlock) (.slice Ao12 t156.length co12) t156 1 t169 t170 w _ ?side1 ?side2 A27.out).mono ?_); (case side1 => repeat (first | (with_reducible first | exact HB.out | apply below_alloc | apply pw_below_drewN | apply below_drew1) | exact HB.out)); (case side2 => exact Kd.R_tight rfl HO_6.out); rintro e w31 ⟨rfl, hy0, hb, hkp⟩; refine ⟨_, rfl, ?_⟩; have n0_ := Aside0.mk (Kd.R_mono (ok' := fun k_ => some k_ ≠ (v162 : Value).ownBlock) (Kd.R_keptB ((Kd.R_apart' HO_4.out (Kd.R_typed HO_6.out) (by decide))) hkp (fun k_ hk_ hs_ => (hk_.2) hs_)) (fun k_ hk_ => hk_.1.1)); have n1_ := Aside0.mk (Kd.R_reok rfl hy0 (fun k_ e_ => HO_6.out.1 k_ e_)); have n2_ := Aside0.mk (Kd.R_mono (ok' := fun k_ => some k_ ≠ (v154 : Value).ownBlock) (Kd.R_keptB ((Kd.R_apart' HO_8.out (Kd.R_typed HO_6.out) (by decide))) hkp (fun k_ hk_ hs_ => (hk_.2) hs_)) (fun k_ hk_ => hk_.1.1)); have n3_ := Aside0.mk (Kd.R_mono (ok' := fun k_ => some k_ ≠ (.slice Ao12 t156.length co12 : Value).ownBlock) (Kd.R_keptB (HO167.out) hkp (fun k_ hk_ hs_ => (hk_.2) hs_)) (fun k_ hk_ => hk_.1.2)); have n4_ := Aside0.mk (hb); clear HO_4; clear HO_6; clear HO_8; clear HO167; clear HB; have HO_4 := n0_; have HO_6 := n1_; have HO_8 := n2_; have HO167 := n3_; have HB := n4_; clear n0_ n1_ n2_ n3_ n4_; (try clear hb); (try clear hkp); (try clear hg_); (try clear hp_); (try clear hy0)))
      (try simp only [Act.put, List.setIfInBounds_toArray, List.set_cons_zero, List.set_cons_succ])
      go_cut [73] (fun v73 wc => ∃ (kq : Nat) (x73_27 : Bool), v73 = .bool x73_27 ∧ Aside0 (laws_FnExactReadSave.j1 kq l0 t151 t152 t153 t160 x73_27 = some r) ∧ Aside0 (kq ≤ kj6) ∧ Aside0 (Kd.R k41 41 wc w.heap.size (fun k_ => some k_ ≠ (v162 : Value).ownBlock) v154 t152) ∧ Aside0 (Kd.R k41 41 wc w.heap.size (fun k_ => some k_ ≠ (v154 : Value).ownBlock) v162 t160) ∧ Aside0 (Below w.heap.size w wc))
      case first =>
       have H := HC28.out
       clear HC28
       by_cases c32 : t169 < 0
       ·rw [if_pos c32] at H
        have c32b0 : decide (t169 < 0) = true := decide_eq_true c32
        clear c32
        (first | rw [c32b0] | (simp only [i64_w, i32_w]; rw [c32b0]) | (rw [c32b2]; simp only [Bool.not_false, Bool.not_true]) | skip)
        have H' := Aside0.mk H
        clear H
        go_wp2
        go_meet
        case rel => exact ⟨_, (true), (by first | rfl | (simp; done) | (simp [*]; done) | exact not_isEmpty _ | exact (not_isEmpty _).symm | exact is_empty _ | exact (is_empty _).symm), H', ⟨by have := HJ6.out; first | omega | exact Nat.le_refl _⟩, ⟨by (with_reducible repeat (first | apply Kd.R_alloc | apply Kd.R_drewN | apply Kd.R_drew)); exact HO_4.out⟩, ⟨by (with_reducible repeat (first | apply Kd.R_alloc | apply Kd.R_drewN | apply Kd.R_drew)); exact HO_8.out⟩, ⟨by repeat (first | (with_reducible first | exact HB.out | apply below_alloc | apply pw_below_drewN | apply below_drew1) | exact HB.out)⟩⟩
       ·rw [if_neg c32] at H
        have c32b0 : decide (t169 < 0) = false := decide_eq_false c32
        clear c32
        (first | rw [c32b0] | (simp only [i64_w, i32_w]; rw [c32b0]) | (rw [c32b2]; simp only [Bool.not_false, Bool.not_true]) | skip)
        by_cases c33 : t159 = t151
        ·rw [if_pos c33] at H
         have c33b0 : (t159 == t151) = true := beq_iff_eq.mpr c33
         have c33b1 : (t159 != t151) = false := bne_eq_false_iff_eq.mpr c33
         clear c33
         replace H := Option.bind_eq_some_iff.mp H
         obtain ⟨t171, A340, H⟩ := H
         replace H : (if t171 = true then (laws_FnExactReadSave.j1 kj6 l0 t151 t152 t153 t160 (t161 != t153)) else (laws_FnExactReadSave.j1 kj6 l0 t151 t152 t153 t160 true)) = some r := H
         have A34 := Aside0.mk A340
         clear A340
         by_cases c35 : t171 = true
         ·subst c35
          have H1 : (laws_FnExactReadSave.j1 kj6 l0 t151 t152 t153 t160 (t161 != t153)) = some r := by rw [if_pos rfl] at H; exact H
          clear H
          have H := H1
          clear H1
          have H' := Aside0.mk H
          clear H
          obtain ⟨Ao36, co36, eo36⟩ := Kd.R_slice HO_8.out
          subst eo36
          obtain ⟨Ao37, co37, eo37⟩ := Kd.R_slice HO_4.out
          subst eo37
          go_wp2_with (first | (go_at_call 7; (with_reducible refine (laws_eqValueS.calls kj6 _ _ t160 _ _ t152 true _ ?side1 ?side2 ?side3 ?side4 A34.out).mono ?_); (case side1 => repeat (first | exact (Kd.R_reads' HO_8.out).2.2 | (with_reducible refine Kd.C_alloc ?_ _) | (with_reducible refine Kd.C_drewN ?_ _) | (with_reducible refine Kd.C_drew ?_))); (case side2 => exact (Kd.R_reads' HO_8.out).2.1); (case side3 => repeat (first | exact (Kd.R_reads' HO_4.out).2.2 | (with_reducible refine Kd.C_alloc ?_ _) | (with_reducible refine Kd.C_drewN ?_ _) | (with_reducible refine Kd.C_drew ?_))); (case side4 => exact (Kd.R_reads' HO_4.out).2.1); rintro e w38 ⟨rfl, hb⟩; have n0_ := Aside0.mk (Kd.R_below (by (with_reducible repeat (first | apply Kd.R_alloc | apply Kd.R_drewN | apply Kd.R_drew)); exact HO_4.out) hb); have n1_ := Aside0.mk (Kd.R_below (by (with_reducible repeat (first | apply Kd.R_alloc | apply Kd.R_drewN | apply Kd.R_drew)); exact HO_6.out) hb); have n2_ := Aside0.mk (Kd.R_below (by (with_reducible repeat (first | apply Kd.R_alloc | apply Kd.R_drewN | apply Kd.R_drew)); exact HO_8.out) hb); have n3_ := Aside0.mk (Kd.R_below (by (with_reducible repeat (first | apply Kd.R_alloc | apply Kd.R_drewN | apply Kd.R_drew)); exact HO167.out) hb); have n4_ := Aside0.mk (below_step (by repeat (first | (with_reducible first | exact HB.out | apply below_alloc | apply pw_below_drewN | apply below_drew1) | exact HB.out)) hb); clear HO_4; clear HO_6; clear HO_8; clear HO167; clear HB; have HO_4 := n0_; have HO_6 := n1_; have HO_8 := n2_; have HO167 := n3_; have HB := n4_; clear n0_ n1_ n2_ n3_ n4_; (try clear hb); (try clear hb2); (try clear hk); (try clear hi)))
          go_meet
          case rel => exact ⟨_, ((t161 != t153)), (by first | rfl | (simp; done) | (simp [*]; done) | exact not_isEmpty _ | exact (not_isEmpty _).symm | exact is_empty _ | exact (is_empty _).symm), H', ⟨by have := HJ6.out; first | omega | exact Nat.le_refl _⟩, ⟨by (with_reducible repeat (first | apply Kd.R_alloc | apply Kd.R_drewN | apply Kd.R_drew)); exact HO_4.out⟩, ⟨by (with_reducible repeat (first | apply Kd.R_alloc | apply Kd.R_drewN | apply Kd.R_drew)); exact HO_8.out⟩, ⟨by repeat (first | (with_reducible first | exact HB.out | apply below_alloc | apply pw_below_drewN | apply below_drew1) | exact HB.out)⟩⟩
         ·replace c35 := Bool.eq_false_iff.mpr c35
          subst c35
          have H1 : (laws_FnExactReadSave.j1 kj6 l0 t151 t152 t153 t160 true) = some r := by rw [if_neg (show ¬ (false = true) by decide)] at H; exact H
          clear H
          have H := H1
          clear H1
          have H' := Aside0.mk H
          clear H
          obtain ⟨Ao39, co39, eo39⟩ := Kd.R_slice HO_8.out
          subst eo39
          obtain ⟨Ao40, co40, eo40⟩ := Kd.R_slice HO_4.out
          subst eo40
          go_wp2_with (first | (go_at_call 7; (with_reducible refine (laws_eqValueS.calls kj6 _ _ t160 _ _ t152 false _ ?side1 ?side2 ?side3 ?side4 A34.out).mono ?_); (case side1 => repeat (first | exact (Kd.R_reads' HO_8.out).2.2 | (with_reducible refine Kd.C_alloc ?_ _) | (with_reducible refine Kd.C_drewN ?_ _) | (with_reducible refine Kd.C_drew ?_))); (case side2 => exact (Kd.R_reads' HO_8.out).2.1); (case side3 => repeat (first | exact (Kd.R_reads' HO_4.out).2.2 | (with_reducible refine Kd.C_alloc ?_ _) | (with_reducible refine Kd.C_drewN ?_ _) | (with_reducible refine Kd.C_drew ?_))); (case side4 => exact (Kd.R_reads' HO_4.out).2.1); rintro e w41 ⟨rfl, hb⟩; have n0_ := Aside0.mk (Kd.R_below (by (with_reducible repeat (first | apply Kd.R_alloc | apply Kd.R_drewN | apply Kd.R_drew)); exact HO_4.out) hb); have n1_ := Aside0.mk (Kd.R_below (by (with_reducible repeat (first | apply Kd.R_alloc | apply Kd.R_drewN | apply Kd.R_drew)); exact HO_6.out) hb); have n2_ := Aside0.mk (Kd.R_below (by (with_reducible repeat (first | apply Kd.R_alloc | apply Kd.R_drewN | apply Kd.R_drew)); exact HO_8.out) hb); have n3_ := Aside0.mk (Kd.R_below (by (with_reducible repeat (first | apply Kd.R_alloc | apply Kd.R_drewN | apply Kd.R_drew)); exact HO167.out) hb); have n4_ := Aside0.mk (below_step (by repeat (first | (with_reducible first | exact HB.out | apply below_alloc | apply pw_below_drewN | apply below_drew1) | exact HB.out)) hb); clear HO_4; clear HO_6; clear HO_8; clear HO167; clear HB; have HO_4 := n0_; have HO_6 := n1_; have HO_8 := n2_; have HO167 := n3_; have HB := n4_; clear n0_ n1_ n2_ n3_ n4_; (try clear hb); (try clear hb2); (try clear hk); (try clear hi)))
          go_meet
          case rel => exact ⟨_, (true), (by first | rfl | (simp; done) | (simp [*]; done) | exact not_isEmpty _ | exact (not_isEmpty _).symm | exact is_empty _ | exact (is_empty _).symm), H', ⟨by have := HJ6.out; first | omega | exact Nat.le_refl _⟩, ⟨by (with_reducible repeat (first | apply Kd.R_alloc | apply Kd.R_drewN | apply Kd.R_drew)); exact HO_4.out⟩, ⟨by (with_reducible repeat (first | apply Kd.R_alloc | apply Kd.R_drewN | apply Kd.R_drew)); exact HO_8.out⟩, ⟨by repeat (first | (with_reducible first | exact HB.out | apply below_alloc | apply pw_below_drewN | apply below_drew1) | exact HB.out)⟩⟩
        ·rw [if_neg c33] at H
         have c33b0 : (t159 == t151) = false := beq_eq_false_iff_ne.mpr c33
         have c33b1 : (t159 != t151) = true := bne_iff_ne.mpr c33
         have H' := Aside0.mk H
         clear H
         go_wp2
         go_meet
         case rel => exact ⟨_, (true), (by first | rfl | (simp; done) | (simp [*]; done) | exact not_isEmpty _ | exact (not_isEmpty _).symm | exact is_empty _ | exact (is_empty _).symm), H', ⟨by have := HJ6.out; first | omega | exact Nat.le_refl _⟩, ⟨by (with_reducible repeat (first | apply Kd.R_alloc | apply Kd.R_drewN | apply Kd.R_drew)); exact HO_4.out⟩, ⟨by (with_reducible repeat (first | apply Kd.R_alloc | apply Kd.R_drewN | apply Kd.R_drew)); exact HO_8.out⟩, ⟨by repeat (first | (with_reducible first | exact HB.out | apply below_alloc | apply pw_below_drewN | apply below_drew1) | exact HB.out)⟩⟩
      case rest =>
       clear HC28
       try clear c1
       try clear c2
       try clear c2b0
       try clear c2b1
       try clear p2
       try clear c3
       try clear c4
       try clear c5
       try clear c6
       try clear c8
       try clear c9
       try clear c14
       try clear c14b0
       try clear c14b1
       try clear c14b2
       try clear c16
       try clear c23
       try clear c26
       try clear c32
       try clear c32b0
       try clear c32b2
       try clear c33
       try clear c33b0
       try clear c33b1
       try clear c35
       try clear p2
       obtain ⟨kq, x73_27, rfl, HA, HJ27, HO_4, HO_8, HB⟩ := hcut
       cases kq with
       | zero => exact absurd HA.out (by simp [laws_FnExactReadSave.j1])
       | succ kj27 =>
        have H := HA.out
        clear HA
        simp only [laws_FnExactReadSave.j1] at H
        by_cases c42 : x73_27 = true
        ·subst c42
         have H1 : (some false) = some r := by rw [if_pos rfl] at H; exact H
         clear H
         have H := H1
         clear H1
         obtain rfl := Option.some.inj H
         go_wp2
         go_ret
         exact ⟨by first | rfl | (simp [errW_none, errW_some] <;> rfl) | (simp [*, errW_none, errW_some] <;> rfl), by repeat (first | (with_reducible first | exact HB.out | apply below_alloc | apply pw_below_drewN | apply below_drew1) | exact HB.out)⟩
        ·replace c42 := Bool.eq_false_iff.mpr c42
         subst c42
         have H1 : ((laws_markValueS.f kj27 t160 1).bind fun bt172 => ((laws_heldValueS.f kj27 bt172.2 1).bind fun t174 => (if t174 < 0 then (some false) else (if t174 = bt172.1 then ((laws_toByteS.f kj27 l0).bind fun t175 => ((impl_ReadSave.f kj27 t175).bind fun bt178 => (if bt178.1 = t151 then ((laws_eqValueS.f kj27 bt178.2.1 t152).bind fun t183 => (if t183 = true then (laws_FnExactReadSave.j2 kj27 bt172.2 bt172.1 (bt178.2.2 != t153)) else (laws_FnExactReadSave.j2 kj27 bt172.2 bt172.1 true))) else (laws_FnExactReadSave.j2 kj27 bt172.2 bt172.1 true)))) else (some false))))) = some r := by rw [if_neg (show ¬ (false = true) by decide)] at H; exact H
         clear H
         have H := H1
         clear H1
         replace H := Option.bind_eq_some_iff.mp H
         obtain ⟨⟨t172, t173⟩, A430, H⟩ := H
         replace H : ((laws_heldValueS.f kj27 t173 1).bind fun t174 => (if t174 < 0 then (some false) else (if t174 = t172 then ((laws_toByteS.f kj27 l0).bind fun t175 => ((impl_ReadSave.f kj27 t175).bind fun bt178 => (if bt178.1 = t151 then ((laws_eqValueS.f kj27 bt178.2.1 t152).bind fun t183 => (if t183 = true then (laws_FnExactReadSave.j2 kj27 t173 t172 (bt178.2.2 != t153)) else (laws_FnExactReadSave.j2 kj27 t173 t172 true))) else (laws_FnExactReadSave.j2 kj27 t173 t172 true)))) else (some false)))) = some r := H
         have A43 := Aside0.mk A430
         clear A430
         replace H := Option.bind_eq_some_iff.mp H
         obtain ⟨t174, A440, H⟩ := H
         replace H : (if t174 < 0 then (some false) else (if t174 = t172 then ((laws_toByteS.f kj27 l0).bind fun t175 => ((impl_ReadSave.f kj27 t175).bind fun bt178 => (if bt178.1 = t151 then ((laws_eqValueS.f kj27 bt178.2.1 t152).bind fun t183 => (if t183 = true then (laws_FnExactReadSave.j2 kj27 t173 t172 (bt178.2.2 != t153)) else (laws_FnExactReadSave.j2 kj27 t173 t172 true))) else (laws_FnExactReadSave.j2 kj27 t173 t172 true)))) else (some false))) = some r := H
         have A44 := Aside0.mk A440
         clear A440
         by_cases c45 : t174 < 0
         ·rw [if_pos c45] at H
          have c45b0 : decide (t174 < 0) = true := decide_eq_true c45
          clear c45
          obtain rfl := Option.some.inj H
          obtain ⟨Ao46, co46, eo46⟩ := Kd.R_slice HO_8.out
          subst eo46
          go_wp2_with (first | ((with_reducible refine gate_callee (f := 10) rfl ?_); refine goesL_ (some 76) rfl rfl Try.func10 (by kernel_rfl) rfl #[.slice Ao46 t160.length co46, .int .i64 1] rfl (by (try simp only [List.map_toArray, List.map_cons, List.map_nil]); first | done | rfl | (simp only [List.length_drop, List.length_take]; rfl)) ?_; (with_reducible refine (laws_markValueS.calls kj27 (fun k_ => some k_ = (.slice Ao46 t160.length co46 : Value).ownBlock) (.slice Ao46 t160.length co46) t160 1 t172 t173 w _ ?side1 ?side2 A43.out).mono ?_); (case side1 => repeat (first | (with_reducible first | exact HB.out | apply below_alloc | apply pw_below_drewN | apply below_drew1) | exact HB.out)); (case side2 => exact Kd.R_tight rfl HO_8.out); rintro e w47 ⟨rfl, hy0, hb, hkp⟩; refine ⟨_, rfl, ?_⟩; have n0_ := Aside0.mk (Kd.R_mono (ok' := fun k_ => some k_ ≠ (.slice Ao46 t160.length co46 : Value).ownBlock) (Kd.R_keptB (HO_4.out) hkp (fun k_ hk_ hs_ => (hk_) hs_)) (fun k_ hk_ => hk_.1)); have n1_ := Aside0.mk (Kd.R_reok rfl hy0 (fun k_ e_ => HO_8.out.1 k_ e_)); have n2_ := Aside0.mk (hb); clear HO_4; clear HO_8; clear HB; have HO_4 := n0_; have HO_8 := n1_; have HB := n2_; clear n0_ n1_ n2_; (try clear hb); (try clear hkp); (try clear hg_); (try clear hp_); (try clear hy0)) | ((with_reducible refine gate_callee (f := 11) rfl ?_); refine goesL_ (some 79) rfl rfl Try.func11 (by kernel_rfl) rfl #[.slice Ao46 t173.length co46, .int .i64 1] rfl (by (try simp only [List.map_toArray, List.map_cons, List.map_nil]); first | done | (rw [show t173.length = t160.length from (Kd.R_reads' HO_8.out).1.symm] <;> rfl) | rfl | (simp only [List.length_drop, List.length_take]; rfl)) ?_; (with_reducible refine (laws_heldValueS.calls kj27 _ _ t173 1 t174 _ ?side1 ?side2 A44.out).mono ?_); (case side1 => repeat (first | exact (Kd.R_reads' HO_8.out).2.2 | (with_reducible refine Kd.C_alloc ?_ _) | (with_reducible refine Kd.C_drewN ?_ _) | (with_reducible refine Kd.C_drew ?_))); (case side2 => rw [show t173.length = t160.length from (Kd.R_reads' HO_8.out).1.symm]; exact (Kd.R_reads' HO_8.out).2.1); rintro e w48 ⟨rfl, hb⟩; refine ⟨_, rfl, ?_⟩; have n0_ := Aside0.mk (Kd.R_below (by (with_reducible repeat (first | apply Kd.R_alloc | apply Kd.R_drewN | apply Kd.R_drew)); exact HO_4.out) hb); have n1_ := Aside0.mk (Kd.R_below (by (with_reducible repeat (first | apply Kd.R_alloc | apply Kd.R_drewN | apply Kd.R_drew)); exact HO_8.out) hb); have n2_ := Aside0.mk (below_step (by repeat (first | (with_reducible first | exact HB.out | apply below_alloc | apply pw_below_drewN | apply below_drew1) | exact HB.out)) hb); clear HO_4; clear HO_8; clear HB; have HO_4 := n0_; have HO_8 := n1_; have HB := n2_; clear n0_ n1_ n2_; (try clear hb); (try clear hb2); (try clear hk); (try clear hi)))
          go_ret
          exact ⟨by first | rfl | (simp [errW_none, errW_some] <;> rfl) | (simp [*, errW_none, errW_some] <;> rfl), by repeat (first | (with_reducible first | exact HB.out | apply below_alloc | apply pw_below_drewN | apply below_drew1) | exact HB.out)⟩
         ·rw [if_neg c45] at H
          have c45b0 : decide (t174 < 0) = false := decide_eq_false c45
          clear c45
          by_cases c49 : t174 = t172
          ·rw [if_pos c49] at H
           have c49b0 : (t174 == t172) = true := beq_iff_eq.mpr c49
           have c49b1 : (t174 != t172) = false := bne_eq_false_iff_eq.mpr c49
           clear c49
           replace H := Option.bind_eq_some_iff.mp H
           obtain ⟨t175, A500, H⟩ := H
           replace H : ((impl_ReadSave.f kj27 t175).bind fun bt178 => (if bt178.1 = t151 then ((laws_eqValueS.f kj27 bt178.2.1 t152).bind fun t183 => (if t183 = true then (laws_FnExactReadSave.j2 kj27 t173 t172 (bt178.2.2 != t153)) else (laws_FnExactReadSave.j2 kj27 t173 t172 true))) else (laws_FnExactReadSave.j2 kj27 t173 t172 true))) = some r := H
           have A50 := Aside0.mk A500
           clear A500
           replace H := Option.bind_eq_some_iff.mp H
           obtain ⟨⟨t178, t179, t180⟩, A510, H⟩ := H
           replace H : (if t178 = t151 then ((laws_eqValueS.f kj27 t179 t152).bind fun t183 => (if t183 = true then (laws_FnExactReadSave.j2 kj27 t173 t172 (t180 != t153)) else (laws_FnExactReadSave.j2 kj27 t173 t172 true))) else (laws_FnExactReadSave.j2 kj27 t173 t172 true)) = some r := H
           have A51 := Aside0.mk A510
           clear A510
           have HC52 := Aside0.mk H
           clear H
           obtain ⟨Ao53, co53, eo53⟩ := Kd.R_slice HO_8.out
           subst eo53
           go_upto_region 23 with (first | ((with_reducible refine gate_callee (f := 10) rfl ?_); refine goesL_ (some 76) rfl rfl Try.func10 (by kernel_rfl) rfl #[.slice Ao53 t160.length co53, .int .i64 1] rfl (by (try simp only [List.map_toArray, List.map_cons, List.map_nil]); first | done | rfl | (simp only [List.length_drop, List.length_take]; rfl)) ?_; (with_reducible refine (laws_markValueS.calls kj27 (fun k_ => some k_ = (.slice Ao53 t160.length co53 : Value).ownBlock) (.slice Ao53 t160.length co53) t160 1 t172 t173 w _ ?side1 ?side2 A43.out).mono ?_); (case side1 => repeat (first | (with_reducible first | exact HB.out | apply below_alloc | apply pw_below_drewN | apply below_drew1) | exact HB.out)); (case side2 => exact Kd.R_tight rfl HO_8.out); rintro e w54 ⟨rfl, hy0, hb, hkp⟩; refine ⟨_, rfl, ?_⟩; have n0_ := Aside0.mk (Kd.R_mono (ok' := fun k_ => some k_ ≠ (.slice Ao53 t160.length co53 : Value).ownBlock) (Kd.R_keptB (HO_4.out) hkp (fun k_ hk_ hs_ => (hk_) hs_)) (fun k_ hk_ => hk_.1)); have n1_ := Aside0.mk (Kd.R_reok rfl hy0 (fun k_ e_ => HO_8.out.1 k_ e_)); have n2_ := Aside0.mk (hb); clear HO_4; clear HO_8; clear HB; have HO_4 := n0_; have HO_8 := n1_; have HB := n2_; clear n0_ n1_ n2_; (try clear hb); (try clear hkp); (try clear hg_); (try clear hp_); (try clear hy0)) | ((with_reducible refine gate_callee (f := 11) rfl ?_); refine goesL_ (some 79) rfl rfl Try.func11 (by kernel_rfl) rfl #[.slice Ao53 t173.length co53, .int .i64 1] rfl (by (try simp only [List.map_toArray, List.map_cons, List.map_nil]); first | done | (rw [show t173.length = t160.length from (Kd.R_reads' HO_8.out).1.symm] <;> rfl) | rfl | (simp only [List.length_drop, List.length_take]; rfl)) ?_; (with_reducible refine (laws_heldValueS.calls kj27 _ _ t173 1 t174 _ ?side1 ?side2 A44.out).mono ?_); (case side1 => repeat (first | exact (Kd.R_reads' HO_8.out).2.2 | (with_reducible refine Kd.C_alloc ?_ _) | (with_reducible refine Kd.C_drewN ?_ _) | (with_reducible refine Kd.C_drew ?_))); (case side2 => rw [show t173.length = t160.length from (Kd.R_reads' HO_8.out).1.symm]; exact (Kd.R_reads' HO_8.out).2.1); rintro e w55 ⟨rfl, hb⟩; refine ⟨_, rfl, ?_⟩; have n0_ := Aside0.mk (Kd.R_below (by (with_reducible repeat (first | apply Kd.R_alloc | apply Kd.R_drewN | apply Kd.R_drew)); exact HO_4.out) hb); have n1_ := Aside0.mk (Kd.R_below (by (with_reducible repeat (first | apply Kd.R_alloc | apply Kd.R_drewN | apply Kd.R_drew)); exact HO_8.out) hb); have n2_ := Aside0.mk (below_step (by repeat (first | (with_reducible first | exact HB.out | apply below_alloc | apply pw_below_drewN | apply below_drew1) | exact HB.out)) hb); clear HO_4; clear HO_8; clear HB; have HO_4 := n0_; have HO_8 := n1_; have HB := n2_; clear n0_ n1_ n2_; (try clear hb); (try clear hb2); (try clear hk); (try clear hi)) | ((with_reducible refine gate_callee (f := 5) rfl ?_); refine goesL_ (some 87) rfl rfl Try.func5 (by kernel_rfl) rfl #[.slice A0 l0.length c0] rfl (by (try simp only [List.map_toArray, List.map_cons, List.map_nil]); first | done | rfl | (simp only [List.length_drop, List.length_take]; rfl)) ?_; (with_reducible refine (laws_toByteS.calls kj27 _ _ l0 t175 _ ?side1 ?side2 A50.out).mono ?_); (case side1 => repeat (first | exact (Kd.C_below HR0.out HB.out) | (with_reducible refine Kd.C_alloc ?_ _) | (with_reducible refine Kd.C_drewN ?_ _) | (with_reducible refine Kd.C_drew ?_))); (case side2 => exact HC0.out); rintro e w56 ⟨v176, rfl, ho0, hb⟩; refine ⟨_, rfl, ?_⟩; have n0_ := Aside0.mk (Kd.R_below (by (with_reducible repeat (first | apply Kd.R_alloc | apply Kd.R_drewN | apply Kd.R_drew)); exact HO_4.out) hb); have n1_ := Aside0.mk (Kd.R_below (by (with_reducible repeat (first | apply Kd.R_alloc | apply Kd.R_drewN | apply Kd.R_drew)); exact HO_8.out) hb); have n2_ := Aside0.mk (Kd.R_lower ho0 (below_size (by repeat (first | (with_reducible first | exact HB.out | apply below_alloc | apply pw_below_drewN | apply below_drew1) | exact HB.out)))); have n3_ := Aside0.mk (below_step (by repeat (first | (with_reducible first | exact HB.out | apply below_alloc | apply pw_below_drewN | apply below_drew1) | exact HB.out)) hb); clear HO_4; clear HO_8; clear HB; have HO_4 := n0_; have HO_8 := n1_; have HO177 := n2_; have HB := n3_; clear n0_ n1_ n2_ n3_; (try clear hb); (try clear hb2); (try clear hk); (try clear hi); (try clear ho0); obtain ⟨Ao57, co57, eo57⟩ := Kd.R_slice HO177.out; subst eo57) | ((with_reducible refine gate_callee (f := 6) rfl ?_); refine goesL_ (some 88) rfl rfl Try.func6 (by kernel_rfl) rfl #[.slice Ao57 t175.length co57] rfl (by (try simp only [List.map_toArray, List.map_cons, List.map_nil]); first | done | rfl | (simp only [List.length_drop, List.length_take]; rfl)) ?_; (with_reducible refine (impl_ReadSave.calls kj27 _ _ t175 t178 t179 t180 _ ?side1 ?side2 A51.out).mono ?_); (case side1 => repeat (first | exact (Kd.R_reads' HO177.out).2.2 | (with_reducible refine Kd.C_alloc ?_ _) | (with_reducible refine Kd.C_drewN ?_ _) | (with_reducible refine Kd.C_drew ?_))); (case side2 => exact (Kd.R_reads' HO177.out).2.1); rintro e w58 ⟨v181, rfl, ho0, hb⟩; refine ⟨_, rfl, ?_⟩; have n0_ := Aside0.mk (Kd.R_elder' (by (with_reducible repeat (first | apply Kd.R_alloc | apply Kd.R_drewN | apply Kd.R_drew)); exact HO_4.out) (Kd.R_base ho0) hb); have n1_ := Aside0.mk (Kd.R_elder' (by (with_reducible repeat (first | apply Kd.R_alloc | apply Kd.R_drewN | apply Kd.R_drew)); exact HO_8.out) (Kd.R_base ho0) hb); have n2_ := Aside0.mk (Kd.R_below (by (with_reducible repeat (first | apply Kd.R_alloc | apply Kd.R_drewN | apply Kd.R_drew)); exact HO177.out) hb); have n3_ := Aside0.mk (Kd.R_lower (Kd.R_new' (Kd.R_new' ho0 (Kd.R_lt (by (with_reducible repeat (first | apply Kd.R_alloc | apply Kd.R_drewN | apply Kd.R_drew)); exact HO_4.out))) (Kd.R_lt (by (with_reducible repeat (first | apply Kd.R_alloc | apply Kd.R_drewN | apply Kd.R_drew)); exact HO_8.out))) (below_size (by repeat (first | (with_reducible first | exact HB.out | apply below_alloc | apply pw_below_drewN | apply below_drew1) | exact HB.out)))); have n4_ := Aside0.mk (below_step (by repeat (first | (with_reducible first | exact HB.out | apply below_alloc | apply pw_below_drewN | apply below_drew1) | exact HB.out)) hb); clear HO_4; clear HO_8; clear HO177; clear HB; have HO_4 := n0_; have HO_8 := n1_; have HO177 := n2_; have HO182 := n3_; have HB := n4_; clear n0_ n1_ n2_ n3_ n4_; (try clear hb); (try clear hb2); (try clear hk); (try clear hi); (try clear ho0)))
           (try simp only [Act.put, List.setIfInBounds_toArray, List.set_cons_zero, List.set_cons_succ])
           go_cut [105] (fun v105 wc => ∃ (kq : Nat) (x105_51 : Bool), v105 = .bool x105_51 ∧ Aside0 (laws_FnExactReadSave.j2 kq t173 t172 x105_51 = some r) ∧ Aside0 (kq ≤ kj27) ∧ Aside0 (Kd.R k41 41 wc w.heap.size (fun _ => True) (.slice Ao53 t160.length co53) t173) ∧ Aside0 (Below w.heap.size w wc))
           case first =>
            have H := HC52.out
            clear HC52
            by_cases c59 : t178 = t151
            ·rw [if_pos c59] at H
             have c59b0 : (t178 == t151) = true := beq_iff_eq.mpr c59
             have c59b1 : (t178 != t151) = false := bne_eq_false_iff_eq.mpr c59
             clear c59
             (first | rw [c59b0] | (simp only [i64_w, i32_w]; rw [c59b0]) | (rw [c59b2]; simp only [Bool.not_false, Bool.not_true]) | skip)
             replace H := Option.bind_eq_some_iff.mp H
             obtain ⟨t183, A600, H⟩ := H
             replace H : (if t183 = true then (laws_FnExactReadSave.j2 kj27 t173 t172 (t180 != t153)) else (laws_FnExactReadSave.j2 kj27 t173 t172 true)) = some r := H
             have A60 := Aside0.mk A600
             clear A600
             by_cases c61 : t183 = true
             ·subst c61
              have H1 : (laws_FnExactReadSave.j2 kj27 t173 t172 (t180 != t153)) = some r := by rw [if_pos rfl] at H; exact H
              clear H
              have H := H1
              clear H1
              have H' := Aside0.mk H
              clear H
              obtain ⟨Ao62, co62, eo62⟩ := Kd.R_slice HO182.out
              subst eo62
              obtain ⟨Ao63, co63, eo63⟩ := Kd.R_slice HO_4.out
              subst eo63
              go_wp2_with (first | (go_at_call 7; (with_reducible refine (laws_eqValueS.calls kj27 _ _ t179 _ _ t152 true _ ?side1 ?side2 ?side3 ?side4 A60.out).mono ?_); (case side1 => repeat (first | exact (Kd.R_reads' HO182.out).2.2 | (with_reducible refine Kd.C_alloc ?_ _) | (with_reducible refine Kd.C_drewN ?_ _) | (with_reducible refine Kd.C_drew ?_))); (case side2 => exact (Kd.R_reads' HO182.out).2.1); (case side3 => repeat (first | exact (Kd.R_reads' HO_4.out).2.2 | (with_reducible refine Kd.C_alloc ?_ _) | (with_reducible refine Kd.C_drewN ?_ _) | (with_reducible refine Kd.C_drew ?_))); (case side4 => exact (Kd.R_reads' HO_4.out).2.1); rintro e w64 ⟨rfl, hb⟩; have n0_ := Aside0.mk (Kd.R_below (by (with_reducible repeat (first | apply Kd.R_alloc | apply Kd.R_drewN | apply Kd.R_drew)); exact HO_4.out) hb); have n1_ := Aside0.mk (Kd.R_below (by (with_reducible repeat (first | apply Kd.R_alloc | apply Kd.R_drewN | apply Kd.R_drew)); exact HO_8.out) hb); have n2_ := Aside0.mk (Kd.R_below (by (with_reducible repeat (first | apply Kd.R_alloc | apply Kd.R_drewN | apply Kd.R_drew)); exact HO177.out) hb); have n3_ := Aside0.mk (Kd.R_below (by (with_reducible repeat (first | apply Kd.R_alloc | apply Kd.R_drewN | apply Kd.R_drew)); exact HO182.out) hb); have n4_ := Aside0.mk (below_step (by repeat (first | (with_reducible first | exact HB.out | apply below_alloc | apply pw_below_drewN | apply below_drew1) | exact HB.out)) hb); clear HO_4; clear HO_8; clear HO177; clear HO182; clear HB; have HO_4 := n0_; have HO_8 := n1_; have HO177 := n2_; have HO182 := n3_; have HB := n4_; clear n0_ n1_ n2_ n3_ n4_; (try clear hb); (try clear hb2); (try clear hk); (try clear hi)))
              go_meet
              case rel => exact ⟨_, ((t180 != t153)), (by first | rfl | (simp; done) | (simp [*]; done) | exact not_isEmpty _ | exact (not_isEmpty _).symm | exact is_empty _ | exact (is_empty _).symm), H', ⟨by have := HJ6.out; have := HJ27.out; first | omega | exact Nat.le_refl _⟩, ⟨by (with_reducible repeat (first | apply Kd.R_alloc | apply Kd.R_drewN | apply Kd.R_drew)); exact Kd.R_mono HO_8.out (fun _ hk => trivial)⟩, ⟨by repeat (first | (with_reducible first | exact HB.out | apply below_alloc | apply pw_below_drewN | apply below_drew1) | exact HB.out)⟩⟩
             ·replace c61 := Bool.eq_false_iff.mpr c61
              subst c61
              have H1 : (laws_FnExactReadSave.j2 kj27 t173 t172 true) = some r := by rw [if_neg (show ¬ (false = true) by decide)] at H; exact H
              clear H
              have H := H1
              clear H1
              have H' := Aside0.mk H
              clear H
              obtain ⟨Ao65, co65, eo65⟩ := Kd.R_slice HO182.out
              subst eo65
              obtain ⟨Ao66, co66, eo66⟩ := Kd.R_slice HO_4.out
              subst eo66
              go_wp2_with (first | (go_at_call 7; (with_reducible refine (laws_eqValueS.calls kj27 _ _ t179 _ _ t152 false _ ?side1 ?side2 ?side3 ?side4 A60.out).mono ?_); (case side1 => repeat (first | exact (Kd.R_reads' HO182.out).2.2 | (with_reducible refine Kd.C_alloc ?_ _) | (with_reducible refine Kd.C_drewN ?_ _) | (with_reducible refine Kd.C_drew ?_))); (case side2 => exact (Kd.R_reads' HO182.out).2.1); (case side3 => repeat (first | exact (Kd.R_reads' HO_4.out).2.2 | (with_reducible refine Kd.C_alloc ?_ _) | (with_reducible refine Kd.C_drewN ?_ _) | (with_reducible refine Kd.C_drew ?_))); (case side4 => exact (Kd.R_reads' HO_4.out).2.1); rintro e w67 ⟨rfl, hb⟩; have n0_ := Aside0.mk (Kd.R_below (by (with_reducible repeat (first | apply Kd.R_alloc | apply Kd.R_drewN | apply Kd.R_drew)); exact HO_4.out) hb); have n1_ := Aside0.mk (Kd.R_below (by (with_reducible repeat (first | apply Kd.R_alloc | apply Kd.R_drewN | apply Kd.R_drew)); exact HO_8.out) hb); have n2_ := Aside0.mk (Kd.R_below (by (with_reducible repeat (first | apply Kd.R_alloc | apply Kd.R_drewN | apply Kd.R_drew)); exact HO177.out) hb); have n3_ := Aside0.mk (Kd.R_below (by (with_reducible repeat (first | apply Kd.R_alloc | apply Kd.R_drewN | apply Kd.R_drew)); exact HO182.out) hb); have n4_ := Aside0.mk (below_step (by repeat (first | (with_reducible first | exact HB.out | apply below_alloc | apply pw_below_drewN | apply below_drew1) | exact HB.out)) hb); clear HO_4; clear HO_8; clear HO177; clear HO182; clear HB; have HO_4 := n0_; have HO_8 := n1_; have HO177 := n2_; have HO182 := n3_; have HB := n4_; clear n0_ n1_ n2_ n3_ n4_; (try clear hb); (try clear hb2); (try clear hk); (try clear hi)))
              go_meet
              case rel => exact ⟨_, (true), (by first | rfl | (simp; done) | (simp [*]; done) | exact not_isEmpty _ | exact (not_isEmpty _).symm | exact is_empty _ | exact (is_empty _).symm), H', ⟨by have := HJ6.out; have := HJ27.out; first | omega | exact Nat.le_refl _⟩, ⟨by (with_reducible repeat (first | apply Kd.R_alloc | apply Kd.R_drewN | apply Kd.R_drew)); exact Kd.R_mono HO_8.out (fun _ hk => trivial)⟩, ⟨by repeat (first | (with_reducible first | exact HB.out | apply below_alloc | apply pw_below_drewN | apply below_drew1) | exact HB.out)⟩⟩
            ·rw [if_neg c59] at H
             have c59b0 : (t178 == t151) = false := beq_eq_false_iff_ne.mpr c59
             have c59b1 : (t178 != t151) = true := bne_iff_ne.mpr c59
             (first | rw [c59b0] | (simp only [i64_w, i32_w]; rw [c59b0]) | (rw [c59b2]; simp only [Bool.not_false, Bool.not_true]) | skip)
             have H' := Aside0.mk H
             clear H
             go_wp2
             go_meet
             case rel => exact ⟨_, (true), (by first | rfl | (simp; done) | (simp [*]; done) | exact not_isEmpty _ | exact (not_isEmpty _).symm | exact is_empty _ | exact (is_empty _).symm), H', ⟨by have := HJ6.out; have := HJ27.out; first | omega | exact Nat.le_refl _⟩, ⟨by (with_reducible repeat (first | apply Kd.R_alloc | apply Kd.R_drewN | apply Kd.R_drew)); exact Kd.R_mono HO_8.out (fun _ hk => trivial)⟩, ⟨by repeat (first | (with_reducible first | exact HB.out | apply below_alloc | apply pw_below_drewN | apply below_drew1) | exact HB.out)⟩⟩
           case rest =>
            clear HC52
            try clear c1
            try clear c2
            try clear c2b0
            try clear c2b1
            try clear p2
            try clear c3
            try clear c4
            try clear c5
            try clear c6
            try clear c8
            try clear c9
            try clear c10
            try clear c11
            try clear c14
            try clear c14b0
            try clear c14b1
            try clear c14b2
            try clear c16
            try clear c23
            try clear c26
            try clear c32
            try clear c32b0
            try clear c32b2
            try clear c33
            try clear c33b0
            try clear c33b1
            try clear c35
            try clear c42
            try clear c45
            try clear c45b0
            try clear c49
            try clear c49b0
            try clear c49b1
            try clear c59
            try clear c59b0
            try clear c59b1
            try clear c59b2
            try clear c61
            try clear p2
            obtain ⟨kq, x105_51, rfl, HA, HJ51, HO_8, HB⟩ := hcut
            have hl8_51 := (Kd.R_reads' HO_8.out).1
            rw [hl8_51] at HO_8
            (try simp only [hl8_51])
            cases kq with
            | zero => exact absurd HA.out (by simp [laws_FnExactReadSave.j2])
            | succ kj51 =>
             have H := HA.out
             clear HA
             simp only [laws_FnExactReadSave.j2] at H
             by_cases c68 : x105_51 = true
             ·subst c68
              have H1 : (some false) = some r := by rw [if_pos rfl] at H; exact H
              clear H
              have H := H1
              clear H1
              obtain rfl := Option.some.inj H
              go_wp2
              go_ret
              exact ⟨by first | rfl | (simp [errW_none, errW_some] <;> rfl) | (simp [*, errW_none, errW_some] <;> rfl), by repeat (first | (with_reducible first | exact HB.out | apply below_alloc | apply pw_below_drewN | apply below_drew1) | exact HB.out)⟩
             ·replace c68 := Bool.eq_false_iff.mpr c68
              subst c68
              have H1 : ((laws_heldValueS.f kj51 t173 1).bind fun t184 => (if t184 < 0 then (some false) else (if t184 = t172 then (some true) else (some false)))) = some r := by rw [if_neg (show ¬ (false = true) by decide)] at H; exact H
              clear H
              have H := H1
              clear H1
              replace H := Option.bind_eq_some_iff.mp H
              obtain ⟨t184, A690, H⟩ := H
              replace H : (if t184 < 0 then (some false) else (if t184 = t172 then (some true) else (some false))) = some r := H
              have A69 := Aside0.mk A690
              clear A690
              by_cases c70 : t184 < 0
              ·rw [if_pos c70] at H
               have c70b0 : decide (t184 < 0) = true := decide_eq_true c70
               clear c70
               obtain rfl := Option.some.inj H
               go_wp2_with (first | ((with_reducible refine gate_callee (f := 11) rfl ?_); refine goesL_ (some 108) rfl rfl Try.func11 (by kernel_rfl) rfl #[.slice Ao53 t173.length co53, .int .i64 1] rfl (by (try simp only [List.map_toArray, List.map_cons, List.map_nil]); first | done | rfl | (simp only [List.length_drop, List.length_take]; rfl)) ?_; (with_reducible refine (laws_heldValueS.calls kj51 _ _ t173 1 t184 _ ?side1 ?side2 A69.out).mono ?_); (case side1 => repeat (first | exact (Kd.R_reads' HO_8.out).2.2 | (with_reducible refine Kd.C_alloc ?_ _) | (with_reducible refine Kd.C_drewN ?_ _) | (with_reducible refine Kd.C_drew ?_))); (case side2 => exact (Kd.R_reads' HO_8.out).2.1); rintro e w71 ⟨rfl, hb⟩; refine ⟨_, rfl, ?_⟩; have n0_ := Aside0.mk (Kd.R_below (by (with_reducible repeat (first | apply Kd.R_alloc | apply Kd.R_drewN | apply Kd.R_drew)); exact HO_8.out) hb); have n1_ := Aside0.mk (below_step (by repeat (first | (with_reducible first | exact HB.out | apply below_alloc | apply pw_below_drewN | apply below_drew1) | exact HB.out)) hb); clear HO_8; clear HB; have HO_8 := n0_; have HB := n1_; clear n0_ n1_; (try clear hb); (try clear hb2); (try clear hk); (try clear hi)))
               go_ret
               exact ⟨by first | rfl | (simp [errW_none, errW_some] <;> rfl) | (simp [*, errW_none, errW_some] <;> rfl), by repeat (first | (with_reducible first | exact HB.out | apply below_alloc | apply pw_below_drewN | apply below_drew1) | exact HB.out)⟩
              ·rw [if_neg c70] at H
               have c70b0 : decide (t184 < 0) = false := decide_eq_false c70
               clear c70
               by_cases c72 : t184 = t172
               ·rw [if_pos c72] at H
                have c72b0 : (t184 == t172) = true := beq_iff_eq.mpr c72
                have c72b1 : (t184 != t172) = false := bne_eq_false_iff_eq.mpr c72
                clear c72
                obtain rfl := Option.some.inj H
                go_wp2_with (first | ((with_reducible refine gate_callee (f := 11) rfl ?_); refine goesL_ (some 108) rfl rfl Try.func11 (by kernel_rfl) rfl #[.slice Ao53 t173.length co53, .int .i64 1] rfl (by (try simp only [List.map_toArray, List.map_cons, List.map_nil]); first | done | rfl | (simp only [List.length_drop, List.length_take]; rfl)) ?_; (with_reducible refine (laws_heldValueS.calls kj51 _ _ t173 1 t184 _ ?side1 ?side2 A69.out).mono ?_); (case side1 => repeat (first | exact (Kd.R_reads' HO_8.out).2.2 | (with_reducible refine Kd.C_alloc ?_ _) | (with_reducible refine Kd.C_drewN ?_ _) | (with_reducible refine Kd.C_drew ?_))); (case side2 => exact (Kd.R_reads' HO_8.out).2.1); rintro e w73 ⟨rfl, hb⟩; refine ⟨_, rfl, ?_⟩; have n0_ := Aside0.mk (Kd.R_below (by (with_reducible repeat (first | apply Kd.R_alloc | apply Kd.R_drewN | apply Kd.R_drew)); exact HO_8.out) hb); have n1_ := Aside0.mk (below_step (by repeat (first | (with_reducible first | exact HB.out | apply below_alloc | apply pw_below_drewN | apply below_drew1) | exact HB.out)) hb); clear HO_8; clear HB; have HO_8 := n0_; have HB := n1_; clear n0_ n1_; (try clear hb); (try clear hb2); (try clear hk); (try clear hi)))
                go_ret
                exact ⟨by first | rfl | (simp [errW_none, errW_some] <;> rfl) | (simp [*, errW_none, errW_some] <;> rfl), by repeat (first | (with_reducible first | exact HB.out | apply below_alloc | apply pw_below_drewN | apply below_drew1) | exact HB.out)⟩
               ·rw [if_neg c72] at H
                have c72b0 : (t184 == t172) = false := beq_eq_false_iff_ne.mpr c72
                have c72b1 : (t184 != t172) = true := bne_iff_ne.mpr c72
                obtain rfl := Option.some.inj H
                go_wp2_with (first | ((with_reducible refine gate_callee (f := 11) rfl ?_); refine goesL_ (some 108) rfl rfl Try.func11 (by kernel_rfl) rfl #[.slice Ao53 t173.length co53, .int .i64 1] rfl (by (try simp only [List.map_toArray, List.map_cons, List.map_nil]); first | done | rfl | (simp only [List.length_drop, List.length_take]; rfl)) ?_; (with_reducible refine (laws_heldValueS.calls kj51 _ _ t173 1 t184 _ ?side1 ?side2 A69.out).mono ?_); (case side1 => repeat (first | exact (Kd.R_reads' HO_8.out).2.2 | (with_reducible refine Kd.C_alloc ?_ _) | (with_reducible refine Kd.C_drewN ?_ _) | (with_reducible refine Kd.C_drew ?_))); (case side2 => exact (Kd.R_reads' HO_8.out).2.1); rintro e w74 ⟨rfl, hb⟩; refine ⟨_, rfl, ?_⟩; have n0_ := Aside0.mk (Kd.R_below (by (with_reducible repeat (first | apply Kd.R_alloc | apply Kd.R_drewN | apply Kd.R_drew)); exact HO_8.out) hb); have n1_ := Aside0.mk (below_step (by repeat (first | (with_reducible first | exact HB.out | apply below_alloc | apply pw_below_drewN | apply below_drew1) | exact HB.out)) hb); clear HO_8; clear HB; have HO_8 := n0_; have HB := n1_; clear n0_ n1_; (try clear hb); (try clear hb2); (try clear hk); (try clear hi)))
                go_ret
                exact ⟨by first | rfl | (simp [errW_none, errW_some] <;> rfl) | (simp [*, errW_none, errW_some] <;> rfl), by repeat (first | (with_reducible first | exact HB.out | apply below_alloc | apply pw_below_drewN | apply below_drew1) | exact HB.out)⟩
          ·rw [if_neg c49] at H
           have c49b0 : (t174 == t172) = false := beq_eq_false_iff_ne.mpr c49
           have c49b1 : (t174 != t172) = true := bne_iff_ne.mpr c49
           obtain rfl := Option.some.inj H
           obtain ⟨Ao75, co75, eo75⟩ := Kd.R_slice HO_8.out
           subst eo75
           go_wp2_with (first | ((with_reducible refine gate_callee (f := 10) rfl ?_); refine goesL_ (some 76) rfl rfl Try.func10 (by kernel_rfl) rfl #[.slice Ao75 t160.length co75, .int .i64 1] rfl (by (try simp only [List.map_toArray, List.map_cons, List.map_nil]); first | done | rfl | (simp only [List.length_drop, List.length_take]; rfl)) ?_; (with_reducible refine (laws_markValueS.calls kj27 (fun k_ => some k_ = (.slice Ao75 t160.length co75 : Value).ownBlock) (.slice Ao75 t160.length co75) t160 1 t172 t173 w _ ?side1 ?side2 A43.out).mono ?_); (case side1 => repeat (first | (with_reducible first | exact HB.out | apply below_alloc | apply pw_below_drewN | apply below_drew1) | exact HB.out)); (case side2 => exact Kd.R_tight rfl HO_8.out); rintro e w76 ⟨rfl, hy0, hb, hkp⟩; refine ⟨_, rfl, ?_⟩; have n0_ := Aside0.mk (Kd.R_mono (ok' := fun k_ => some k_ ≠ (.slice Ao75 t160.length co75 : Value).ownBlock) (Kd.R_keptB (HO_4.out) hkp (fun k_ hk_ hs_ => (hk_) hs_)) (fun k_ hk_ => hk_.1)); have n1_ := Aside0.mk (Kd.R_reok rfl hy0 (fun k_ e_ => HO_8.out.1 k_ e_)); have n2_ := Aside0.mk (hb); clear HO_4; clear HO_8; clear HB; have HO_4 := n0_; have HO_8 := n1_; have HB := n2_; clear n0_ n1_ n2_; (try clear hb); (try clear hkp); (try clear hg_); (try clear hp_); (try clear hy0)) | ((with_reducible refine gate_callee (f := 11) rfl ?_); refine goesL_ (some 79) rfl rfl Try.func11 (by kernel_rfl) rfl #[.slice Ao75 t173.length co75, .int .i64 1] rfl (by (try simp only [List.map_toArray, List.map_cons, List.map_nil]); first | done | (rw [show t173.length = t160.length from (Kd.R_reads' HO_8.out).1.symm] <;> rfl) | rfl | (simp only [List.length_drop, List.length_take]; rfl)) ?_; (with_reducible refine (laws_heldValueS.calls kj27 _ _ t173 1 t174 _ ?side1 ?side2 A44.out).mono ?_); (case side1 => repeat (first | exact (Kd.R_reads' HO_8.out).2.2 | (with_reducible refine Kd.C_alloc ?_ _) | (with_reducible refine Kd.C_drewN ?_ _) | (with_reducible refine Kd.C_drew ?_))); (case side2 => rw [show t173.length = t160.length from (Kd.R_reads' HO_8.out).1.symm]; exact (Kd.R_reads' HO_8.out).2.1); rintro e w77 ⟨rfl, hb⟩; refine ⟨_, rfl, ?_⟩; have n0_ := Aside0.mk (Kd.R_below (by (with_reducible repeat (first | apply Kd.R_alloc | apply Kd.R_drewN | apply Kd.R_drew)); exact HO_4.out) hb); have n1_ := Aside0.mk (Kd.R_below (by (with_reducible repeat (first | apply Kd.R_alloc | apply Kd.R_drewN | apply Kd.R_drew)); exact HO_8.out) hb); have n2_ := Aside0.mk (below_step (by repeat (first | (with_reducible first | exact HB.out | apply below_alloc | apply pw_below_drewN | apply below_drew1) | exact HB.out)) hb); clear HO_4; clear HO_8; clear HB; have HO_4 := n0_; have HO_8 := n1_; have HB := n2_; clear n0_ n1_ n2_; (try clear hb); (try clear hb2); (try clear hk); (try clear hi)))
           go_ret
           exact ⟨by first | rfl | (simp [errW_none, errW_some] <;> rfl) | (simp [*, errW_none, errW_some] <;> rfl), by repeat (first | (with_reducible first | exact HB.out | apply below_alloc | apply pw_below_drewN | apply below_drew1) | exact HB.out)⟩
     ·replace c26 := Bool.eq_false_iff.mpr c26
      subst c26
      have H1 : (some false) = some r := by rw [if_neg (show ¬ (false = true) by decide)] at H; exact H
      clear H
      have H := H1
      clear H1
      obtain rfl := Option.some.inj H
      go_wp2_with (first | ((with_reducible refine gate_callee (f := 5) rfl ?_); refine goesL_ (some 50) rfl rfl Try.func5 (by kernel_rfl) rfl #[.slice A0 l0.length c0] rfl (by (try simp only [List.map_toArray, List.map_cons, List.map_nil]); first | done | rfl | (simp only [List.length_drop, List.length_take]; rfl)) ?_; (with_reducible refine (laws_toByteS.calls kj6 _ _ l0 t165 _ ?side1 ?side2 A24.out).mono ?_); (case side1 => repeat (first | exact (Kd.C_below HR0.out HB.out) | (with_reducible refine Kd.C_alloc ?_ _) | (with_reducible refine Kd.C_drewN ?_ _) | (with_reducible refine Kd.C_drew ?_))); (case side2 => exact HC0.out); rintro e w78 ⟨v166, rfl, ho0, hb⟩; refine ⟨_, rfl, ?_⟩; have n0_ := Aside0.mk (Kd.R_below (by (with_reducible repeat (first | apply Kd.R_alloc | apply Kd.R_drewN | apply Kd.R_drew)); exact HO_4.out) hb); have n1_ := Aside0.mk (Kd.R_elder' (by (with_reducible repeat (first | apply Kd.R_alloc | apply Kd.R_drewN | apply Kd.R_drew)); exact HO_6.out) (Kd.R_base ho0) hb); have n2_ := Aside0.mk (Kd.R_below (by (with_reducible repeat (first | apply Kd.R_alloc | apply Kd.R_drewN | apply Kd.R_drew)); exact HO_8.out) hb); have n3_ := Aside0.mk (Kd.R_lower (Kd.R_new' ho0 (Kd.R_lt (by (with_reducible repeat (first | apply Kd.R_alloc | apply Kd.R_drewN | apply Kd.R_drew)); exact HO_6.out))) (below_size (by repeat (first | (with_reducible first | exact HB.out | apply below_alloc | apply pw_below_drewN | apply below_drew1) | exact HB.out)))); have n4_ := Aside0.mk (below_step (by repeat (first | (with_reducible first | exact HB.out | apply below_alloc | apply pw_below_drewN | apply below_drew1) | exact HB.out)) hb); clear HO_4; clear HO_6; clear HO_8; clear HB; have HO_4 := n0_; have HO_6 := n1_; have HO_8 := n2_; have HO167 := n3_; have HB := n4_; clear n0_ n1_ n2_ n3_ n4_; (try clear hb); (try clear hb2); (try clear hk); (try clear hi); (try clear ho0); obtain ⟨Ao79, co79, eo79⟩ := Kd.R_slice HO167.out; subst eo79) | ((with_reducible refine gate_callee (f := 8) rfl ?_); refine goesL_ (some 51) rfl rfl Try.func8 (by kernel_rfl) rfl #[.slice Ao12 t156.length co12, .slice Ao79 t165.length co79] rfl (by (try simp only [List.map_toArray, List.map_cons, List.map_nil]); first | done | rfl | (simp only [List.length_drop, List.length_take]; rfl)) ?_; (with_reducible refine (laws_eqByteS.calls kj6 _ _ t156 _ _ t165 false _ ?side1 ?side2 ?side3 ?side4 A25.out).mono ?_); (case side1 => repeat (first | exact (Kd.R_reads' HO_6.out).2.2 | (with_reducible refine Kd.C_alloc ?_ _) | (with_reducible refine Kd.C_drewN ?_ _) | (with_reducible refine Kd.C_drew ?_))); (case side2 => exact (Kd.R_reads' HO_6.out).2.1); (case side3 => repeat (first | exact (Kd.R_reads' HO167.out).2.2 | (with_reducible refine Kd.C_alloc ?_ _) | (with_reducible refine Kd.C_drewN ?_ _) | (with_reducible refine Kd.C_drew ?_))); (case side4 => exact (Kd.R_reads' HO167.out).2.1); rintro e w' ⟨rfl, ⟨nd, rfl⟩⟩; refine ⟨_, rfl, ?_⟩))
      go_ret
      exact ⟨by first | rfl | (simp [errW_none, errW_some] <;> rfl) | (simp [*, errW_none, errW_some] <;> rfl), by repeat (first | (with_reducible first | exact HB.out | apply below_alloc | apply pw_below_drewN | apply below_drew1) | exact HB.out)⟩
def laws_FnExactReadSave.Pure : Prop := ∀ (l0 : List Int), l0.length ≤ maxLen → l0.length * 1 ≤ 140737488351232 → (∀ x ∈ l0, (Lit.int .u8 x).wf = true) → ∃ k, laws_FnExactReadSave.f k l0 = some true
end Go.Proofs.Ytndgkdnbacoenaa.PFnExactReadSave
namespace Go.Proofs.YtndgkdnbacoenaaO
open Go.ChangeShapes Go.WideShapes Go.Proofs.YtndgkdnbacoenaaW.PrintWords Go.RowKit
def InU8 (n : Int) : Prop := 0 ≤ n ∧ n ≤ 255
def Opens {α : Type} (P : Program) (t : TypeId) (d : Kd α) (g : α → Prop) : Prop :=
  ∀ {H : Type} (enc : TypeId × Value → H) (w : World) (fuel : Nat) (cs : List Value) (y : DataW H) (ps : List MemPlace),
    DataW.trod enc P w 0 (fun _ => true) true fuel t cs = some (y, ps) → (∀ n ∈ y.weights P t, n ≤ reachBytes) → ∃ x, d.K w x cs ∧ g x
theorem Opens.imp {α : Type} {P : Program} {t : TypeId} {d : Kd α} {g g' : α → Prop} (h : Opens P t d g) (k : ∀ x, g x → g' x) : Opens P t d g' := by
  intro H enc w fuel cs y ps ht hw
  obtain ⟨x, hx, hg⟩ := h enc w fuel cs y ps ht hw
  exact ⟨x, hx, k x hg⟩
theorem opens_int {P : Program} {t : TypeId} {k : IntKind} (ht : P.underlying t = some (.int k)) : Opens P t (Kd.int k) (fun n => (Lit.int k n).wf = true) := by
  intro H enc w fuel cs y ps h _
  obtain ⟨n, rfl, _, hw⟩ := DataW.trod_int ht h
  exact ⟨n, rfl, hw⟩
theorem wf_u8 {n : Int} (h : (Lit.int .u8 n).wf = true) : InU8 n := bounds_u8 h
theorem opens_u8 {P : Program} {t : TypeId} (ht : P.underlying t = some (.int .u8)) : Opens P t (Kd.int .u8) InU8 := Opens.imp (opens_int ht) fun _ h => wf_u8 h
theorem exists_list {α : Type} (p : Nat → α → Prop) : ∀ n : Nat, (∀ i, i < n → ∃ x, p i x) → ∃ xs : List α, xs.length = n ∧ ∀ i x, xs[i]? = some x → p i x
  | 0, _ => ⟨[], rfl, fun i x h => by simp at h⟩
  | n + 1, h => by
    obtain ⟨xs, hl, hx⟩ := exists_list p n (fun i hi => h i (by omega))
    obtain ⟨x, hp⟩ := h n (by omega)
    refine ⟨xs ++ [x], by simp [hl], fun i y hy => ?_⟩
    rcases Nat.lt_or_ge i xs.length with hi | hi
    · rw [List.getElem?_append_left hi] at hy
      exact hx i y hy
    · have : i = n := by
        have := (List.getElem?_eq_some_iff.1 hy).1
        rw [List.length_append, List.length_singleton] at this
        omega
      subst this
      rw [List.getElem?_append_right hi] at hy
      rw [hl] at hy
      simp at hy
      subst hy
      exact hp
theorem add_add (ad : Addr) (i j : Nat) : (ad.add i).add j = ad.add (i + j) := by
  unfold Addr.add
  by_cases h1 : i = 0 <;> by_cases h2 : j = 0 <;> simp [h1, h2, Nat.add_assoc]
theorem weightsAll_mem {H : Type} {P : Program} {e : TypeId} : ∀ {l : List (DataW H)} {d : DataW H}, d ∈ l → ∀ n ∈ d.weights P e, n ∈ DataW.weightsAll P e l
  | [], d, h, _, _ => by simp at h
  | x :: r, d, h, n, hn => by
    simp only [DataW.weightsAll, List.mem_append]
    rcases List.mem_cons.1 h with rfl | h
    · exact .inl hn
    · exact .inr (weightsAll_mem h n hn)
theorem opens_slice {α : Type} {P : Program} {t e : TypeId} {d : Kd α} {g : α → Prop} {B : Nat} (ht : P.underlying t = some (.slice e)) (hs : P.cellsOf e = d.sz) (hB : P.bytesOf e = B) (h : Opens P e d g) :
    Opens P t (Kd.slice e d) (fun xs => xs.length * B ≤ 140737488351232 ∧ ∀ x ∈ xs, g x) := by
  intro H enc w fuel cs y ps hy hw
  rcases DataW.trod_slice ht hy with ⟨rfl, _⟩ | ⟨a, len, cap, elems, rest, n, rfl, rfl, hx, _, hlc, hcm, hel, hget, _, _⟩
  · exact ⟨[], ⟨none, 0, rfl, Nat.le_refl _, Kd.C_nil d w⟩, by simp⟩
  · obtain ⟨rfl, _⟩ := Prod.mk.inj hx
    simp only [DataW.weights, ht] at hw
    have hlen : len * B ≤ 140737488351232 := by
      have := hw _ List.mem_cons_self
      simp only [List.length_map, hB] at this
      have h2 : len * B ≤ (elems.length + rest.length) * B := Nat.mul_le_mul_right _ (by omega)
      exact Nat.le_trans h2 this
    have key : ∀ i, i < len → ∃ x, (∃ c, c.length = d.sz ∧ d.K w x c ∧ ∀ j u, c[j]? = some u → w.cell? (a.add (i * d.sz + j)) = some u) ∧ g x := by
      intro i hi
      have hg := hget i hi
      rw [List.getElem?_eq_getElem (by omega), Option.bind_eq_some_iff] at hg
      obtain ⟨c, hc, hd⟩ := hg
      obtain ⟨_, hcl, hcell⟩ := World.cells?_some hc
      obtain ⟨x, hK, hgx⟩ := h enc w n c _ _ hd (fun m hm => hw m (List.mem_cons_of_mem _ (List.mem_append_left _ (weightsAll_mem (List.mem_map_of_mem (List.getElem_mem _)) m hm))))
      refine ⟨x, ⟨c, hcl.trans hs, hK, fun j u hj => ?_⟩, hgx⟩
      have hjl : j < P.cellsOf e := by
        have := (List.getElem?_eq_some_iff.1 hj).1
        omega
      have := hcell j hjl
      rw [add_add, hj, hs] at this
      exact this
    obtain ⟨xs, hxl, hxs⟩ := exists_list _ len key
    refine ⟨xs, ⟨some a, cap, by rw [hxl], by omega, hxl ▸ ⟨hxl, by simp only [maxLen] at hcm; omega, fun _ => ⟨a, rfl, fun j p hp => (hxs j p hp).1⟩⟩⟩, by rw [hxl]; exact hlen, fun x hx => ?_⟩
    obtain ⟨i, hi, rfl⟩ := List.getElem_of_mem hx
    exact (hxs i _ (List.getElem?_eq_getElem hi)).2
theorem weights_of {H : Type} {P : Program} {ts : List TypeId} {ds : List (DataW H)} {j : Nat} {t : TypeId} {d : DataW H} (hsz : (DataW.weightsEach P ts ds).all (· ≤ reachBytes) = true) (ht : ts[j]? = some t) (hd : ds[j]? = some d) : ∀ n ∈ d.weights P t, n ≤ reachBytes := by
  intro n hn
  have := List.all_eq_true.1 hsz n (DataW.weights_mem_each ht hd n hn)
  simpa using this
theorem open_slice {α H : Type} {enc : TypeId × Value → H} {P : Program} {W : World} {t e : TypeId} {d : Kd α} {g : List α → Prop} {a : Option Addr} {len cap : Nat} {y : DataW H} {ps : List MemPlace} (h : Opens P t (Kd.slice e d) g)
    (hy : DataW.Trod enc P W 0 (fun _ => true) true t (.slice a len cap) y ps) (hw : ∀ n ∈ y.weights P t, n ≤ reachBytes) : ∃ xs : List α, len = xs.length ∧ xs.length ≤ cap ∧ d.C W a xs.length xs ∧ g xs := by
  obtain ⟨fuel, hf⟩ := hy
  obtain ⟨xs, ⟨A, c, he, hl, hC⟩, hg⟩ := h enc W fuel _ y ps hf hw
  have he' : Value.slice a len cap = .slice A xs.length c := by simpa [Value.cells] using he
  injection he' with h1 h2 h3
  subst h1 h2 h3
  exact ⟨xs, rfl, hl, hC, hg⟩
end Go.Proofs.YtndgkdnbacoenaaO
namespace Go.Proofs.Ytndgkdnbacoenaa.OFnExactReadSave
open Go.RowKit Go.Proofs.Ytndgkdnbacoenaa.PFnExactReadSave Go.Proofs.YtndgkdnbacoenaaW.PrintWords Go.Proofs.YtndgkdnbacoenaaO
end Go.Proofs.Ytndgkdnbacoenaa.OFnExactReadSave
namespace Go.Proofs.YtndgkdnbacoenaaO
open Go.RowKit Go.Proofs.YtndgkdnbacoenaaW.PrintWords Go.Proofs.YtndgkdnbacoenaaW.PrintLast Go.Proofs.YtndgkdnbacoenaaW.PrintMore
theorem w64 {n : Int} (h : -9223372036854775808 ≤ n) (k : n ≤ 9223372036854775807) : wrap64 n = n := by unfold wrap64; omega
theorem w64s (i : Nat) (h : i < 4611686018427387904) : wrap64 ((i : Int) + 1) = ((i + 1 : Nat) : Int) := by unfold wrap64; omega
theorem ev_eq {α : Type} {x : Option α} {r : α} (h : x = some r) : Ev (fun _ => x) r := ⟨0, fun _ _ => h⟩
theorem ev_some {α : Type} {x r : α} (h : x = r) : Ev (fun _ => some x) r := ⟨0, fun _ _ => by rw [h]⟩
theorem ev_pos {α : Type} {c : Prop} [Decidable c] {f g : Nat → Option α} {r : α} (h : c) (k : Ev f r) : Ev (fun n => if c then f n else g n) r := by
  obtain ⟨K, hK⟩ := k
  exact ⟨K, fun n hn => (if_pos h).trans (hK n hn)⟩
theorem ev_neg {α : Type} {c : Prop} [Decidable c] {f g : Nat → Option α} {r : α} (h : ¬ c) (k : Ev g r) : Ev (fun n => if c then f n else g n) r := by
  obtain ⟨K, hK⟩ := k
  exact ⟨K, fun n hn => (if_neg h).trans (hK n hn)⟩
theorem ev_ite {α : Type} {c : Prop} [Decidable c] {f g : Nat → Option α} {r : α} (h : c → Ev f r) (k : ¬ c → Ev g r) : Ev (fun n => if c then f n else g n) r := by
  by_cases hc : c
  · exact ev_pos hc (h hc)
  · exact ev_neg hc (k hc)
theorem ev_bindc {α β : Type} {x : Option α} {f : Nat → α → Option β} {a : α} {r : β} (h : x = some a) (k : Ev (fun n => f n a) r) : Ev (fun n => x.bind (f n)) r := by
  subst h; exact k
theorem ev_for {σ ρ : Type} (n : Nat) (L : Nat → Nat → σ → Option ρ) (I : Nat → σ → Prop) (Q : ρ → Prop)
    (hend : ∀ s, I n s → ∃ r, Ev (fun k => L k n s) r ∧ Q r)
    (hstep : ∀ i s, i < n → I i s → (∃ r, Ev (fun k => L k i s) r ∧ Q r) ∨ ∃ s', I (i + 1) s' ∧ ∀ r, Ev (fun k => L k (i + 1) s') r → Ev (fun k => L k i s) r) :
    ∀ i s, i ≤ n → I i s → ∃ r, Ev (fun k => L k i s) r ∧ Q r := by
  have key : ∀ d i s, i + d = n → I i s → ∃ r, Ev (fun k => L k i s) r ∧ Q r := by
    intro d
    induction d with
    | zero => intro i s hi h; obtain rfl : i = n := by omega
              exact hend s h
    | succ d ih =>
      intro i s hi h
      rcases hstep i s (by omega) h with h' | ⟨s', hI, hr⟩
      · exact h'
      · obtain ⟨r, hr', hQ⟩ := ih (i + 1) s' (by omega) hI
        exact ⟨r, hr r hr', hQ⟩
  intro i s hi h
  exact key (n - i) i s (by omega) h
theorem ev_for1 {σ ρ : Type} (n : Nat) (L : Nat → Nat → σ → Option ρ) (I : Nat → σ → Prop) (a : ρ)
    (hend : ∀ s, I n s → Ev (fun k => L k n s) a)
    (hstep : ∀ i s, i < n → I i s → Ev (fun k => L k i s) a ∨ ∃ s', I (i + 1) s' ∧ ∀ r, Ev (fun k => L k (i + 1) s') r → Ev (fun k => L k i s) r) :
    ∀ i s, i ≤ n → I i s → Ev (fun k => L k i s) a := by
  intro i s hi h
  obtain ⟨r, hr, rfl⟩ := ev_for n L I (fun r => r = a) (fun s hs => ⟨a, hend s hs, rfl⟩) (fun i s hi hs => (hstep i s hi hs).imp (fun h => ⟨a, h, rfl⟩) id) i s hi h
  exact hr
theorem rd_nat (xs : List Int) (i : Nat) : rd xs (i : Int) = xs.getD i 0 := by simp [rd]
theorem rd_get {xs : List Int} {i : Nat} (h : i < xs.length) : rd xs (i : Int) = xs[i] := by simp [rd, List.getD_eq_getElem?_getD, h]
theorem getD_get {α : Type} {d : α} {xs : List α} {i : Nat} (h : i < xs.length) : xs.getD (i : Int).toNat d = xs[i] := by simp [List.getD_eq_getElem?_getD, h]
theorem ev_copy {α β : Type} (L : Nat → List α → List β → Int → Option (List β)) (e : Nat → List α → Int → Option β) (g : α → β)
    (hL : ∀ k xs ys i, L (k + 1) xs ys i = if i < (xs.length : Int) then (if 0 ≤ i then (if i < (ys.length : Int) then ((e k xs i).bind fun v => L k xs (ys.set (i : Int).toNat v) (wrap64 (i + 1))) else none) else none) else some ys)
    (xs : List α) (hx : xs.length < 4611686018427387904) (he : ∀ i : Nat, ∀ h : i < xs.length, Ev (fun k => e k xs (i : Int)) (g xs[i])) (ys : List β) (hy : ys.length = xs.length) :
    Ev (fun k => L k xs ys 0) (xs.map g) := by
  refine ev_for1 xs.length (fun k i ys => L k xs ys (i : Int)) (fun i ys => ys.length = xs.length ∧ ∀ j, j < i → ys[j]? = (xs.map g)[j]?) (xs.map g) ?_ ?_ 0 ys (Nat.zero_le _) ⟨hy, fun j hj => by omega⟩
  · intro ys ⟨hl, h⟩
    refine Ev.step (fun k => hL k xs ys _) (ev_neg (by omega) (ev_some ?_))
    apply List.ext_getElem?
    intro j
    rcases Nat.lt_or_ge j xs.length with hj | hj
    · exact h j hj
    · rw [List.getElem?_eq_none (by omega), List.getElem?_eq_none (by simpa using hj)]
  · intro i ys hi ⟨hl, h⟩
    refine .inr ⟨ys.set i (g xs[i]), ⟨by simpa using hl, fun j hj => ?_⟩, fun r hr => ?_⟩
    · rcases Nat.lt_or_ge j i with hji | hji
      · rw [List.getElem?_set_ne (by omega)]
        exact h j hji
      · obtain rfl : j = i := by omega
        rw [List.getElem?_set_self (by omega), List.getElem?_map, List.getElem?_eq_getElem hi]
        rfl
    · refine Ev.step (fun k => hL k xs ys _) (ev_pos (by omega) (ev_pos (by omega) (ev_pos (by omega) (Ev.bind (he i hi) ?_))))
      rw [w64s i (by omega)]
      exact hr
theorem ev_alike {α β : Type} (L : Nat → List α → List β → Int → Option Bool) (e : Nat → List α → List β → Int → Option Bool) (g : α → β → Bool)
    (hL : ∀ k xs ys i, L (k + 1) xs ys i = if i < (xs.length : Int) then (if 0 ≤ i then (if i < (ys.length : Int) then ((e k xs ys i).bind fun v => if v = true then L k xs ys (wrap64 (i + 1)) else some false) else none) else none) else some true)
    (xs : List α) (ys : List β) (hx : xs.length < 4611686018427387904) (hy : ys.length = xs.length) (he : ∀ i : Nat, ∀ (h : i < xs.length) (h' : i < ys.length), Ev (fun k => e k xs ys (i : Int)) (g xs[i] ys[i]))
    (b : Bool) (hb : b = true ↔ ∀ i : Nat, ∀ (h : i < xs.length) (h' : i < ys.length), g xs[i] ys[i] = true) :
    Ev (fun k => L k xs ys 0) b := by
  refine ev_for1 xs.length (fun k i (_ : Unit) => L k xs ys (i : Int)) (fun i _ => ∀ j, j < i → ∀ (h : j < xs.length) (h' : j < ys.length), g xs[j] ys[j] = true) b ?_ ?_ 0 () (Nat.zero_le _) (fun j hj => by omega)
  · intro _ h
    refine Ev.step (fun k => hL k xs ys _) (ev_neg (by omega) (ev_some ?_))
    exact (hb.2 fun i hi hi' => h i hi hi hi').symm
  · intro i _ hi h
    have hi' : i < ys.length := by omega
    by_cases hg : g xs[i] ys[i] = true
    · refine .inr ⟨(), fun j hj h1 h2 => ?_, fun r hr => ?_⟩
      · rcases Nat.lt_or_ge j i with hji | hji
        · exact h j hji h1 h2
        · obtain rfl : j = i := by omega
          exact hg
      · refine Ev.step (fun k => hL k xs ys _) (ev_pos (by omega) (ev_pos (by omega) (ev_pos (by omega) (Ev.bind (he i hi hi') (ev_pos hg ?_)))))
        rw [w64s i (by omega)]
        exact hr
    · refine .inl (Ev.step (fun k => hL k xs ys _) (ev_pos (by omega) (ev_pos (by omega) (ev_pos (by omega) (Ev.bind (he i hi hi') (ev_neg hg (ev_some ?_)))))))
      cases b with
      | false => rfl
      | true => exact absurd (hb.1 rfl i hi hi') hg
theorem ev_alike_self {α : Type} (L : Nat → List α → List α → Int → Option Bool) (e : Nat → List α → List α → Int → Option Bool)
    (hL : ∀ k xs ys i, L (k + 1) xs ys i = if i < (xs.length : Int) then (if 0 ≤ i then (if i < (ys.length : Int) then ((e k xs ys i).bind fun v => if v = true then L k xs ys (wrap64 (i + 1)) else some false) else none) else none) else some true)
    (xs : List α) (hx : xs.length < 4611686018427387904) (he : ∀ i : Nat, ∀ (_ : i < xs.length), Ev (fun k => e k xs xs (i : Int)) true) :
    Ev (fun k => L k xs xs 0) true :=
  ev_alike L e (fun _ _ => true) hL xs xs hx rfl (fun i h _ => he i h) true ⟨fun _ _ _ _ => rfl, fun _ => rfl⟩
theorem bool_of (P : Prop) : ∃ b : Bool, b = true ↔ P := ⟨@decide P (Classical.propDecidable P), by simp⟩
theorem bool_false {P : Prop} {b : Bool} (h : b = true ↔ P) (k : ¬ P) : b = false := by
  cases b with
  | false => rfl
  | true => exact absurd (h.1 rfl) k
theorem ev_all (n : Nat) (L : Nat → Nat → Option Bool) (ok : Nat → Prop) (e b : Bool) (hb : b = true ↔ e = true ∧ ∀ i, i < n → ok i) (hend : Ev (fun k => L k n) e)
    (hyes : ∀ i, i < n → (∀ j, j < i → ok j) → ok i → ∀ r, Ev (fun k => L k (i + 1)) r → Ev (fun k => L k i) r) (hno : ∀ i, i < n → (∀ j, j < i → ok j) → ¬ ok i → Ev (fun k => L k i) false) : Ev (fun k => L k 0) b := by
  refine ev_for1 n (fun k i (_ : Unit) => L k i) (fun i _ => ∀ j, j < i → ok j) b ?_ ?_ 0 () (Nat.zero_le _) (fun j hj => by omega)
  · intro _ h
    have : b = e := by
      cases e with
      | false => exact bool_false hb (fun h => by simp at h)
      | true => exact hb.2 ⟨rfl, h⟩
    rw [this]
    exact hend
  · intro i _ hi h
    by_cases ho : ok i
    · refine .inr ⟨(), fun j hj => ?_, hyes i hi h ho⟩
      rcases Nat.lt_or_ge j i with h1 | h1
      · exact h j h1
      · obtain rfl : j = i := by omega
        exact ho
    · have : b = false := bool_false hb (fun h => ho (h.2 i hi))
      rw [this]
      exact .inl (hno i hi h ho)
theorem wrap_u64 {n : Int} (h0 : 0 ≤ n) (h1 : n ≤ 18446744073709551615) : IntKind.u64.wrap n = n := by
  have e : IntKind.u64.wrap n = n % 18446744073709551616 := by simp only [IntKind.wrap, IntKind.bits, IntKind.signed]; rfl
  rw [e]; omega
def Chain {α : Type} (E : α → Int → Int → Prop) : List α → Int → Int → Prop
  | [], c, d => c = d
  | x :: r, c, d => ∃ m, E x c m ∧ Chain E r m d
theorem Chain.snoc {α : Type} {E : α → Int → Int → Prop} : ∀ {l : List α} {c m d : Int} {x : α}, Chain E l c m → E x m d → Chain E (l ++ [x]) c d
  | [], _, _, _, _, h, k => by cases h; exact ⟨_, k, rfl⟩
  | _ :: _, _, _, _, _, ⟨q, h1, h2⟩, k => ⟨q, h1, Chain.snoc h2 k⟩
theorem Chain.le {α : Type} {E : α → Int → Int → Prop} (hm : ∀ x c d, E x c d → c ≤ d) : ∀ {l : List α} {c d : Int}, Chain E l c d → c ≤ d
  | [], _, _, h => Int.le_of_eq h
  | _ :: _, _, _, ⟨_, h1, h2⟩ => Int.le_trans (hm _ _ _ h1) (Chain.le hm h2)
theorem ev_mark {α : Type} (L : Nat → List α → Int → Nat → Option (Int × List α)) (E : α → Int → Int → Prop) (G : α → Prop) (W : Int) (hW : 0 ≤ W) (hW' : W ≤ 1099511627776)
    (hend : ∀ zs c, Ev (fun k => L k zs c zs.length) (c, zs))
    (hstep : ∀ zs c i, ∀ hi : i < zs.length, i < 1048576 → G zs[i] → 0 ≤ c → c ≤ 2305843009213693952 → ∃ x' c', E x' c c' ∧ c ≤ c' ∧ c' ≤ c + W ∧ ∀ r, Ev (fun k => L k (zs.set i x') c' (i + 1)) r → Ev (fun k => L k zs c i) r)
    (xs : List α) (hG : ∀ x ∈ xs, G x) (hl : xs.length ≤ 1048576) (c : Int) (hc0 : 0 ≤ c) (hc1 : c ≤ 1152921504606846976) :
    ∃ ys d, Chain E ys c d ∧ c ≤ d ∧ d ≤ c + W * xs.length ∧ ys.length = xs.length ∧ Ev (fun k => L k xs c 0) (d, ys) := by
  have key : ∀ n i : Nat, ∀ zs : List α, ∀ m : Int, i + n = xs.length → zs.length = xs.length → zs.drop i = xs.drop i → Chain E (zs.take i) c m → c ≤ m → m ≤ c + W * i →
      ∃ ys d, Chain E ys c d ∧ c ≤ d ∧ d ≤ c + W * xs.length ∧ ys.length = xs.length ∧ Ev (fun k => L k zs m i) (d, ys) := by
    intro n
    induction n with
    | zero =>
      intro i zs m hi hz hd hch h1 h2
      obtain rfl : i = zs.length := by omega
      rw [List.take_length] at hch
      rw [← hz]
      exact ⟨zs, m, hch, h1, h2, rfl, hend zs m⟩
    | succ n ih =>
      intro i zs m hi hz hd hch h1 h2
      have hlt : i < zs.length := by omega
      have hx : i < xs.length := by omega
      have hget : zs[i] = xs[i] := by
        have e1 := List.drop_eq_getElem_cons hlt
        have e2 := List.drop_eq_getElem_cons hx
        rw [hd, e2] at e1
        exact (List.cons.inj e1).1.symm
      have hWi : W * (i : Int) ≤ 1099511627776 * 1048576 := Int.mul_le_mul hW' (by omega) (by omega) (by omega)
      obtain ⟨x', c', hE, hc, hcW, hr⟩ := hstep zs m i hlt (by omega) (by rw [hget]; exact hG _ (List.getElem_mem hx)) (by omega) (by omega)
      obtain ⟨ys, d, g1, g2, g3, g4, g5⟩ := ih (i + 1) (zs.set i x') c' (by omega) (by simpa using hz) (by
          rw [List.drop_set_of_lt (by omega)]
          have e1 := List.drop_eq_getElem_cons hlt
          have e2 := List.drop_eq_getElem_cons hx
          rw [hd, e2] at e1
          exact (List.cons.inj e1).2.symm) (by
          rw [List.take_succ_eq_append_getElem (by simpa using hlt), List.take_set_of_le (Nat.le_refl i), List.getElem_set_self]
          exact Chain.snoc hch hE) (by omega) (by
          have : W * ((i + 1 : Nat) : Int) = W * i + W := by rw [Int.natCast_add, Int.mul_add]; simp
          omega)
      exact ⟨ys, d, g1, g2, g3, g4, hr _ g5⟩
  have := key xs.length 0 xs c (by omega) rfl rfl (by simp [Chain]) (Int.le_refl _) (by simp)
  exact this
theorem ev_held {α : Type} (H : Nat → List α → Int → Nat → Option Int) (E : α → Int → Int → Prop) (hm : ∀ x c d, E x c d → c ≤ d)
    (hend : ∀ ys c, Ev (fun k => H k ys c ys.length) c)
    (hstep : ∀ ys c c' i, ∀ hi : i < ys.length, i < 1048576 → E ys[i] c c' → 0 ≤ c → c' ≤ 2305843009213693952 → ∀ r, Ev (fun k => H k ys c' (i + 1)) r → Ev (fun k => H k ys c i) r)
    (ys : List α) (hl : ys.length ≤ 1048576) (c d : Int) (hc0 : 0 ≤ c) (hd : d ≤ 2305843009213693952) (h : Chain E ys c d) : Ev (fun k => H k ys c 0) d := by
  have key : ∀ n i : Nat, ∀ m : Int, i + n = ys.length → 0 ≤ m → Chain E (ys.drop i) m d → Ev (fun k => H k ys m i) d := by
    intro n
    induction n with
    | zero =>
      intro i m hi h0 hch
      obtain rfl : i = ys.length := by omega
      rw [List.drop_length] at hch
      obtain rfl : m = d := hch
      exact hend ys m
    | succ n ih =>
      intro i m hi h0 hch
      have hlt : i < ys.length := by omega
      rw [List.drop_eq_getElem_cons hlt] at hch
      obtain ⟨m', hE, hch⟩ := hch
      have h1 := hm _ _ _ hE
      exact hstep ys m m' i hlt (by omega) hE h0 (by have := Chain.le hm hch; omega) d (ih (i + 1) m' (by omega) (by omega) hch)
  exact key ys.length 0 c (by omega) hc0 h
end Go.Proofs.YtndgkdnbacoenaaO
namespace Go.Proofs.Ytndgkdnbacoenaa.Pure
open Go.RowKit Go.Proofs.Ytndgkdnbacoenaa.PFnExactReadSave Go.Proofs.Ytndgkdnbacoenaa.OFnExactReadSave Go.Proofs.YtndgkdnbacoenaaW.PrintWords Go.Proofs.YtndgkdnbacoenaaW.PrintLast Go.Proofs.YtndgkdnbacoenaaW.PrintMore Go.Proofs.YtndgkdnbacoenaaO
set_option linter.unusedVariables false
set_option linter.unusedSimpArgs false
theorem st_spec_GoodName_j0 {r : (Bool)} {x0 : ByteArray} {x16 : Bool} (h : Ev (fun k => if x16 = true then (some false) else (spec_GoodName.l0 k x0 0)) r) : Ev (fun k => spec_GoodName.j0 k x0 x16) r := Ev.step (fun k => by rw [spec_GoodName.j0]) h
theorem st_spec_GoodName_l0 {r : (Bool)} {x0 : ByteArray} {x3 : Int} (h : Ev (fun k => if x3 < (x0.size : Int) then (if 0 ≤ x3 then ((spec_l1Letter.f (bt x0 x3)).bind fun t103 => (if t103 = true then (spec_GoodName.l0 k x0 (wrap64 (x3 + 1))) else ((spec_l1Digit.f (bt x0 x3)).bind fun t104 => (if t104 = true then (spec_GoodName.l0 k x0 (wrap64 (x3 + 1))) else (some false))))) else (none)) else (some true)) r) : Ev (fun k => spec_GoodName.l0 k x0 x3) r := Ev.step (fun k => by rw [spec_GoodName.l0]) h
theorem st_impl_GoodName_l0 {r : (Bool)} {x0 : ByteArray} {x5 : Int} {x6 : Int} (h : Ev (fun k => if x6 < x5 then (if 0 ≤ x6 then (if x6 < (x0.size : Int) then ((impl_isLetter.f (bt x0 x6)).bind fun t121 => (if t121 = true then (impl_GoodName.l0 k x0 x5 (wrap64 (x6 + 1))) else (if (bt x0 x6) = 95 then (impl_GoodName.l0 k x0 x5 (wrap64 (x6 + 1))) else (if x6 = 0 then (some false) else ((impl_isDigit.f (bt x0 x6)).bind fun t122 => (if t122 = true then (impl_GoodName.l0 k x0 x5 (wrap64 (x6 + 1))) else (some false))))))) else (none)) else (none)) else ((impl_inRange.f (x0.size : Int) 1 20).bind fun t120 => (some t120))) r) : Ev (fun k => impl_GoodName.l0 k x0 x5 x6) r := Ev.step (fun k => by rw [impl_GoodName.l0]) h
theorem st_laws_markValueS_l0 {r : (Int × (List (S41)))} {x0 : List (S41)} {x1 : Int} {x5 : Int} (h : Ev (fun k => if x5 < (x0.length : Int) then ((laws_markText.f k x1).bind fun t138 => (if 0 ≤ x5 then ((some (x0.set (x5 : Int).toNat (⟨t138, (rd_T41 x0 x5).f1, (rd_T41 x0 x5).f2⟩ : S41) : List (S41))).bind fun y139 => ((some (y139.set (x5 : Int).toNat (⟨(rd_T41 y139 x5).f0, wrap64 (x1 + 1), (rd_T41 y139 x5).f2⟩ : S41) : List (S41))).bind fun y140 => ((laws_markText.f k (wrap64 ((wrap64 (x1 + 1)) + 1))).bind fun t141 => (laws_markValueS.l0 k (y140.set (x5 : Int).toNat (⟨(rd_T41 y140 x5).f0, (rd_T41 y140 x5).f1, t141⟩ : S41)) (wrap64 ((wrap64 ((wrap64 (x1 + 1)) + 1)) + 1)) (wrap64 (x5 + 1)))))) else (none))) else (some (x1, x0))) r) : Ev (fun k => laws_markValueS.l0 k x0 x1 x5) r := Ev.step (fun k => by rw [laws_markValueS.l0]) h
theorem st_laws_heldValueS_l0 {r : (Int)} {x0 : List (S41)} {x1 : Int} {x5 : Int} (h : Ev (fun k => if x5 < (x0.length : Int) then (if 0 ≤ x5 then ((laws_markText.f k x1).bind fun t144 => (if ((rd_T41 x0 x5).f0).toList = t144.toList then (if ((rd_T41 x0 x5).f1) = (wrap64 (x1 + 1)) then ((laws_markText.f k (wrap64 ((wrap64 (x1 + 1)) + 1))).bind fun t147 => (if ((rd_T41 x0 x5).f2).toList = t147.toList then (laws_heldValueS.l0 k x0 (wrap64 ((wrap64 ((wrap64 (x1 + 1)) + 1)) + 1)) (wrap64 (x5 + 1))) else (some (-1)))) else (some (-1))) else (some (-1)))) else (none)) else (some x1)) r) : Ev (fun k => laws_heldValueS.l0 k x0 x1 x5) r := Ev.step (fun k => by rw [laws_heldValueS.l0]) h
theorem st_laws_FnExactReadSave_j0 {r : (Bool)} {x0 : List Int} {x3 : Int} {x4 : List (S41)} {x5 : Int} {x6 : List Int} {x7 : Int} {x8 : List (S41)} {x9 : Int} {x47 : Bool} (h : Ev (fun k => if x47 = true then (some false) else ((laws_toByteS.f k x0).bind fun t165 => ((laws_eqByteS.f k x6 t165).bind fun t168 => (if t168 = true then ((laws_markByteS.f k x6 1).bind fun bt169 => (if bt169.1 < 0 then (laws_FnExactReadSave.j1 k x0 x3 x4 x5 x8 true) else (if x7 = x3 then ((laws_eqValueS.f k x8 x4).bind fun t171 => (if t171 = true then (laws_FnExactReadSave.j1 k x0 x3 x4 x5 x8 (x9 != x5)) else (laws_FnExactReadSave.j1 k x0 x3 x4 x5 x8 true))) else (laws_FnExactReadSave.j1 k x0 x3 x4 x5 x8 true)))) else (some false))))) r) : Ev (fun k => laws_FnExactReadSave.j0 k x0 x3 x4 x5 x6 x7 x8 x9 x47) r := Ev.step (fun k => by rw [laws_FnExactReadSave.j0]) h
theorem st_laws_FnExactReadSave_j1 {r : (Bool)} {x0 : List Int} {x3 : Int} {x4 : List (S41)} {x5 : Int} {x8 : List (S41)} {x73 : Bool} (h : Ev (fun k => if x73 = true then (some false) else ((laws_markValueS.f k x8 1).bind fun bt172 => ((laws_heldValueS.f k bt172.2 1).bind fun t174 => (if t174 < 0 then (some false) else (if t174 = bt172.1 then ((laws_toByteS.f k x0).bind fun t175 => ((impl_ReadSave.f k t175).bind fun bt178 => (if bt178.1 = x3 then ((laws_eqValueS.f k bt178.2.1 x4).bind fun t183 => (if t183 = true then (laws_FnExactReadSave.j2 k bt172.2 bt172.1 (bt178.2.2 != x5)) else (laws_FnExactReadSave.j2 k bt172.2 bt172.1 true))) else (laws_FnExactReadSave.j2 k bt172.2 bt172.1 true)))) else (some false)))))) r) : Ev (fun k => laws_FnExactReadSave.j1 k x0 x3 x4 x5 x8 x73) r := Ev.step (fun k => by rw [laws_FnExactReadSave.j1]) h
theorem st_laws_FnExactReadSave_j2 {r : (Bool)} {x8 : List (S41)} {x11 : Int} {x105 : Bool} (h : Ev (fun k => if x105 = true then (some false) else ((laws_heldValueS.f k x8 1).bind fun t184 => (if t184 < 0 then (some false) else (if t184 = x11 then (some true) else (some false))))) r) : Ev (fun k => laws_FnExactReadSave.j2 k x8 x11 x105) r := Ev.step (fun k => by rw [laws_FnExactReadSave.j2]) h
theorem inr_some (a b c : Int) : impl_inRange.f a b c = some (decide (b ≤ a ∧ a ≤ c)) := by
 unfold impl_inRange.f
 split <;> simp_all <;> omega
theorem in_some (a b c : Int) : spec_l1In.f a b c = some (decide (b ≤ a ∧ a ≤ c)) := by
 unfold spec_l1In.f
 split <;> simp_all <;> omega
def nameChar (c : Int) : Bool := decide (97 ≤ c ∧ c ≤ 122) || decide (65 ≤ c ∧ c ≤ 90) || decide (c = 95)
def digitChar (c : Int) : Bool := decide (48 ≤ c ∧ c ≤ 57)
def CharOk (s : ByteArray) (i : Nat) : Prop := nameChar (bt s (i : Int)) = true ∨ 0 < i ∧ digitChar (bt s (i : Int)) = true
def NameOk (s : ByteArray) : Prop := (1 ≤ s.size ∧ s.size ≤ 20) ∧ ∀ i, i < s.size → CharOk s i
theorem letter_spec (c : Int) : spec_l1Letter.f c = some (nameChar c) := by
 unfold spec_l1Letter.f nameChar
 repeat' split
 all_goals (congr 1; rw [Bool.eq_iff_iff]; simp; try omega)
theorem digit_spec (c : Int) : spec_l1Digit.f c = some (digitChar c) := by
 unfold spec_l1Digit.f digitChar
 repeat' split
 all_goals (congr 1; rw [Bool.eq_iff_iff]; simp; try omega)
theorem digit_impl (c : Int) : impl_isDigit.f c = some (digitChar c) := by
 unfold impl_isDigit.f digitChar
 repeat' split
 all_goals (congr 1; rw [Bool.eq_iff_iff]; simp; try omega)
theorem letter_impl (c : Int) : ∃ b, impl_isLetter.f c = some b ∧ (nameChar c = true ↔ b = true ∨ c = 95) := by
 unfold impl_isLetter.f nameChar
 repeat' split
 all_goals (refine ⟨_, rfl, ?_⟩; simp; try omega)
theorem name_impl (s : ByteArray) (hs : s.size ≤ 140737488351232) (b : Bool) (hb : b = true ↔ NameOk s) : Ev (fun k => impl_GoodName.f k s) b := by
 refine ev_all s.size (fun k i => impl_GoodName.l0 k s (s.size : Int) (i : Int)) (CharOk s) (decide (1 ≤ (s.size : Int) ∧ (s.size : Int) ≤ 20)) b ?_ ?_ ?_ ?_
 ·rw [hb]; unfold NameOk; simp; omega
 ·exact st_impl_GoodName_l0 (ev_neg (by omega) (ev_bindc (inr_some _ _ _) (ev_some rfl)))
 ·intro i hi _ ho r hr
  refine st_impl_GoodName_l0 (ev_pos (by omega) (ev_pos (by omega) (ev_pos (by omega) ?_)))
  obtain ⟨q, hq, hn⟩ := letter_impl (bt s (i : Int))
  rw [w64s i (by omega)]
  refine ev_bindc hq (ev_ite (fun _ => hr) fun h1 => ev_ite (fun _ => hr) fun h2 => ?_)
  rcases ho with ho | ⟨ho, hd⟩
  ·rcases hn.1 ho with h | h
   ·exact absurd h h1
   ·exact absurd h h2
  ·exact ev_neg (by omega) (ev_bindc (digit_impl _) (ev_pos hd hr))
 ·intro i hi _ ho
  refine st_impl_GoodName_l0 (ev_pos (by omega) (ev_pos (by omega) (ev_pos (by omega) ?_)))
  obtain ⟨q, hq, hn⟩ := letter_impl (bt s (i : Int))
  refine ev_bindc hq (ev_ite (fun h => absurd (.inl (hn.2 (.inl h))) ho) fun h1 => ev_ite (fun h => absurd (.inl (hn.2 (.inr h))) ho) fun h2 => ev_ite (fun _ => ev_some rfl) fun h3 => ?_)
  exact ev_bindc (digit_impl _) (ev_neg (fun h => ho (.inr ⟨by omega, h⟩)) (ev_some rfl))
theorem name_spec (s : ByteArray) (b : Bool) (hb : b = true ↔ NameOk s) : Ev (fun k => spec_GoodName.f k s) b := by
 have j0t : Ev (fun k => spec_GoodName.j0 k s true) false := st_spec_GoodName_j0 (ev_pos rfl (ev_some rfl))
 by_cases h1 : (s.size : Int) < 1
 ·rw [bool_false hb (fun h => by have := h.1; omega)]
  exact ev_pos h1 j0t
 ·by_cases h2 : (s.size : Int) > 20
  ·rw [bool_false hb (fun h => by have := h.1; omega)]
   exact ev_neg h1 (ev_pos h2 j0t)
  ·refine ev_neg h1 (ev_neg h2 (ev_pos (by omega) (ev_bindc (digit_spec _) ?_)))
   cases hd : digitChar (bt s 0) with
   | true =>
    rw [bool_false hb (fun h => by
     have h0 : CharOk s 0 := h.2 0 (by omega)
     rcases h0 with h0 | h0
     ·have h0 : nameChar (bt s 0) = true := h0
      generalize bt s 0 = c at hd h0
      simp [nameChar, digitChar] at hd h0; omega
     ·omega)]
    exact j0t
   | false =>
    refine st_spec_GoodName_j0 (ev_neg (by decide) ?_)
    refine ev_all s.size (fun k i => spec_GoodName.l0 k s (i : Int)) (CharOk s) true b ?_ ?_ ?_ ?_
    ·rw [hb]; unfold NameOk; constructor
     ·exact fun h => ⟨rfl, h.2⟩
     ·exact fun h => ⟨by omega, h.2⟩
    ·exact st_spec_GoodName_l0 (ev_neg (by omega) (ev_some rfl))
    ·intro i hi _ ho r hr
     refine st_spec_GoodName_l0 (ev_pos (by omega) (ev_pos (by omega) (ev_bindc (letter_spec _) (ev_ite (fun _ => by rw [w64s i (by omega)]; exact hr) fun hl => ev_bindc (digit_spec _) ?_))))
     rcases ho with ho | ⟨_, ho⟩
     ·exact absurd ho hl
     ·refine ev_pos ho ?_
      rw [w64s i (by omega)]; exact hr
    ·intro i hi _ ho
     refine st_spec_GoodName_l0 (ev_pos (by omega) (ev_pos (by omega) (ev_bindc (letter_spec _) (ev_neg (fun h => ho (.inl h)) (ev_bindc (digit_spec _) (ev_neg (fun h => ho ?_) (ev_some rfl)))))))
     rcases Nat.eq_zero_or_pos i with rfl | hp
     ·have h' : digitChar (bt s 0) = true := h
      rw [hd] at h'; cases h'
     ·exact .inr ⟨hp, h⟩
theorem toByteS_ev (xs : List Int) (h : xs.length ≤ 1048576) : Ev (fun k => laws_toByteS.f k xs) xs := by
 refine ev_pos (by omega) (ev_pos (by omega) ?_)
 have := ev_copy laws_toByteS.l0 (fun _ xs i => some (rd xs i)) id (fun _ _ _ _ => rfl) xs (by omega) (fun i hi => ev_some (rd_get hi)) (List.replicate (((xs.length : Int) : Int).toNat) 0) (by simp)
 rwa [List.map_id] at this
def Fit41 (x : S41) : Prop := (x.f0.size ≤ 1048576) ∧ (x.f2.size ≤ 1048576)
theorem eqValue_self (a0 : ByteArray) (a1 : Int) (a2 : ByteArray) : laws_eqValue.f a0 a1 a2 a0 a1 a2 = some true := by
 simp [laws_eqValue.f]
theorem eqValueS_ev (xs : List S41) (h : (xs.length ≤ 1048576 ∧ ∀ y ∈ xs, Fit41 y)) : Ev (fun k => laws_eqValueS.f k xs xs) true := by
 refine ev_pos rfl (ev_alike_self laws_eqValueS.l0 (fun k xs ys i => laws_eqValue.f ((rd_T41 xs i).f0) ((rd_T41 xs i).f1) ((rd_T41 xs i).f2) ((rd_T41 ys i).f0) ((rd_T41 ys i).f1) ((rd_T41 ys i).f2)) (fun _ _ _ _ => rfl) xs (by have := h.1; omega) (fun i hi => ?_))
 ·exact ev_eq (eqValue_self _ _ _)
theorem eqByteS_ev (xs : List Int) (h : xs.length ≤ 1048576) : Ev (fun k => laws_eqByteS.f k xs xs) true := by
 refine ev_pos rfl ?_
 refine ev_for1 xs.length (fun k i (_ : Unit) => laws_eqByteS.l0 k xs xs (i : Int)) (fun _ _ => True) true ?_ ?_ 0 () (Nat.zero_le _) trivial
 ·intro _ _
  exact Ev.step (fun _ => rfl) (ev_neg (by omega) (ev_some rfl))
 ·intro i _ hi _
  refine .inr ⟨(), trivial, fun r hr => Ev.step (fun _ => rfl) (ev_pos (by omega) (ev_pos (by omega) (ev_pos (by omega) ?_)))⟩
  rw [w64s i (by have := h; omega)]
  exact ev_pos rfl hr
def MarkByteS (x : Int) (c d : Int) : Prop := x = (c) % 256 ∧ d = c + 1
theorem markByteS_ev (xs : List Int) (hl : xs.length ≤ 1048576) (c : Int) (hc0 : 0 ≤ c) (hc1 : c ≤ 1152921504606846976) :
  ∃ ys d, Chain MarkByteS ys c d ∧ c ≤ d ∧ d ≤ c + 1 * xs.length ∧ ys.length = xs.length ∧ Ev (fun k => laws_markByteS.f k xs c) (d, ys) := by
 refine ev_mark (fun k zs c i => laws_markByteS.l0 k zs c (i : Int)) MarkByteS (fun _ => True) 1 (by omega) (by omega) ?_ ?_ xs (fun _ _ => trivial) hl c hc0 hc1
 ·intro zs c
  exact Ev.step (fun _ => rfl) (ev_neg (by omega) (ev_some rfl))
 ·intro zs c i hi h20 _ h0 h1
  refine ⟨_, _, ⟨rfl, rfl⟩, by omega, by omega, fun r hr => Ev.step (fun _ => rfl) (ev_pos (by omega) (ev_pos (by omega) ?_))⟩
  simp only [Int.toNat_natCast, w64s i (by omega), w64 (n := c + 1) (by omega) (by omega)]
  exact hr
def ValueOk (xs : List S41) (i : Nat) : Prop :=
 NameOk (rd_T41 xs i).f0 ∧ (rd_T41 xs i).f2.size ≤ 100 ∧ (0 < i → Op.bytesLess (rd_T41 xs ((i : Int) - 1)).f0.toList (rd_T41 xs i).f0.toList = true)
def ValuesOk (xs : List S41) : Prop := xs.length ≤ 30 ∧ ∀ i, i < xs.length → ValueOk xs i
theorem values_spec (xs : List S41) (b : Bool) (hb : b = true ↔ ValuesOk xs) : Ev (fun k => spec_GoodValues.f k xs) b := by
 refine ev_ite (fun h => ev_some (bool_false hb (fun h' => by have := h'.1; omega)).symm) fun h => ?_
 refine ev_all xs.length (fun k i => spec_GoodValues.l0 k xs xs (xs.length : Int) (i : Int)) (ValueOk xs) true b ?_ ?_ ?_ ?_
 ·rw [hb]; unfold ValuesOk; constructor
  ·exact fun h => ⟨rfl, h.2⟩
  ·exact fun h' => ⟨by omega, h'.2⟩
 ·exact Ev.step (fun _ => rfl) (ev_neg (by omega) (ev_some rfl))
 ·intro i hi _ ⟨h0, h1, h2⟩ r hr
  refine Ev.step (fun _ => rfl) (ev_pos (by omega) (ev_pos (by omega) (ev_pos (by omega) (Ev.bind (name_spec _ true ⟨fun _ => h0, fun _ => rfl⟩) (ev_pos rfl (ev_neg (by omega) ?_))))))
  rw [w64s i (by omega), w64 (n := (i : Int) - 1) (by omega) (by omega)]
  exact ev_ite (fun hp => ev_pos (by omega) (ev_pos (by omega) (ev_pos (h2 (by omega)) hr))) fun _ => hr
 ·intro i hi _ ho
  obtain ⟨c, hc⟩ := bool_of (NameOk (rd_T41 xs i).f0)
  refine Ev.step (fun _ => rfl) (ev_pos (by omega) (ev_pos (by omega) (ev_pos (by omega) (Ev.bind (name_spec _ c hc) (ev_ite (fun h0 => ev_ite (fun _ => ev_some rfl) fun h1 => ?_) fun _ => ev_some rfl)))))
  rw [w64 (n := (i : Int) - 1) (by omega) (by omega)]
  refine ev_ite (fun hp => ev_pos (by omega) (ev_pos (by omega) (ev_ite (fun h2 => absurd ⟨hc.1 h0, by omega, fun _ => h2⟩ ho) fun _ => ev_some rfl))) fun hp => absurd ⟨hc.1 h0, by omega, fun h => by omega⟩ ho
theorem values_impl (xs : List S41) (hx : xs.length ≤ 1048576 ∧ ∀ y ∈ xs, Fit41 y) (b : Bool) (hb : b = true ↔ ValuesOk xs) : Ev (fun k => impl_GoodValues.f k xs) b := by
 have hn : ∀ i : Nat, i < xs.length → (rd_T41 xs i).f0.size ≤ 140737488351232 := by
  intro i hi
  have e : rd_T41 xs (i : Int) = xs[i] := getD_get hi
  rw [e]
  have := (hx.2 _ (List.getElem_mem hi)).1
  omega
 have hl := hx.1
 refine ev_all xs.length (fun k i => impl_GoodValues.l0 k xs xs (xs.length : Int) (i : Int)) (ValueOk xs) (decide ((xs.length : Int) ≤ 30)) b ?_ ?_ ?_ ?_
 ·rw [hb]; unfold ValuesOk; rw [decide_eq_true_eq]; constructor <;> (rintro ⟨h1, h2⟩; exact ⟨by omega, h2⟩)
 ·exact Ev.step (fun _ => rfl) (ev_neg (by omega) (ev_some rfl))
 ·intro i hi _ ⟨h0, h1, h2⟩ r hr
  refine Ev.step (fun _ => rfl) (ev_pos (by omega) (ev_pos (by omega) (ev_pos (by omega) (Ev.bind (name_impl _ (hn i hi) true ⟨fun _ => h0, fun _ => rfl⟩) (ev_pos rfl ?_)))))
  rw [w64s i (by omega), w64 (n := (i : Int) - 1) (by omega) (by omega)]
  exact ev_ite (fun hp => ev_pos (by omega) (ev_pos (by omega) (ev_pos (h2 (by omega)) (ev_neg (by omega) hr)))) fun _ => ev_neg (by omega) hr
 ·intro i hi _ ho
  obtain ⟨c, hc⟩ := bool_of (NameOk (rd_T41 xs i).f0)
  refine Ev.step (fun _ => rfl) (ev_pos (by omega) (ev_pos (by omega) (ev_pos (by omega) (Ev.bind (name_impl _ (hn i hi) c hc) (ev_ite (fun h0 => ?_) fun _ => ev_some rfl)))))
  rw [w64 (n := (i : Int) - 1) (by omega) (by omega)]
  refine ev_ite (fun hp => ev_pos (by omega) (ev_pos (by omega) (ev_ite (fun h2 => ev_ite (fun _ => ev_some rfl) fun h1 => absurd ⟨hc.1 h0, by omega, fun _ => h2⟩ ho) fun _ => ev_some rfl))) fun hp => ev_ite (fun _ => ev_some rfl) fun h1 => absurd ⟨hc.1 h0, by omega, fun h => by omega⟩ ho
theorem values_same (xs : List S41) (hx : xs.length ≤ 1048576 ∧ ∀ y ∈ xs, Fit41 y) : ∃ b, Ev (fun k => spec_GoodValues.f k xs) b ∧ Ev (fun k => impl_GoodValues.f k xs) b ∧ (b = true ↔ ValuesOk xs) := by
 obtain ⟨b, hb⟩ := bool_of (ValuesOk xs)
 exact ⟨b, values_spec xs b hb, values_impl xs hx b hb, hb⟩
theorem xor_nat (k : IntKind) (j : Nat) (hj : j ≤ k.bits) (hk : ∀ n : Int, 0 ≤ n → n < 2 ^ j → k.wrap n = n) (a b : Nat) (ha : a < 2 ^ j) (hb : b < 2 ^ j) : Go.bits .xor k a b = ((a ^^^ b : Nat) : Int) := by
 have hp : 2 ^ j ≤ 2 ^ k.bits := Nat.pow_le_pow_right (by decide) hj
 have ha' : a % 2 ^ k.bits = a := Nat.mod_eq_of_lt (Nat.lt_of_lt_of_le ha hp)
 have hb' : b % 2 ^ k.bits = b := Nat.mod_eq_of_lt (Nat.lt_of_lt_of_le hb hp)
 simp only [Go.bits, BitVec.ofInt_natCast, BitVec.toNat_xor, BitVec.toNat_ofNat, ha', hb']
 exact hk _ (Int.natCast_nonneg _) (by exact_mod_cast Nat.xor_lt_two_pow ha hb)
theorem wraps_u32 (n : Int) (h0 : 0 ≤ n) (h1 : n < 2 ^ 32) : IntKind.u32.wrap n = n := by rw [IntKind.wrap_u32]; omega
theorem wraps_u64 (n : Int) (h0 : 0 ≤ n) (h1 : n < 2 ^ 32) : IntKind.u64.wrap n = n := wrap_u64 h0 (by omega)
def digestStep (s b : Int) : Int := (((s.toNat ^^^ b.toNat : Nat) : Int) * 16777619) % 4294967296
theorem step_range (s b : Int) : 0 ≤ digestStep s b ∧ digestStep s b < 4294967296 := by unfold digestStep; omega
theorem xor_lt (s b : Int) (h0 : 0 ≤ s) (h1 : s < 4294967296) (g0 : 0 ≤ b) (g1 : b < 256) : 0 ≤ ((s.toNat ^^^ b.toNat : Nat) : Int) ∧ ((s.toNat ^^^ b.toNat : Nat) : Int) < 4294967296 := by
 have := Nat.xor_lt_two_pow (n := 32) (show s.toNat < 2 ^ 32 by omega) (show b.toNat < 2 ^ 32 by omega)
 omega
theorem step_impl (s b : Int) (h0 : 0 ≤ s) (h1 : s < 4294967296) (g0 : 0 ≤ b) (g1 : b < 256) : ((Go.bits .xor .u32 s (b % 4294967296)) * 16777619) % 4294967296 = digestStep s b := by
 have e := xor_nat .u32 32 (by decide) wraps_u32 s.toNat b.toNat (by omega) (by omega)
 rw [Int.toNat_of_nonneg h0, Int.toNat_of_nonneg g0] at e
 rw [show b % 4294967296 = b by omega, e]
 rfl
theorem step_spec (s b : Int) (h0 : 0 ≤ s) (h1 : s < 4294967296) (g0 : 0 ≤ b) (g1 : b < 256) : Int.tmod (IntKind.u64.wrap ((Go.bits .xor .u64 s (IntKind.u64.wrap b)) * 16777619)) 4294967296 = digestStep s b := by
 have e := xor_nat .u64 32 (by decide) wraps_u64 s.toNat b.toNat (by omega) (by omega)
 rw [Int.toNat_of_nonneg h0, Int.toNat_of_nonneg g0] at e
 obtain ⟨x0, x1⟩ := xor_lt s b h0 h1 g0 g1
 rw [wrap_u64 g0 (by omega), e, wrap_u64 (by omega) (by omega), Int.tmod_eq_emod_of_nonneg (by omega)]
 rfl
theorem digest_impl (l : List Int) (hl : l.length ≤ 1048576) (hb : ∀ x ∈ l, 0 ≤ x ∧ x < 256) : Ev (fun k => impl_digest.f k l) (l.foldl digestStep 2166136261) := by
 refine ev_for1 l.length (fun k i (v : Int) => impl_digest.l0 k v l (l.length : Int) (i : Int)) (fun i v => v = (l.take i).foldl digestStep 2166136261 ∧ 0 ≤ v ∧ v < 4294967296) _ ?_ ?_ 0 2166136261 (Nat.zero_le _) ⟨rfl, by omega, by omega⟩
 ·rintro v ⟨rfl, _, _⟩
  exact Ev.step (fun _ => rfl) (ev_neg (by omega) (ev_some (by rw [List.take_length])))
 ·rintro i v hi ⟨hv, v0, v1⟩
  obtain ⟨b0, b1⟩ := hb _ (List.getElem_mem hi)
  obtain ⟨s0, s1⟩ := step_range v l[i]
  refine .inr ⟨digestStep v l[i], ⟨by rw [List.take_succ_eq_append_getElem hi, List.foldl_append, ← hv]; rfl, s0, s1⟩, fun r hr => Ev.step (fun _ => rfl) (ev_pos (by omega) (ev_pos (by omega) (ev_pos (by omega) ?_)))⟩
  rw [w64s i (by omega), rd_get hi, step_impl v l[i] v0 v1 b0 b1]
  exact hr
theorem digest_spec (l : List Int) (hl : l.length ≤ 1048576) (hb : ∀ x ∈ l, 0 ≤ x ∧ x < 256) : Ev (fun k => spec_l21Digest.f k l) (l.foldl digestStep 2166136261) := by
 refine ev_for1 l.length (fun k i (v : Int) => spec_l21Digest.l0 k v l (l.length : Int) (i : Int)) (fun i v => v = (l.take i).foldl digestStep 2166136261 ∧ 0 ≤ v ∧ v < 4294967296) _ ?_ ?_ 0 2166136261 (Nat.zero_le _) ⟨rfl, by omega, by omega⟩
 ·rintro v ⟨rfl, v0, v1⟩
  rw [List.take_length] at v0 v1
  exact Ev.step (fun _ => rfl) (ev_neg (by omega) (ev_some (by rw [List.take_length]; omega)))
 ·rintro i v hi ⟨hv, v0, v1⟩
  obtain ⟨b0, b1⟩ := hb _ (List.getElem_mem hi)
  obtain ⟨s0, s1⟩ := step_range v l[i]
  refine .inr ⟨digestStep v l[i], ⟨by rw [List.take_succ_eq_append_getElem hi, List.foldl_append, ← hv]; rfl, s0, s1⟩, fun r hr => Ev.step (fun _ => rfl) (ev_pos (by omega) (ev_pos (by omega) (ev_pos (by omega) ?_)))⟩
  rw [w64s i (by omega), rd_get hi, step_spec v l[i] v0 v1 b0 b1]
  exact hr
theorem uw (n : Nat) (h : n < 18446744073709551616) : IntKind.u64.wrap (n : Int) = (n : Int) := wrap_u64 (by omega) (by omega)
theorem b64 : (2 : Nat) ^ IntKind.u64.bits = 18446744073709551616 := by decide
theorem or_gen (X y : Nat) (e : X ||| y = X + y) (h : X + y < 18446744073709551616) : Go.bits .or .u64 (X : Int) (y : Int) = ((X + y : Nat) : Int) := by
 have hx' : X % 2 ^ IntKind.u64.bits = X := by rw [b64]; omega
 have hy' : y % 2 ^ IntKind.u64.bits = y := by rw [b64]; omega
 simp only [Go.bits, BitVec.ofInt_natCast, BitVec.toNat_or, BitVec.toNat_ofNat, hx', hy', e]
 exact uw _ h
theorem or_nat (x y k M : Nat) (hM : 2 ^ k = M) (hy : y < M) : x * M ||| y = x * M + y := by
 subst hM
 have h := Nat.shiftLeft_add_eq_or_of_lt hy x
 rw [Nat.shiftLeft_eq] at h
 exact h.symm
theorem markText_l : ∀ (n : Nat) (a : Int) (t : ByteArray), a ≤ n → t.size + n ≤ 9223372036854775000 → n ≤ 4611686018427387904 → ∃ s, Ev (fun k => laws_markText.l0 k a t) s
 | 0, a, t, ha, ht, _ => ⟨_, Ev.step (fun _ => rfl) (ev_neg (by omega) (ev_pos (by omega) (ev_some rfl)))⟩
 | n + 1, a, t, ha, ht, hn => by
  by_cases h : a > 0
  ·have e1 : Int.tdiv a 10 = a / 10 := Int.tdiv_eq_ediv_of_nonneg (by omega)
   have e2 : wrap64 (Int.tdiv a 10) = a / 10 := by rw [e1]; exact w64 (by omega) (by omega)
   have hs : ∀ x : Int, (strOfNums [x]).size = 1 := fun x => by rw [strOfNums_size]; rfl
   obtain ⟨s, hs'⟩ := markText_l n (a / 10) (strOfNums [(wrap64 (48 + (Int.tmod a 10))) % 256] ++ t) (by omega) (by rw [ByteArray.size_append, hs]; omega) (by omega)
   refine ⟨s, Ev.step (fun _ => rfl) (ev_pos h (ev_bindc rfl (ev_pos (by rw [hs]; omega) ?_)))⟩
   rw [e2]
   exact hs'
  ·exact ⟨_, Ev.step (fun _ => rfl) (ev_neg h (ev_pos (by omega) (ev_some rfl)))⟩
theorem markText_ev (a : Int) (h1 : a ≤ 4611686018427387904) : ∃ s, Ev (fun k => laws_markText.f k a) s := by
 by_cases h : a ≤ 0
 ·exact ⟨_, ev_pos h (ev_some rfl)⟩
 ·obtain ⟨s, hs⟩ := markText_l a.toNat a (⟨#[]⟩ : ByteArray) (by omega) (by show (0 : Nat) + _ ≤ _; omega) (by omega)
  exact ⟨s, ev_neg h hs⟩
theorem rdset_v {xs : List S41} {i : Nat} (h : i < xs.length) (v : S41) : rd_T41 (xs.set i v) (i : Int) = v := by
 unfold rd_T41
 rw [getD_get (by simpa using h), List.getElem_set_self]
def MarkValueS (x : S41) (c d : Int) : Prop := Ev (fun k => laws_markText.f k c) x.f0 ∧ x.f1 = c + 1 ∧ Ev (fun k => laws_markText.f k (c + 2)) x.f2 ∧ d = c + 3
theorem markValueS_ev (xs : List S41) (hl : xs.length ≤ 1048576) (c : Int) (hc0 : 0 ≤ c) (hc1 : c ≤ 1152921504606846976) :
  ∃ ys d, Chain MarkValueS ys c d ∧ c ≤ d ∧ d ≤ c + 3 * xs.length ∧ ys.length = xs.length ∧ Ev (fun k => laws_markValueS.f k xs c) (d, ys) := by
 refine ev_mark (fun k zs c i => laws_markValueS.l0 k zs c (i : Int)) MarkValueS (fun _ => True) 3 (by omega) (by omega) ?_ ?_ xs (fun _ _ => trivial) hl c hc0 hc1
 ·intro zs c
  exact st_laws_markValueS_l0 (ev_neg (by omega) (ev_some rfl))
 ·intro zs c i hi h20 _ h0 h1
  obtain ⟨s1, hs1⟩ := markText_ev c (by omega)
  obtain ⟨s2, hs2⟩ := markText_ev (c + 2) (by omega)
  have e1 : wrap64 (c + 1) = c + 1 := w64 (by omega) (by omega)
  have e2 : wrap64 (c + 1 + 1) = c + 2 := by rw [show c + 1 + 1 = c + 2 by omega]; exact w64 (by omega) (by omega)
  have e3 : wrap64 (c + 2 + 1) = c + 3 := by rw [show c + 2 + 1 = c + 3 by omega]; exact w64 (by omega) (by omega)
  refine ⟨⟨s1, c + 1, s2⟩, c + 3, ⟨hs1, rfl, hs2, rfl⟩, by omega, by omega, fun r hr => st_laws_markValueS_l0 (ev_pos (by omega) (Ev.bind hs1 (ev_pos (by omega) (ev_bindc rfl (ev_bindc rfl ?_)))))⟩
  simp only [e1, e2, e3]
  refine Ev.bind hs2 ?_
  simp only [Int.toNat_natCast, rdset_v hi, List.set_set, w64s i (by omega)]
  exact hr
theorem heldValueS_ev (ys : List S41) (hl : ys.length ≤ 1048576) (c d : Int) (hc0 : 0 ≤ c) (hd : d ≤ 2305843009213693952) (h : Chain MarkValueS ys c d) : Ev (fun k => laws_heldValueS.f k ys c) d := by
 refine ev_held (fun k ys c i => laws_heldValueS.l0 k ys c (i : Int)) MarkValueS (fun x c d h => by have := h.2.2.2; omega) ?_ ?_ ys hl c d hc0 hd h
 ·intro ys c
  exact st_laws_heldValueS_l0 (ev_neg (by omega) (ev_some rfl))
 ·intro ys c c' i hi h20 hE h0 h1 r hr
  obtain ⟨hE1, hE2, hE3, rfl⟩ := hE
  have e1 : wrap64 (c + 1) = c + 1 := w64 (by omega) (by omega)
  have e2 : wrap64 (c + 1 + 1) = c + 2 := by rw [show c + 1 + 1 = c + 2 by omega]; exact w64 (by omega) (by omega)
  have e3 : wrap64 (c + 2 + 1) = c + 3 := by rw [show c + 2 + 1 = c + 3 by omega]; exact w64 (by omega) (by omega)
  have ex : rd_T41 ys (i : Int) = ys[i] := getD_get hi
  refine st_laws_heldValueS_l0 (ev_pos (by omega) (ev_pos (by omega) (Ev.bind hE1 (ev_pos (by rw [ex]) (ev_pos (by rw [ex, e1]; exact hE2) ?_)))))
  rw [e1, e2]
  refine Ev.bind hE3 (ev_pos (by rw [ex]) ?_)
  rw [e3, w64s i (by omega)]
  exact hr
def Bs (l : List Int) : Prop := ∀ x ∈ l, 0 ≤ x ∧ x < 256
theorem bs_take {l : List Int} (h : Bs l) (n : Nat) : Bs (l.take n) := fun x hx => h x (List.mem_of_mem_take hx)
theorem bs_drop {l : List Int} (h : Bs l) (n : Nat) : Bs (l.drop n) := fun x hx => h x (List.mem_of_mem_drop hx)
theorem bs_zeros (n : Nat) : Bs (List.replicate n 0) := fun x hx => by
 obtain rfl := List.eq_of_mem_replicate hx
 omega
theorem bs_rd {l : List Int} (h : Bs l) (i : Int) : 0 ≤ rd l i ∧ rd l i < 256 := by
 unfold rd
 rw [List.getD_eq_getElem?_getD]
 rcases Nat.lt_or_ge i.toNat l.length with hl | hl
 ·rw [List.getElem?_eq_getElem hl]
  exact h _ (List.getElem_mem hl)
 ·rw [List.getElem?_eq_none hl]
  exact ⟨by decide, by decide⟩
theorem take_bs (l : List Int) (s : Bool) (n : Nat) (h : Bs l) : Bs (impl_take.f l s n).1 ∧ Bs (impl_take.f l s n).2.2 := by
 unfold impl_take.f; split
 ·exact ⟨h, bs_zeros n⟩
 ·exact ⟨bs_drop h n, bs_take h n⟩
theorem take_short (l : List Int) (n : Nat) : (impl_take.f l true n).2.1 = true := by
 unfold impl_take.f; split <;> rfl
theorem text_eq (l : List Int) (s : Bool) (h : Bs l) : impl_text.f l s = some ((impl_take.f (impl_take.f l s 1).1 (impl_take.f l s 1).2.1 (rd (impl_take.f l s 1).2.2 0).toNat).1, (impl_take.f (impl_take.f l s 1).1 (impl_take.f l s 1).2.1 (rd (impl_take.f l s 1).2.2 0).toNat).2.1, strOfNums (impl_take.f (impl_take.f l s 1).1 (impl_take.f l s 1).2.1 (rd (impl_take.f l s 1).2.2 0).toNat).2.2) := by
 unfold impl_text.f
 rw [if_pos (bs_rd (take_bs l s 1 h).2 0)]
theorem text_some (l : List Int) (s : Bool) (h : Bs l) : ∃ l2 s2 t, impl_text.f l s = some (l2, s2, t) ∧ Bs l2 ∧ (s = true → s2 = true) := by
 refine ⟨_, _, _, text_eq l s h, (take_bs _ _ _ (take_bs l s 1 h).1).1, fun hs => ?_⟩
 rw [hs, take_short, take_short]
theorem spec_short (l : List Int) (p n : Nat) : spec_take.f l p true n = (p, true, []) := by
 unfold spec_take.f; rw [if_pos (.inl rfl)]
theorem byte_short (l : List Int) (p : Nat) : spec_byte.f l p true = some (p, true, 0) := by
 unfold spec_byte.f; rw [spec_short]; rfl
theorem take_rel (b : List Int) (p n : Nat) (hp : p ≤ b.length) :
  (b.length < p + n ∧ impl_take.f (b.drop p) false n = (b.drop p, true, List.replicate n 0) ∧ spec_take.f b p false n = (p, true, [])) ∨
  (p + n ≤ b.length ∧ impl_take.f (b.drop p) false n = (b.drop (p + n), false, (b.drop p).take n) ∧ spec_take.f b p false n = (p + n, false, (b.drop p).take n)) := by
 unfold impl_take.f spec_take.f
 rw [List.length_drop]
 rcases Nat.lt_or_ge b.length (p + n) with h | h
 ·exact .inl ⟨h, by rw [if_pos (by omega)], by rw [if_pos (.inr h)]⟩
 ·refine .inr ⟨h, ?_, ?_⟩
  ·rw [if_neg (by omega), List.drop_drop]
  ·rw [if_neg (fun h2 => h2.elim (fun h3 => by cases h3) (fun h3 => by omega)), List.drop_take, show p + n - p = n by omega]
theorem text_rel (b : List Int) (hB : Bs b) (p : Nat) (hp : p ≤ b.length) :
  ∃ a1 a2 a3 l2 s2 t, spec_byte.f b p false = some (a1, a2, a3) ∧ impl_text.f (b.drop p) false = some (l2, s2, t) ∧ (spec_take.f b a1 a2 a3).2.1 = s2 ∧ Bs l2 ∧
   (s2 = false → l2 = b.drop (spec_take.f b a1 a2 a3).1 ∧ t = strOfNums (spec_take.f b a1 a2 a3).2.2 ∧ (spec_take.f b a1 a2 a3).1 ≤ b.length ∧ t.size ≤ 255) := by
 have ht := text_eq (b.drop p) false (bs_drop hB p)
 have hbs := (take_bs _ (impl_take.f (b.drop p) false 1).2.1 (rd (impl_take.f (b.drop p) false 1).2.2 0).toNat (take_bs (b.drop p) false 1 (bs_drop hB p)).1).1
 rcases take_rel b p 1 hp with ⟨h1, h2, h3⟩ | ⟨h1, h2, h3⟩
 ·have hb : spec_byte.f b p false = some (p, true, 0) := by unfold spec_byte.f; rw [h3]; rfl
  refine ⟨p, true, 0, _, _, _, hb, ht, ?_, hbs, fun hs => ?_⟩
  ·rw [h2, spec_short, take_short]
  ·rw [h2, take_short] at hs; cases hs
 ·have hr : 0 ≤ rd ((b.drop p).take 1) 0 ∧ rd ((b.drop p).take 1) 0 < 256 := bs_rd (bs_take (bs_drop hB p) 1) 0
  have hne : ¬ (b.drop p).take 1 = [] := fun e => by
   have := congrArg List.length e
   rw [List.length_take, List.length_drop] at this
   simp at this; omega
  have hb : spec_byte.f b p false = some (p + 1, false, (rd ((b.drop p).take 1) 0).toNat) := by
   unfold spec_byte.f
   rw [h3]
   simp only
   rw [if_neg hne, if_pos hr]
  refine ⟨_, _, _, _, _, _, hb, ht, ?_, hbs, fun hs => ?_⟩
  ·rw [h2]
   simp only
   rcases take_rel b (p + 1) (rd ((b.drop p).take 1) 0).toNat h1 with ⟨g1, g2, g3⟩ | ⟨g1, g2, g3⟩
   ·rw [g2, g3]
   ·rw [g2, g3]
  ·rw [h2] at hs ⊢
   simp only at hs ⊢
   rcases take_rel b (p + 1) (rd ((b.drop p).take 1) 0).toNat h1 with ⟨g1, g2, g3⟩ | ⟨g1, g2, g3⟩
   ·rw [g2] at hs; cases hs
   ·rw [g2, g3]
    refine ⟨rfl, rfl, g1, ?_⟩
    rw [strOfNums_size, List.length_take]
    omega
theorem num_rel : ∀ (o : List Int) (j : Nat) (u : Int), Bs o → j + o.length ≤ 8 → 0 ≤ u → u < 2 ^ (8 * j) → impl_num j u o = spec_num j u o
 | [], _, _, _, _, _, _ => rfl
 | c :: r, j, u, hb, hl, h0, h1 => by
  have hc := hb c (List.mem_cons_self ..)
  rw [List.length_cons] at hl
  have hj : j ≤ 7 := by omega
  obtain ⟨a, ha⟩ := Int.eq_ofNat_of_zero_le hc.1
  obtain ⟨v, hv⟩ := Int.eq_ofNat_of_zero_le h0
  subst ha; subst hv
  obtain ⟨M, hM⟩ : ∃ M, M = 2 ^ (8 * j) := ⟨_, rfl⟩
  have hMi : ((2 : Int) ^ (8 * j)) = ((M : Nat) : Int) := by rw [hM, Int.natCast_pow]; rfl
  have hvM : v < M := by rw [hMi] at h1; omega
  have ha2 : a < 256 := by omega
  have hM56 : M ≤ 72057594037927936 := by
   rw [hM]
   exact Nat.le_trans (Nat.pow_le_pow_right (by decide) (show 8 * j ≤ 56 by omega)) (by decide)
  have hprod : a * M ≤ 255 * M := Nat.mul_le_mul_right M (by omega)
  have hM256 : (2 : Int) ^ (8 * (j + 1)) = ((256 * M : Nat) : Int) := by
   have e8 : (2 : Int) ^ 8 = 256 := by decide
   rw [show 8 * (j + 1) = 8 * j + 8 by omega, Int.pow_add, hMi, e8, Int.natCast_mul]
   omega
  have e1 : IntKind.u64.wrap ((a : Nat) : Int) = ((a : Nat) : Int) := uw a (by omega)
  have e2 : IntKind.u64.wrap (((a : Nat) : Int) * 2 ^ (8 * j)) = ((a * M : Nat) : Int) := by
   rw [hMi, ← Int.natCast_mul]; exact uw _ (by omega)
  have e3 : Go.bits .or .u64 ((v : Nat) : Int) ((a * M : Nat) : Int) = ((v + a * M : Nat) : Int) := or_gen v (a * M) (by rw [Nat.or_comm, or_nat a v (8 * j) M hM.symm hvM]; omega) (by omega)
  have e4 : IntKind.u64.wrap (((v : Nat) : Int) + ((a * M : Nat) : Int)) = ((v + a * M : Nat) : Int) := by
   rw [← Int.natCast_add]; exact uw _ (by omega)
  unfold impl_num spec_num
  rw [e1, e2, e3, e4]
  refine num_rel r (j + 1) _ (fun x hx => hb x (List.mem_cons_of_mem _ hx)) (by omega) (by omega) ?_
  rw [hM256]
  omega
def ValFit (x : S41) : Prop := x.f0.size ≤ 255 ∧ x.f2.size ≤ 255
theorem go_rel (b : List Int) (hB : Bs b) : ∀ (n p : Nat) (d : List S41), p ≤ b.length → (∀ x ∈ d, ValFit x) →
  (∃ p2 d2, impl_ReadSave.go n (b.drop p) false d = some none ∧ spec_ReadSave.go b n p false d = some (p2, true, d2)) ∨
  (∃ p2 d2, impl_ReadSave.go n (b.drop p) false d = some (some (d2, b.drop p2)) ∧ spec_ReadSave.go b n p false d = some (p2, false, d2) ∧ p2 ≤ b.length ∧ (∀ x ∈ d2, ValFit x) ∧ d2.length = d.length + n)
 | 0, p, d, hp, hd => .inr ⟨p, d, rfl, rfl, hp, hd, rfl⟩
 | n + 1, p, d, hp, hd => by
  have short : ∀ (q : Nat) (e : List S41), spec_ReadSave.go b n q true e = some (q, true, e) := fun q e => by
   cases n <;> rfl
  obtain ⟨a1, a2, a3, l1, s1, t1, ha, hi1, hs1, hb1, ok1⟩ := text_rel b hB p hp
  unfold impl_ReadSave.go spec_ReadSave.go
  rw [if_neg (by decide), ha, hi1, Option.bind_some, Option.bind_some]
  simp only
  obtain ⟨⟨p2, s2, o2⟩, h2⟩ : ∃ x, x = spec_take.f b a1 a2 a3 := ⟨_, rfl⟩
  rw [← h2] at hs1 ok1 ⊢
  simp only at hs1 ok1 ⊢
  subst hs1
  cases s2 with
  | true =>
   obtain ⟨l3, s3, t3, hi3, hb3, hs3⟩ := text_some (impl_take.f l1 true 8).1 (impl_take.f l1 true 8).2.1 (take_bs l1 true 8 hb1).1
   rw [hi3, spec_short, byte_short, Option.bind_some, Option.bind_some]
   simp only
   rw [spec_short, hs3 (take_short l1 8), if_pos rfl, short]
   exact .inl ⟨_, _, rfl, rfl⟩
  | false =>
   obtain ⟨rfl, rfl, hp2, hz1⟩ := ok1 rfl
   rcases take_rel b p2 8 hp2 with ⟨g1, g2, g3⟩ | ⟨g1, g2, g3⟩
   ·rw [g2, g3]
    simp only
    obtain ⟨l3, s3, t3, hi3, hb3, hs3⟩ := text_some (b.drop p2) true (bs_drop hB p2)
    rw [hi3, byte_short, Option.bind_some, Option.bind_some]
    simp only
    rw [spec_short, hs3 rfl, if_pos rfl, short]
    exact .inl ⟨_, _, rfl, rfl⟩
   ·rw [g2, g3]
    simp only
    obtain ⟨c1, c2, c3, l3, s3, t3, hc, hi3, hs3, hb3, ok3⟩ := text_rel b hB (p2 + 8) g1
    rw [hc, hi3, Option.bind_some, Option.bind_some]
    simp only
    obtain ⟨⟨p5, s5, o5⟩, h5⟩ : ∃ x, x = spec_take.f b c1 c2 c3 := ⟨_, rfl⟩
    rw [← h5] at hs3 ok3 ⊢
    simp only at hs3 ok3 ⊢
    subst hs3
    cases s5 with
    | true =>
     rw [if_pos rfl, short]
     exact .inl ⟨_, _, rfl, rfl⟩
    | false =>
     obtain ⟨rfl, rfl, hp5, hz3⟩ := ok3 rfl
     rw [if_neg (by decide)]
     have hnum := num_rel ((b.drop p2).take 8) 0 0 (bs_take (bs_drop hB p2) 8) (by rw [List.length_take]; omega) (by omega) (by decide)
     rw [hnum]
     have hd2 : ∀ x ∈ d ++ [(⟨strOfNums o2, wrap64 (spec_num 0 0 ((b.drop p2).take 8)), strOfNums o5⟩ : S41)], ValFit x := fun x hx => by
      rcases List.mem_append.1 hx with h | h
      ·exact hd x h
      ·obtain rfl := List.mem_singleton.1 h
       exact ⟨hz1, hz3⟩
     rcases go_rel b hB n p5 _ hp5 hd2 with h | ⟨p6, d6, k1, k2, k3, k4, k5⟩
     ·exact .inl h
     ·exact .inr ⟨p6, d6, k1, k2, k3, k4, by rw [k5, List.length_append]; simp; omega⟩
theorem mark_rel (l : List Int) (hB : Bs l) (hl : 4 ≤ l.length) : (strOfNums (l.take 4)).toList = [83, 65, 86, 69] ↔ (rd l 0 = 83 ∧ rd l 1 = 65 ∧ rd l 2 = 86 ∧ rd l 3 = 69) := by
 match l, hl with
 | a :: b :: c :: d :: r, _ =>
  have ha := hB a (by simp)
  have hb := hB b (by simp)
  have hc := hB c (by simp)
  have hd := hB d (by simp)
  have e : (strOfNums ((a :: b :: c :: d :: r).take 4)).toList = [UInt8.ofNat a.toNat, UInt8.ofNat b.toNat, UInt8.ofNat c.toNat, UInt8.ofNat d.toNat] := by
   rw [ByteArray.toList_eq]; rfl
  have one : ∀ (x : Int) (n : Nat), 0 ≤ x → x < 256 → n < 256 → (UInt8.ofNat x.toNat = UInt8.ofNat n ↔ x = (n : Int)) := fun x n h0 h1 h2 => by
   constructor
   ·intro h
    have := congrArg UInt8.toNat h
    simp at this
    omega
   ·intro h; subst h; rfl
  rw [e]
  have r0 : rd (a :: b :: c :: d :: r) 0 = a := rfl
  have r1 : rd (a :: b :: c :: d :: r) 1 = b := rfl
  have r2 : rd (a :: b :: c :: d :: r) 2 = c := rfl
  have r3 : rd (a :: b :: c :: d :: r) 3 = d := rfl
  rw [r0, r1, r2, r3]
  simp only [List.cons.injEq, and_true]
  rw [show (83 : UInt8) = UInt8.ofNat 83 from rfl, show (65 : UInt8) = UInt8.ofNat 65 from rfl, show (86 : UInt8) = UInt8.ofNat 86 from rfl, show (69 : UInt8) = UInt8.ofNat 69 from rfl, one a 83 ha.1 ha.2 (by decide), one b 65 hb.1 hb.2 (by decide), one c 86 hc.1 hc.2 (by decide), one d 69 hd.1 hd.2 (by decide)]
  rfl
def fourOf (d : Int) : List Int := [(d / 16777216) % 256, (d / 65536) % 256, (d / 256) % 256, d % 256]
theorem four_some (d : Int) : impl_four.f d = some (fourOf d) := rfl
theorem equal_ev (xs ys : List Int) (hx : xs.length ≤ 1048576) (b : Bool) (hb : b = true ↔ xs = ys) : Ev (fun k => slices_Equal_byte_byte.f k xs ys) b := by
 refine ev_ite (fun hl => ?_) fun hl => ev_some (bool_false hb (fun e => hl (by rw [e]))).symm
 have hl' : xs.length = ys.length := by omega
 refine ev_all xs.length (fun k i => slices_Equal_byte_byte.l0 k xs ys (xs.length : Int) (i : Int)) (fun i => rd xs (i : Int) = rd ys (i : Int)) true b ?_ ?_ ?_ ?_
 ·rw [hb]; constructor
  ·intro e; exact ⟨rfl, fun i _ => by rw [e]⟩
  ·rintro ⟨_, h⟩
   refine List.ext_getElem hl' fun i h1 h2 => ?_
   have := h i h1
   rwa [rd_get h1, rd_get h2] at this
 ·exact Ev.step (fun _ => rfl) (ev_neg (by omega) (ev_some rfl))
 ·intro i hi _ ho r hr
  refine Ev.step (fun _ => rfl) (ev_pos (by omega) (ev_pos (by omega) (ev_pos (by omega) (ev_pos (by omega) (ev_pos ho ?_)))))
  rw [w64s i (by omega)]
  exact hr
 ·intro i hi _ ho
  exact Ev.step (fun _ => rfl) (ev_pos (by omega) (ev_pos (by omega) (ev_pos (by omega) (ev_pos (by omega) (ev_neg ho (ev_some rfl))))))
theorem sum_rel (l : List Int) (d : Int) (hl : 4 ≤ l.length) : l.drop (l.length - 4) = fourOf d ↔ ∀ j : Nat, j < 4 → rd l (((l.length - 4 : Nat) : Int) + (j : Int)) = d / 2 ^ (24 - 8 * j) % 256 := by
 have hlen : (l.drop (l.length - 4)).length = 4 := by rw [List.length_drop]; omega
 have hg : ∀ j : Nat, rd l (((l.length - 4 : Nat) : Int) + (j : Int)) = rd (l.drop (l.length - 4)) (j : Int) := fun j => by
  rw [← Int.natCast_add, rd_nat, rd_nat, List.getD_eq_getElem?_getD, List.getD_eq_getElem?_getD, List.getElem?_drop]
 simp only [hg]
 generalize l.drop (l.length - 4) = q at hlen
 match q, hlen with
 | [a, b, c, e], _ =>
  constructor
  ·intro h j hj
   rw [h]
   have : j = 0 ∨ j = 1 ∨ j = 2 ∨ j = 3 := by omega
   rcases this with rfl | rfl | rfl | rfl
   ·rfl
   ·rfl
   ·rfl
   ·show d % 256 = d / 2 ^ 0 % 256
    rw [Int.pow_zero, Int.ediv_one]
  ·intro h
   have h0 : a = d / 16777216 % 256 := h 0 (by omega)
   have h1 : b = d / 65536 % 256 := h 1 (by omega)
   have h2 : c = d / 256 % 256 := h 2 (by omega)
   have h3 : e = d / 2 ^ 0 % 256 := h 3 (by omega)
   rw [Int.pow_zero, Int.ediv_one] at h3
   rw [h0, h1, h2, h3]; rfl
theorem save_same (l : List Int) (hB : Bs l) : ∃ r1 r2 r3, Ev (fun k => spec_ReadSave.f k l) (r1, r2, r3) ∧ Ev (fun k => impl_ReadSave.f k l) (r1, r2, r3) ∧ r2.length ≤ 1000 ∧ ∀ x ∈ r2, ValFit x := by
 unfold spec_ReadSave.f impl_ReadSave.f
 by_cases h1 : 4000 < l.length
 ·exact ⟨0, [], 5, ev_pos h1 (ev_some rfl), ev_pos h1 (ev_some rfl), by simp, fun x hx => by cases hx⟩
 by_cases h2 : l.length < 10
 ·exact ⟨0, [], 1, ev_neg h1 (ev_pos h2 (ev_some rfl)), ev_neg h1 (ev_pos h2 (ev_some rfl)), by simp, fun x hx => by cases hx⟩
 have hm := mark_rel l hB (by omega)
 by_cases h3 : rd l 0 = 83 ∧ rd l 1 = 65 ∧ rd l 2 = 86 ∧ rd l 3 = 69
 case neg => exact ⟨0, [], 2, ev_neg h1 (ev_neg h2 (ev_pos h3 (ev_some rfl))), ev_neg h1 (ev_neg h2 (ev_pos (fun e => h3 (hm.1 e)) (ev_some rfl))), by simp, fun x hx => by cases hx⟩
 have h3' := Classical.not_not.mpr h3
 have h3i := Classical.not_not.mpr (hm.2 h3)
 obtain ⟨b, hb⟩ : ∃ b, b = l.take (l.length - 4) := ⟨_, rfl⟩
 have hlb : b.length = l.length - 4 := by rw [hb, List.length_take]; omega
 have hBb : Bs b := by rw [hb]; exact bs_take hB _
 have ds := digest_spec b (by omega) hBb
 have di := digest_impl b (by omega) hBb
 obtain ⟨d, hd⟩ : ∃ d, d = b.foldl digestStep 2166136261 := ⟨_, rfl⟩
 rw [← hd] at ds di
 rw [← hb]
 have hsum := sum_rel l d (by omega)
 obtain ⟨e, he⟩ := bool_of (l.drop (l.length - 4) = fourOf d)
 have heq := equal_ev (l.drop (l.length - 4)) (fourOf d) (by rw [List.length_drop]; omega) e he
 have go : ∀ {r1 : Int} {r2 : List S41} {r3 : Int}, Ev (α := Int × List S41 × Int) (fun k => if e = false then some (0, [], 3) else if 0 ≤ rd l 5 ∧ rd l 5 < 256 ∧ 0 ≤ rd l 4 ∧ rd l 4 < 256 then (impl_ReadSave.go (rd l 5).toNat (b.drop 6) false []).bind fun z => match z with
   | none => some (0, [], 1)
   | some (vs, left) => (impl_inRange.f (rd l 4) 1 250).bind fun b => if b = true then (if 0 < left.length then some (0, [], 5) else (impl_GoodValues.f k vs).bind fun g => if g = true then some (rd l 4, vs, 0) else some (0, [], 5)) else some (0, [], 5) else none) (r1, r2, r3) → Ev (α := Int × List S41 × Int) (fun k => if 4000 < l.length then some (0, [], 5) else if l.length < 10 then some (0, [], 1) else if ¬ (strOfNums (l.take 4)).toList = [83, 65, 86, 69] then some (0, [], 2) else (impl_digest.f k b).bind fun dg => (impl_four.f dg).bind fun q => (slices_Equal_byte_byte.f k (l.drop (l.length - 4)) q).bind fun e => if e = false then some (0, [], 3) else if 0 ≤ rd l 5 ∧ rd l 5 < 256 ∧ 0 ≤ rd l 4 ∧ rd l 4 < 256 then (impl_ReadSave.go (rd l 5).toNat (b.drop 6) false []).bind fun z => match z with
   | none => some (0, [], 1)
   | some (vs, left) => (impl_inRange.f (rd l 4) 1 250).bind fun b => if b = true then (if 0 < left.length then some (0, [], 5) else (impl_GoodValues.f k vs).bind fun g => if g = true then some (rd l 4, vs, 0) else some (0, [], 5)) else some (0, [], 5) else none) (r1, r2, r3) := fun h => ev_neg h1 (ev_neg h2 (ev_neg h3i (Ev.bind di (ev_bindc (four_some d) (Ev.bind heq h)))))
 by_cases h4 : ∀ j : Nat, j < 4 → rd l (((l.length - 4 : Nat) : Int) + (j : Int)) = d / 2 ^ (24 - 8 * j) % 256
 case neg =>
  have hef : e = false := bool_false he (fun h => h4 (hsum.1 h))
  exact ⟨0, [], 3, ev_neg h1 (ev_neg h2 (ev_neg h3' (Ev.bind ds (ev_neg h4 (ev_some rfl))))), go (ev_pos hef (ev_some rfl)), by simp, fun x hx => by cases hx⟩
 have het : ¬ e = false := by rw [he.2 (hsum.2 h4)]; decide
 have hr5 := bs_rd hB 5
 have hr4 := bs_rd hB 4
 have hrd : ∀ i : Nat, i < b.length → rd b (i : Int) = rd l (i : Int) := fun i hi => by
  rw [rd_nat, rd_nat, hb, List.getD_eq_getElem?_getD, List.getD_eq_getElem?_getD, List.getElem?_take, if_pos (by omega)]
 have hbyte : ∀ p : Nat, p < b.length → spec_byte.f b p false = some (p + 1, false, (rd l (p : Int)).toNat) := fun p hp => by
  unfold spec_byte.f
  rcases take_rel b p 1 (by omega) with ⟨g1, _, _⟩ | ⟨g1, _, g3⟩
  ·omega
  ·rw [g3]
   simp only
   have hone : (b.drop p).take 1 = [rd l (p : Int)] := by
    rw [← hrd p hp, rd_get hp, List.drop_eq_getElem_cons hp]; rfl
   have e0 : rd [rd l (p : Int)] 0 = rd l (p : Int) := rfl
   rw [hone, if_neg (by simp), e0, if_pos (bs_rd hB _)]
 have hb4 := hbyte 4 (by omega)
 have hb5 := hbyte 5 (by omega)
 have hv4 : (((rd l 4).toNat : Nat) : Int) = rd l 4 := by omega
 rcases go_rel b hBb (rd l 5).toNat 6 [] (by omega) (fun x hx => by cases hx) with ⟨p2, d2, k1, k2⟩ | ⟨p2, d2, k1, k2, k3, k4, k5⟩
 ·refine ⟨0, [], 1, ev_neg h1 (ev_neg h2 (ev_neg h3' (Ev.bind ds (ev_pos h4 (ev_bindc hb4 (ev_bindc hb5 (ev_bindc k2 (ev_pos rfl (ev_some rfl))))))))), go (ev_neg het (ev_pos ⟨hr5.1, hr5.2, hr4.1, hr4.2⟩ (ev_bindc k1 (ev_some rfl)))), by simp, fun x hx => by cases hx⟩
 ·have hd2l : d2.length ≤ 1000 := by rw [k5]; simp; omega
  obtain ⟨g, gs, gi, gok⟩ := values_same d2 ⟨by omega, fun y hy => by have := k4 y hy; exact ⟨by have := this.1; omega, by have := this.2; omega⟩⟩
  have spec : ∀ {r1 : Int} {r2 : List S41} {r3 : Int}, Ev (α := Int × List S41 × Int) (fun k => (spec_l1In.f (((rd l 4).toNat : Nat) : Int) 1 250).bind fun q => if q = true then (if p2 < l.length - 4 then some (0, [], 5) else (spec_GoodValues.f k d2).bind fun g => if g = true then some ((((rd l 4).toNat : Nat) : Int), d2, 0) else some (0, [], 5)) else some (0, [], 5)) (r1, r2, r3) → Ev (fun k => spec_ReadSave.f k l) (r1, r2, r3) := fun h => by
   unfold spec_ReadSave.f
   rw [← hb]
   exact ev_neg h1 (ev_neg h2 (ev_neg h3' (Ev.bind ds (ev_pos h4 (ev_bindc hb4 (ev_bindc hb5 (ev_bindc k2 (ev_neg (fun h_ => by cases h_) h))))))))
  have impl : ∀ {r1 : Int} {r2 : List S41} {r3 : Int}, Ev (α := Int × List S41 × Int) (fun k => (impl_inRange.f (rd l 4) 1 250).bind fun q => if q = true then (if 0 < (b.drop p2).length then some (0, [], 5) else (impl_GoodValues.f k d2).bind fun g => if g = true then some (rd l 4, d2, 0) else some (0, [], 5)) else some (0, [], 5)) (r1, r2, r3) → _ := fun h => go (ev_neg het (ev_pos ⟨hr5.1, hr5.2, hr4.1, hr4.2⟩ (ev_bindc k1 h)))
  unfold spec_ReadSave.f at spec
  rw [← hb] at spec
  by_cases h5 : 1 ≤ rd l 4 ∧ rd l 4 ≤ 250
  case neg =>
   refine ⟨0, [], 5, spec (ev_bindc (in_some _ _ _) (ev_neg (by rw [hv4]; simpa using h5) (ev_some rfl))), impl (ev_bindc (inr_some _ _ _) (ev_neg (by simpa using h5) (ev_some rfl))), by simp, fun x hx => by cases hx⟩
  by_cases h6 : p2 < l.length - 4
  ·refine ⟨0, [], 5, spec (ev_bindc (in_some _ _ _) (ev_pos (by rw [hv4]; simpa using h5) (ev_pos h6 (ev_some rfl)))), impl (ev_bindc (inr_some _ _ _) (ev_pos (by simpa using h5) (ev_pos (by rw [List.length_drop]; omega) (ev_some rfl)))), by simp, fun x hx => by cases hx⟩
  cases g with
  | true => exact ⟨rd l 4, d2, 0, spec (ev_bindc (in_some _ _ _) (ev_pos (by rw [hv4]; simpa using h5) (ev_neg h6 (Ev.bind gs (ev_pos rfl (ev_some (by rw [hv4]))))))), impl (ev_bindc (inr_some _ _ _) (ev_pos (by simpa using h5) (ev_neg (by rw [List.length_drop]; omega) (Ev.bind gi (ev_pos rfl (ev_some rfl)))))), hd2l, k4⟩
  | false => exact ⟨0, [], 5, spec (ev_bindc (in_some _ _ _) (ev_pos (by rw [hv4]; simpa using h5) (ev_neg h6 (Ev.bind gs (ev_neg (by decide) (ev_some rfl)))))), impl (ev_bindc (inr_some _ _ _) (ev_pos (by simpa using h5) (ev_neg (by rw [List.length_drop]; omega) (Ev.bind gi (ev_neg (by decide) (ev_some rfl)))))), by simp, fun x hx => by cases hx⟩
theorem FnExactReadSave : ∀ (l0 : List (Int)), (l0.length * 1 ≤ 140737488351232 ∧ ∀ y ∈ l0, InU8 y) → ∃ k, laws_FnExactReadSave.f k l0 = some true := by
 intro l hl
 refine Ev.rounds (g := fun k => laws_FnExactReadSave.f k l) ?_
 refine ev_ite (fun _ => ev_some rfl) fun hol => ?_
 have hol : l.length ≤ 1048576 := by omega
 have tb := toByteS_ev l hol
 obtain ⟨r1, r2, r3, hs, hi, h2, hf⟩ := save_same l (fun x hx => by have := hl.2 x hx; exact ⟨this.1, by have := this.2; omega⟩)
 have hfit : r2.length ≤ 1048576 ∧ ∀ y ∈ r2, Fit41 y := ⟨by omega, fun y hy => by have := hf y hy; exact ⟨by have := this.1; omega, by have := this.2; omega⟩⟩
 have ee := eqValueS_ev r2 hfit
 have eo := eqByteS_ev l hol
 obtain ⟨y1, d1, _, p0, p1, _, mk1⟩ := markByteS_ev l hol 1 (by omega) (by omega)
 obtain ⟨y2, d2, hch, q0, q1, ml, mk2⟩ := markValueS_ev r2 hfit.1 1 (by omega) (by omega)
 have hh := heldValueS_ev y2 (by omega) 1 d2 (by omega) (by omega) hch
 have et : (r3 != r3) = false := by simp
 refine Ev.bind tb (Ev.bind hs (Ev.bind tb (Ev.bind hi (ev_pos rfl (Ev.bind ee (ev_pos rfl ?_))))))
 simp only [et]
 refine st_laws_FnExactReadSave_j0 (ev_neg (by decide) (Ev.bind tb (Ev.bind eo (ev_pos rfl (Ev.bind mk1 (ev_neg (by omega) (ev_pos rfl (Ev.bind ee (ev_pos rfl ?_)))))))))
 simp only [et]
 refine st_laws_FnExactReadSave_j1 (ev_neg (by decide) (Ev.bind mk2 (Ev.bind hh (ev_neg (by omega) (ev_pos rfl (Ev.bind tb (Ev.bind hi (ev_pos rfl (Ev.bind ee (ev_pos rfl ?_)))))))))) 
 simp only [et]
 exact st_laws_FnExactReadSave_j2 (ev_neg (by decide) (Ev.bind hh (ev_neg (by omega) (ev_pos rfl (ev_some rfl)))))
end Go.Proofs.Ytndgkdnbacoenaa.Pure
