/- Texts of a row. -/
import Derived.Test.YtndgkdnbacoenabZFnMeant3
import Derived.Test.YtndgkdnbacoenabZFnMeant4
namespace Go.Proofs.Ytndgkdnbacoenab.PFnMeant
open Go.RowKit Go.Proofs.YtndgkdnbacoenabW.PrintWords Go.Proofs.YtndgkdnbacoenabW.PrintLast Go.Proofs.YtndgkdnbacoenabW.PrintMore
attribute [local go_sem] max2_int min2_int max_two min_two max_three min_three max_four min_four
set_option linter.unusedVariables false
set_option linter.unusedSimpArgs false
def impl_GoodBinds.l0 : Nat → List (S50) → List (S50) → Int → Int → Option (Bool)
 | 0, _, _, _, _ => none
 | k + 1, x0, x5, x6, x7 => if x7 < x6 then (if 0 ≤ x7 then (if x7 < (x5.length : Int) then ((impl_GoodName.f k ((rd_T50 x5 x7).f0)).bind fun t338 => (if t338 = true then (if x7 > 0 then (if 0 ≤ (wrap64 (x7 - 1)) then (if (wrap64 (x7 - 1)) < (x0.length : Int) then (if ((Op.bytesLess (((rd_T50 x0 (wrap64 (x7 - 1))).f0).toList) (((rd_T50 x5 x7).f0).toList)) = true) then ((impl_isChord.f k ((rd_T50 x5 x7).f1)).bind fun t340 => (if t340 = true then ((impl_chordPlace.f k x0 ((rd_T50 x5 x7).f1)).bind fun t341 => (if t341 = x7 then (impl_GoodBinds.l0 k x0 x5 x6 (wrap64 (x7 + 1))) else (some false))) else (some false))) else (some false)) else (none)) else (none)) else ((impl_isChord.f k ((rd_T50 x5 x7).f1)).bind fun t342 => (if t342 = true then ((impl_chordPlace.f k x0 ((rd_T50 x5 x7).f1)).bind fun t343 => (if t343 = x7 then (impl_GoodBinds.l0 k x0 x5 x6 (wrap64 (x7 + 1))) else (some false))) else (some false)))) else (some false))) else (none)) else (none)) else (some (decide ((x0.length : Int) ≤ 20)))
def impl_GoodBinds.f (k : Nat) (l0 : List (S50)) : Option (Bool) := impl_GoodBinds.l0 k l0 l0 (l0.length : Int) 0
theorem impl_GoodBinds.mono_l : ∀ k, (∀ y0 y1 y2 y3, LeO (impl_GoodBinds.l0 k y0 y1 y2 y3) (impl_GoodBinds.l0 (k + 1) y0 y1 y2 y3))
 | 0 => fun _ _ _ _ r h => by simp [impl_GoodBinds.l0] at h
 | k + 1 => by
  have ih0 := impl_GoodBinds.mono_l k
  ·intro y0 y1 y2 y3
   unfold impl_GoodBinds.l0
   repeat' first
   | (with_reducible exact ih0 _ _ _ _)
   | (with_reducible exact impl_GoodName.mono _ _)
   | (with_reducible exact impl_chordPlace.mono _ _ _)
   | (with_reducible exact impl_isChord.mono _ _)
   | (with_reducible first | exact LeO.refl _ | exact LeO.none _ | refine LeO.ite ?_ ?_ | refine LeO.bind ?_ (fun _ => ?_))
   | exact ih0 _ _ _ _
   | exact impl_GoodName.mono _ _
   | exact impl_chordPlace.mono _ _ _
   | exact impl_isChord.mono _ _ | exact LeO.none _ | refine LeO.ite ?_ ?_ | refine LeO.bind ?_ (fun _ => ?_)
theorem impl_GoodBinds.mono : ∀ a0 k, LeO (impl_GoodBinds.f k a0) (impl_GoodBinds.f (k + 1) a0) := by
 intro a0 k
 have ih0 := impl_GoodBinds.mono_l k
 unfold impl_GoodBinds.f
 repeat' first
   | (with_reducible exact ih0 _ _ _ _)
   | (with_reducible exact impl_GoodName.mono _ _)
   | (with_reducible exact impl_chordPlace.mono _ _ _)
   | (with_reducible exact impl_isChord.mono _ _)
   | (with_reducible first | exact LeO.refl _ | exact LeO.none _ | refine LeO.ite ?_ ?_ | refine LeO.bind ?_ (fun _ => ?_))
   | exact ih0 _ _ _ _
   | exact impl_GoodName.mono _ _
   | exact impl_chordPlace.mono _ _ _
   | exact impl_isChord.mono _ _ | exact LeO.none _ | refine LeO.ite ?_ ?_ | refine LeO.bind ?_ (fun _ => ?_)
def impl_GoodBinds.T4 : Bool × List (List Nat × List Nat) := (true, [([], []), ([0], [0]), ([1], [1]), ([2], [2]), ([3, 2], [3]), ([4], [4]), ([5, 4], [4, 5]), ([6, 4, 4], [4, 6]), ([7], [7]), ([7], [7]), ([9, 7], [7, 9]), ([8, 10, 7], [7, 8, 10]), ([11, 7], [7, 11]), ([12, 7], [7, 12]), ([7], [7]), ([14, 7], [7, 14]), ([13, 15, 7], [7, 13, 15]), ([7, 16, 4], [4, 7, 16]), ([4, 17], [4, 17]), ([18, 7], [18]), ([19], [19]), ([20, 19], [19, 20]), ([21, 19, 19], [19, 21]), ([22, 19], [19, 22]), ([19, 23], [19, 23]), ([24, 22], [24]), ([25], [25]), ([25], [25]), ([27, 25], [25, 27]), ([26, 28, 25, 25], [25, 26, 28]), ([25], [25]), ([29, 30, 25], [25, 29, 30]), ([25, 31], [25, 31])])
def impl_GoodBinds.B4 : List Nat := [0, 1, 3, 7, 15, 31, 63, 127, 255, 255, 767, 2047, 4095, 8191, 255, 16639, 65535, 131071, 262143, 524287, 1048575, 2097151, 4194303, 8388607, 16777215, 33554431, 67108863, 67108863, 201326591, 536870911, 67108863, 2147483647, 4294967295]
theorem impl_GoodBinds.tab4 : rtab .any (opsOf Try.f9 4) = impl_GoodBinds.T4 := by kernel_rfl
theorem impl_GoodBinds.bits4 : waitsOk impl_GoodBinds.T4.2 impl_GoodBinds.B4 = true := by kernel_rfl
set_option maxHeartbeats 8000000 in
set_option maxRecDepth 100000 in
theorem impl_GoodBinds.calls (k : Nat) (A0 : Option Addr) (c0 : Nat) (l0 : List (S50)) (r : Bool) (w : World) (hr0 : Kd.C k50 w A0 l0.length l0) (hc0 : l0.length ≤ c0) (h : impl_GoodBinds.f k l0 = some r) :
  Calls Try.prog 9 #[.slice A0 l0.length c0] w fun e w' => e = .returned (.bool r) ∧ Below w.heap.size w w' := by
 have hu50 := Try.underlying50
 have HR0 := Aside0.mk hr0
 have HC0 := Aside0.mk hc0
 clear hr0 hc0
 have HB := Aside0.mk (Below.refl w.heap.size w)
 have H : (impl_GoodBinds.l0 k l0 l0 (l0.length : Int) 0) = some r := h
 clear h
 have H' := Aside0.mk H
 clear H
 go_enter Try.func9, Try.ntmps9
 go_wp2
 go_loopg [7] k (fun kq v7 w' => ∃ (x7_1 : Int), v7 = .int .i64 x7_1 ∧ Aside0 (impl_GoodBinds.l0 kq l0 l0 (l0.length : Int) x7_1 = some r) ∧ Aside0 (kq ≤ k) ∧ Aside0 (Below w.heap.size w w'))
 case atStart => exact ⟨(0), tE, H', ⟨Nat.le_refl _⟩, ⟨by repeat (first | (with_reducible first | exact HB.out | apply below_alloc | apply pw_below_drewN | apply below_drew1) | exact HB.out)⟩⟩
 case round =>
  clear H'
  obtain ⟨x7_1, rfl, HA, HK1, HB⟩ := hrel
  cases gk with
  | zero => exact absurd HA.out (by simp [impl_GoodBinds.l0])
  | succ k1 =>
   have H := HA.out
   clear HA
   simp only [impl_GoodBinds.l0] at H
   by_cases c2 : x7_1 < (l0.length : Int)
   ·rw [if_pos c2] at H
    have c2b0 : decide (x7_1 < (l0.length : Int)) = true := decide_eq_true c2
    clear c2
    by_cases c3 : 0 ≤ x7_1
    ·rw [if_pos c3] at H
     have c3b0 : decide (0 ≤ x7_1) = true := decide_eq_true c3
     clear c3
     by_cases c4 : x7_1 < (l0.length : Int)
     ·rw [if_pos c4] at H
      have c4b0 : decide (x7_1 < (l0.length : Int)) = true := decide_eq_true c4
      clear c4
      replace H := Option.bind_eq_some_iff.mp H
      obtain ⟨t338, A50, H⟩ := H
      replace H : (if t338 = true then (if x7_1 > 0 then (if 0 ≤ (wrap64 (x7_1 - 1)) then (if (wrap64 (x7_1 - 1)) < (l0.length : Int) then (if ((Op.bytesLess (((rd_T50 l0 (wrap64 (x7_1 - 1))).f0).toList) (((rd_T50 l0 x7_1).f0).toList)) = true) then ((impl_isChord.f k1 ((rd_T50 l0 x7_1).f1)).bind fun t340 => (if t340 = true then ((impl_chordPlace.f k1 l0 ((rd_T50 l0 x7_1).f1)).bind fun t341 => (if t341 = x7_1 then (impl_GoodBinds.l0 k1 l0 l0 (l0.length : Int) (wrap64 (x7_1 + 1))) else (some false))) else (some false))) else (some false)) else (none)) else (none)) else ((impl_isChord.f k1 ((rd_T50 l0 x7_1).f1)).bind fun t342 => (if t342 = true then ((impl_chordPlace.f k1 l0 ((rd_T50 l0 x7_1).f1)).bind fun t343 => (if t343 = x7_1 then (impl_GoodBinds.l0 k1 l0 l0 (l0.length : Int) (wrap64 (x7_1 + 1))) else (some false))) else (some false)))) else (some false)) = some r := H
      have A5 := Aside0.mk A50
      clear A50
      by_cases c6 : t338 = true
      ·subst c6
       have H1 : (if x7_1 > 0 then (if 0 ≤ (wrap64 (x7_1 - 1)) then (if (wrap64 (x7_1 - 1)) < (l0.length : Int) then (if ((Op.bytesLess (((rd_T50 l0 (wrap64 (x7_1 - 1))).f0).toList) (((rd_T50 l0 x7_1).f0).toList)) = true) then ((impl_isChord.f k1 ((rd_T50 l0 x7_1).f1)).bind fun t340 => (if t340 = true then ((impl_chordPlace.f k1 l0 ((rd_T50 l0 x7_1).f1)).bind fun t341 => (if t341 = x7_1 then (impl_GoodBinds.l0 k1 l0 l0 (l0.length : Int) (wrap64 (x7_1 + 1))) else (some false))) else (some false))) else (some false)) else (none)) else (none)) else ((impl_isChord.f k1 ((rd_T50 l0 x7_1).f1)).bind fun t342 => (if t342 = true then ((impl_chordPlace.f k1 l0 ((rd_T50 l0 x7_1).f1)).bind fun t343 => (if t343 = x7_1 then (impl_GoodBinds.l0 k1 l0 l0 (l0.length : Int) (wrap64 (x7_1 + 1))) else (some false))) else (some false)))) = some r := by rw [if_pos rfl] at H; exact H
       clear H
       have H := H1
       clear H1
       by_cases c7 : x7_1 > 0
       ·rw [if_pos c7] at H
        have c7b0 : decide (0 < x7_1) = true := decide_eq_true c7
        clear c7
        obtain ⟨ji8, hji8⟩ : ∃ j_ : Int, (wrap64 (x7_1 - 1)) = j_ := ⟨_, rfl⟩
        replace H : (if 0 ≤ (ji8) then (if (ji8) < (l0.length : Int) then (if ((Op.bytesLess (((rd_T50 l0 (ji8)).f0).toList) (((rd_T50 l0 x7_1).f0).toList)) = true) then ((impl_isChord.f k1 ((rd_T50 l0 x7_1).f1)).bind fun t340 => (if t340 = true then ((impl_chordPlace.f k1 l0 ((rd_T50 l0 x7_1).f1)).bind fun t341 => (if t341 = x7_1 then (impl_GoodBinds.l0 k1 l0 l0 (l0.length : Int) (wrap64 (x7_1 + 1))) else (some false))) else (some false))) else (some false)) else (none)) else (none)) = some r := by first | (rw [hji8] at H; exact H) | (simp only [hji8] at H ⊢; exact H)
        (try rw [hji8] at A5)
        have hji8w : (IntKind.i64.wrap (x7_1 - 1)) = ji8 := (i64_w _).trans hji8
        by_cases c9 : 0 ≤ (ji8)
        ·rw [if_pos c9] at H
         have c9b0 : decide (0 ≤ (ji8)) = true := decide_eq_true c9
         clear c9
         by_cases c10 : (ji8) < (l0.length : Int)
         ·rw [if_pos c10] at H
          have c10b0 : decide ((ji8) < (l0.length : Int)) = true := decide_eq_true c10
          clear c10
          by_cases c11 : ((Op.bytesLess (((rd_T50 l0 (ji8)).f0).toList) (((rd_T50 l0 x7_1).f0).toList)) = true)
          ·rw [if_pos c11] at H
           have c11b0 : (Op.bytesLess (((rd_T50 l0 (ji8)).f0).toList) (((rd_T50 l0 x7_1).f0).toList)) = true := c11
           clear c11
           replace H := Option.bind_eq_some_iff.mp H
           obtain ⟨t340, A120, H⟩ := H
           replace H : (if t340 = true then ((impl_chordPlace.f k1 l0 ((rd_T50 l0 x7_1).f1)).bind fun t341 => (if t341 = x7_1 then (impl_GoodBinds.l0 k1 l0 l0 (l0.length : Int) (wrap64 (x7_1 + 1))) else (some false))) else (some false)) = some r := H
           have A12 := Aside0.mk A120
           clear A120
           by_cases c13 : t340 = true
           ·subst c13
            have H1 : ((impl_chordPlace.f k1 l0 ((rd_T50 l0 x7_1).f1)).bind fun t341 => (if t341 = x7_1 then (impl_GoodBinds.l0 k1 l0 l0 (l0.length : Int) (wrap64 (x7_1 + 1))) else (some false))) = some r := by rw [if_pos rfl] at H; exact H
            clear H
            have H := H1
            clear H1
            replace H := Option.bind_eq_some_iff.mp H
            obtain ⟨t341, A140, H⟩ := H
            replace H : (if t341 = x7_1 then (impl_GoodBinds.l0 k1 l0 l0 (l0.length : Int) (wrap64 (x7_1 + 1))) else (some false)) = some r := H
            have A14 := Aside0.mk A140
            clear A140
            by_cases c15 : t341 = x7_1
            ·rw [if_pos c15] at H
             have c15b0 : (t341 == x7_1) = true := beq_iff_eq.mpr c15
             have c15b1 : (t341 != x7_1) = false := bne_eq_false_iff_eq.mpr c15
             clear c15
             have H' := Aside0.mk H
             clear H
             have p336 : 0 ≤ (x7_1 : Int) := of_decide_eq_true hE
             have q336 : x7_1 < (l0.length : Int) := of_decide_eq_true hE
             obtain ⟨ad336, A336_1, c336_1, e336, hx336_0, hx336_1, hl336_1, hi336_1⟩ := at_T50 HR0.out x7_1 p336 q336
             cases e336
             replace hx336_0 := (HB.out.cell (World.block_lt_of_cell? w _ hx336_0)).trans hx336_0
             replace hx336_1 := (HB.out.cell (World.block_lt_of_cell? w _ hx336_1)).trans hx336_1
             have HR336_1 := Aside0.mk hi336_1
             have HC336_1 := Aside0.mk hl336_1
             clear hi336_1 hl336_1
             replace p336 := eq_true p336
             replace q336 := eq_true q336
             try go_wp2_with (first | ((with_reducible refine gate_dst (N := 4) rfl ?_); refine box_event rfl (N := 4) rfl (cs := #[.string (⟨#[]⟩ : ByteArray), .slice none 0 0]) (t := 50) sE ?_; intro gb337 hg w16 hbox hb; have BK337 := Aside0.mk hbox; have GW337 := gS w hg (lU); have GE337 := gS w hg (lU); replace HB := bH (lU) hb; clear hb hbox hg; have hcz17_0 := cz BK337 0 (.string (⟨#[]⟩ : ByteArray)); have hcz17_1 := cz BK337 1 (.slice none 0 0); have hfz17_0 := fz BK337 0; have hfz17_1 := fz BK337 1) | ((with_reducible refine gate_store (t := 50) (p := 4) rfl ?_); refine store_event (t := 50) (p := 4) (v := ?vo_w18) (w1 := ((w16.setCell ⟨gb337, 0, none⟩ (.string ((rd_T50 l0 x7_1).f0))).setCell ⟨gb337, 1, none⟩ (.slice A336_1 ((rd_T50 l0 x7_1).f1).length c336_1))) ?hg ?ho ?hn ?hr ?_; (case ho => rfl); (case hg => rfl); (case hn => rfl); (case hr => first | (go_simp; done) | (go_simp; rfl) | (have hq0_ := (blk_cell BK337.out 0).trans (show _ = some _ from rfl); have hf0_ := blk_frozen BK337.out 0; have hq1_ := (blk_cell BK337.out 1).trans (show _ = some _ from rfl); have hf1_ := blk_frozen BK337.out 1; first | (go_simp; done) | (go_simp; rfl))); intro w18 hw; replace BK337 : Aside0 (w18.heap[gb337]? = some (.cells #[.string ((rd_T50 l0 x7_1).f0), .slice A336_1 ((rd_T50 l0 x7_1).f1).length c336_1] 50 (0, 0))) := ⟨(by rw [hw]; exact (by refine bU ?_; refine blk_put (cs := #[.string ((rd_T50 l0 x7_1).f0), .slice none 0 0]) ?_ 1 _ rfl; refine bU ?_; refine blk_put (cs := #[.string (⟨#[]⟩ : ByteArray), .slice none 0 0]) ?_ 0 _ rfl; refine bU ?_; exact BK337.out))⟩; replace HB : Aside0 (Below w.heap.size w w18) := ⟨(by rw [hw]; exact (lV1 GE337))⟩; clear hw))
             replace BK337 := Aside0.mk (blk_drew BK337.out)
             replace HB := Aside0.mk (below_drew1 HB.out)
             have p339 : 0 ≤ ((ji8) : Int) := of_decide_eq_true hE
             have q339 : (ji8) < (l0.length : Int) := of_decide_eq_true hE
             obtain ⟨ad339, A339_1, c339_1, e339, hx339_0, hx339_1, hl339_1, hi339_1⟩ := at_T50 HR0.out (ji8) p339 q339
             have hw339_1 := hx339_1
             have hw339_0 := hx339_0
             obtain rfl : ad336 = ad339 := (by injection e339)
             replace hx339_0 := (HB.out.cell (World.block_lt_of_cell? w _ hx339_0)).trans hx339_0
             replace hx339_1 := (HB.out.cell (World.block_lt_of_cell? w _ hx339_1)).trans hx339_1
             have HR339_1 := Aside0.mk hi339_1
             have HC339_1 := Aside0.mk hl339_1
             clear hi339_1 hl339_1
             replace p339 := eq_true p339
             replace q339 := eq_true q339
             refine start_ (n := 33) (S := fun w' => w'.cell? ⟨gb337, 0, none⟩ = some (.string ((rd_T50 l0 x7_1).f0)) ∧ w'.cell? ⟨gb337, 1, none⟩ = some (.slice A336_1 ((rd_T50 l0 x7_1).f1).length c336_1) ∧ w'.cell? (ad336.add (((ji8)).toNat * 2)) = some (.string ((rd_T50 l0 (ji8)).f0)) ∧ w'.cell? ⟨(ad336.add (((ji8)).toNat * 2)).block, (ad336.add (((ji8)).toNat * 2)).off + 1, none⟩ = some (.slice A339_1 ((rd_T50 l0 (ji8)).f1).length c339_1)) (ds := []) #[false, false, false, false, false, false, false, false, false, false, false, false, false, false, false, false, false, false, false, false, false, false, false, false, false, false, false, false, false, false, false, false, false] (by kernel_rfl) rfl rfl ⟨cz BK337 0 _, cz BK337 1 _, ((HB.out.cell (World.block_lt_of_cell? w _ hw339_0)).trans hw339_0), ((HB.out.cell (World.block_lt_of_cell? w _ hw339_1)).trans hw339_1)⟩ (fun hHeld => ?_); refine with_tabW impl_GoodBinds.tab4 impl_GoodBinds.bits4 (fun HT_ HW_ => ?_)
             generalize w18.drew = w19 at BK337 HB HR339_1 hx339_0 hx339_1 hHeld ⊢
             refine pureA 0 12 (bz 33 1) rfl rfl (any_of HT_.out (by kernel_rfl)) ?_
             refine takeA 1 13 (bz 33 3) rfl rfl (take_ofW HT_.out HW_.out (by kernel_rfl)) hHeld (by rintro w' ⟨s0, s1, s2, s3⟩; go_simp; with_reducible rfl) ?_
             refine one_ (i := 2) (N := some 14) (bz 33 7) rfl rfl (one_of HT_.out (by kernel_rfl)) (by decide) (fun K hK => ?_)
             refine goes_ Try.func23 (by kernel_rfl) rfl #[.string ((rd_T50 l0 x7_1).f0)] (by rfl) rfl rfl aE ?_
             with_reducible refine (impl_GoodName.calls k1 ((rd_T50 l0 x7_1).f0) true _ A5.out).mono ?_
             rintro e w' ⟨rfl, ⟨nd, rfl⟩⟩
             refine ⟨_, rfl, ?_⟩
             refine hK.out _ _ ⟨cz BK337 0 _, cz BK337 1 _, ((HB.out.cell (World.block_lt_of_cell? w _ hw339_0)).trans hw339_0), ((HB.out.cell (World.block_lt_of_cell? w _ hw339_1)).trans hw339_1)⟩ (fun hHeld => ?_)
             clear hK K
             refine norm_ (a' := ?_) ?_ ?_
             rotate_left
             ·show Act.put _ (some 14) _ = _
              simp only [Act.put, List.setIfInBounds_toArray, List.set_cons_zero, List.set_cons_succ, i64_w, i32_w]
              rfl
             refine pureA 3 15 (bz 33 15) rfl rfl (any_of HT_.out (by kernel_rfl)) ?_
             refine pureA 4 16 (bz 33 31) rfl rfl (any_of HT_.out (by kernel_rfl)) ?_
             refine pureA 5 17 (bz 33 63) rfl rfl (any_of HT_.out (by kernel_rfl)) ?_
             refine pureA 6 18 (bz 33 127) rfl rfl (any_of HT_.out (by kernel_rfl)) ?_
             refine pureA 7 19 (bz 33 255) rfl rfl (any_of HT_.out (by kernel_rfl)) ?_
             refine pureA 8 20 (bz 33 511) rfl rfl (any_of HT_.out (by kernel_rfl)) ?_
             refine pureA 9 21 (bz 33 1023) rfl rfl (any_of HT_.out (by kernel_rfl)) ?_
             refine pureA 10 22 (bz 33 2047) rfl rfl (any_of HT_.out (by kernel_rfl)) ?_
             refine pureA 11 23 (bz 33 4095) rfl rfl (any_of HT_.out (by kernel_rfl)) ?_
             refine pureA 12 24 (bz 33 8191) rfl rfl (any_of HT_.out (by kernel_rfl)) ?_
             refine pureA 14 26 (bz 33 24575) rfl rfl (any_of HT_.out (by kernel_rfl)) ?_
             refine takeA 13 25 (bz 33 32767) rfl rfl (take_ofW HT_.out HW_.out (by kernel_rfl)) hHeld (by rintro w' ⟨s0, s1, s2, s3⟩; go_simp; with_reducible rfl) ?_
             refine takeA 15 27 (bz 33 65535) rfl rfl (take_ofW HT_.out HW_.out (by kernel_rfl)) hHeld (by rintro w' ⟨s0, s1, s2, s3⟩; go_simp; with_reducible rfl) ?_
             refine pureA 16 28 (bz 33 131071) rfl rfl (any_of HT_.out (by kernel_rfl)) ?_
             refine pureA 17 29 (bz 33 262143) rfl rfl (any_of HT_.out (by kernel_rfl)) ?_
             refine pureA 18 30 (bz 33 524287) rfl rfl (any_of HT_.out (by kernel_rfl)) ?_
             refine pureA 19 31 (bz 33 1048575) rfl rfl (any_of HT_.out (by kernel_rfl)) ?_
             refine pureA 20 32 (bz 33 2097151) rfl rfl (any_of HT_.out (by kernel_rfl)) ?_
             refine takeA 21 33 (bz 33 4194303) rfl rfl (take_ofW HT_.out HW_.out (by kernel_rfl)) hHeld (by rintro w' ⟨s0, s1, s2, s3⟩; go_simp; with_reducible rfl) ?_
             refine one_ (i := 22) (N := some 34) (bz 33 8388607) rfl rfl (one_of HT_.out (by kernel_rfl)) (by decide) (fun K hK => ?_)
             refine goes_ Try.func24 (by kernel_rfl) rfl #[.slice A336_1 ((rd_T50 l0 x7_1).f1).length c336_1] (by rfl) rfl rfl aE ?_
             with_reducible refine (impl_isChord.calls k1 _ _ ((rd_T50 l0 x7_1).f1) true _ ?side1 ?side2 A12.out).mono ?_
             (case side1 => exact cU (Kd.C_below HR336_1.out (lV1 GE337)))
             (case side2 => exact HC336_1.out)
             rintro e w' ⟨rfl, ⟨nd, rfl⟩⟩
             refine ⟨_, rfl, ?_⟩
             refine hK.out _ _ ⟨cz BK337 0 _, cz BK337 1 _, ((HB.out.cell (World.block_lt_of_cell? w _ hw339_0)).trans hw339_0), ((HB.out.cell (World.block_lt_of_cell? w _ hw339_1)).trans hw339_1)⟩ (fun hHeld => ?_)
             clear hK K
             refine norm_ (a' := ?_) ?_ ?_
             rotate_left
             ·show Act.put _ (some 34) _ = _
              simp only [Act.put, List.setIfInBounds_toArray, List.set_cons_zero, List.set_cons_succ, i64_w, i32_w]
              rfl
             refine pureA 23 35 (bz 33 16777215) rfl rfl (any_of HT_.out (by kernel_rfl)) ?_
             refine pureA 24 36 (bz 33 33554431) rfl rfl (any_of HT_.out (by kernel_rfl)) ?_
             refine pureA 25 37 (bz 33 67108863) rfl rfl (any_of HT_.out (by kernel_rfl)) ?_
             refine pureA 26 38 (bz 33 134217727) rfl rfl (any_of HT_.out (by kernel_rfl)) ?_
             refine pureA 27 39 (bz 33 268435455) rfl rfl (any_of HT_.out (by kernel_rfl)) ?_
             refine pureA 30 42 (bz 33 1342177279) rfl rfl (any_of HT_.out (by kernel_rfl)) ?_
             refine takeA 28 40 (bz 33 1610612735) rfl rfl (take_ofW HT_.out HW_.out (by kernel_rfl)) hHeld (by rintro w' ⟨s0, s1, s2, s3⟩; go_simp; with_reducible rfl) ?_
             refine one_ (i := 29) (N := some 41) (bz 33 2147483647) rfl rfl (one_of HT_.out (by kernel_rfl)) (by decide) (fun K hK => ?_)
             refine goes_ Try.func25 (by kernel_rfl) rfl #[.slice (some ad336) l0.length c0, .slice A336_1 ((rd_T50 l0 x7_1).f1).length c336_1] (by rfl) rfl rfl aE ?_
             with_reducible refine (impl_chordPlace.calls k1 _ _ l0 _ _ ((rd_T50 l0 x7_1).f1) t341 _ ?side1 ?side2 ?side3 ?side4 A14.out).mono ?_
             (case side1 => exact cU (Kd.C_below HR0.out (lV1 GE337)))
             (case side2 => exact HC0.out)
             (case side3 => exact cU (Kd.C_below HR336_1.out (lV1 GE337)))
             (case side4 => exact HC336_1.out)
             rintro e w20 ⟨rfl, hb⟩
             refine ⟨_, rfl, ?_⟩
             replace BK337 := bB (bV BK337) hb
             replace HB := bH (lV1 GE337) hb
             (try clear hb)
             (try clear hb2)
             (try clear hk)
             (try clear hi)
             refine hK.out _ _ ⟨cz BK337 0 _, cz BK337 1 _, ((HB.out.cell (World.block_lt_of_cell? w _ hw339_0)).trans hw339_0), ((HB.out.cell (World.block_lt_of_cell? w _ hw339_1)).trans hw339_1)⟩ (fun hHeld => ?_)
             clear hK K
             refine norm_ (a' := ?_) ?_ ?_
             rotate_left
             ·show Act.put _ (some 41) _ = _
              simp only [Act.put, List.setIfInBounds_toArray, List.set_cons_zero, List.set_cons_succ, i64_w, i32_w]
              rfl
             refine pureA 31 43 (bz 33 4294967295) rfl rfl (any_of HT_.out (by kernel_rfl)) ?_
             refine pureA 32 44 (bz 33 8589934591) rfl rfl (any_of HT_.out (by kernel_rfl)) ?_
             refine done_ (done_of HT_.out (by kernel_rfl)) ?_
             try go_wp2
             go_roundg k1
             case measure => have := HK1.out; omega
             case rel => exact ⟨(wrap64 (x7_1 + 1)), tE, H', ⟨by have := HK1.out; omega⟩, ⟨by repeat (first | (with_reducible first | exact HB.out | apply below_alloc | apply pw_below_drewN | apply below_drew1 | refine below_set ?_ GE337.out) | exact HB.out)⟩⟩
            ·rw [if_neg c15] at H
             have c15b0 : (t341 == x7_1) = false := beq_eq_false_iff_ne.mpr c15
             have c15b1 : (t341 != x7_1) = true := bne_iff_ne.mpr c15
             obtain rfl := Option.some.inj H
             have p336 : 0 ≤ (x7_1 : Int) := of_decide_eq_true hE
             have q336 : x7_1 < (l0.length : Int) := of_decide_eq_true hE
             obtain ⟨ad336, A336_1, c336_1, e336, hx336_0, hx336_1, hl336_1, hi336_1⟩ := at_T50 HR0.out x7_1 p336 q336
             cases e336
             replace hx336_0 := (HB.out.cell (World.block_lt_of_cell? w _ hx336_0)).trans hx336_0
             replace hx336_1 := (HB.out.cell (World.block_lt_of_cell? w _ hx336_1)).trans hx336_1
             have HR336_1 := Aside0.mk hi336_1
             have HC336_1 := Aside0.mk hl336_1
             clear hi336_1 hl336_1
             replace p336 := eq_true p336
             replace q336 := eq_true q336
             try go_wp2_with (first | ((with_reducible refine gate_dst (N := 4) rfl ?_); refine box_event rfl (N := 4) rfl (cs := #[.string (⟨#[]⟩ : ByteArray), .slice none 0 0]) (t := 50) sE ?_; intro gb337 hg w21 hbox hb; have BK337 := Aside0.mk hbox; have GW337 := gS w hg (lU); have GE337 := gS w hg (lU); replace HB := bH (lU) hb; clear hb hbox hg; have hcz22_0 := cz BK337 0 (.string (⟨#[]⟩ : ByteArray)); have hcz22_1 := cz BK337 1 (.slice none 0 0); have hfz22_0 := fz BK337 0; have hfz22_1 := fz BK337 1) | ((with_reducible refine gate_store (t := 50) (p := 4) rfl ?_); refine store_event (t := 50) (p := 4) (v := ?vo_w23) (w1 := ((w21.setCell ⟨gb337, 0, none⟩ (.string ((rd_T50 l0 x7_1).f0))).setCell ⟨gb337, 1, none⟩ (.slice A336_1 ((rd_T50 l0 x7_1).f1).length c336_1))) ?hg ?ho ?hn ?hr ?_; (case ho => rfl); (case hg => rfl); (case hn => rfl); (case hr => first | (go_simp; done) | (go_simp; rfl) | (have hq0_ := (blk_cell BK337.out 0).trans (show _ = some _ from rfl); have hf0_ := blk_frozen BK337.out 0; have hq1_ := (blk_cell BK337.out 1).trans (show _ = some _ from rfl); have hf1_ := blk_frozen BK337.out 1; first | (go_simp; done) | (go_simp; rfl))); intro w23 hw; replace BK337 : Aside0 (w23.heap[gb337]? = some (.cells #[.string ((rd_T50 l0 x7_1).f0), .slice A336_1 ((rd_T50 l0 x7_1).f1).length c336_1] 50 (0, 0))) := ⟨(by rw [hw]; exact (by refine bU ?_; refine blk_put (cs := #[.string ((rd_T50 l0 x7_1).f0), .slice none 0 0]) ?_ 1 _ rfl; refine bU ?_; refine blk_put (cs := #[.string (⟨#[]⟩ : ByteArray), .slice none 0 0]) ?_ 0 _ rfl; refine bU ?_; exact BK337.out))⟩; replace HB : Aside0 (Below w.heap.size w w23) := ⟨(by rw [hw]; exact (lV1 GE337))⟩; clear hw))
             replace BK337 := Aside0.mk (blk_drew BK337.out)
             replace HB := Aside0.mk (below_drew1 HB.out)
             have p339 : 0 ≤ ((ji8) : Int) := of_decide_eq_true hE
             have q339 : (ji8) < (l0.length : Int) := of_decide_eq_true hE
             obtain ⟨ad339, A339_1, c339_1, e339, hx339_0, hx339_1, hl339_1, hi339_1⟩ := at_T50 HR0.out (ji8) p339 q339
             have hw339_1 := hx339_1
             have hw339_0 := hx339_0
             obtain rfl : ad336 = ad339 := (by injection e339)
             replace hx339_0 := (HB.out.cell (World.block_lt_of_cell? w _ hx339_0)).trans hx339_0
             replace hx339_1 := (HB.out.cell (World.block_lt_of_cell? w _ hx339_1)).trans hx339_1
             have HR339_1 := Aside0.mk hi339_1
             have HC339_1 := Aside0.mk hl339_1
             clear hi339_1 hl339_1
             replace p339 := eq_true p339
             replace q339 := eq_true q339
             refine start_ (n := 33) (S := fun w' => w'.cell? ⟨gb337, 0, none⟩ = some (.string ((rd_T50 l0 x7_1).f0)) ∧ w'.cell? ⟨gb337, 1, none⟩ = some (.slice A336_1 ((rd_T50 l0 x7_1).f1).length c336_1) ∧ w'.cell? (ad336.add (((ji8)).toNat * 2)) = some (.string ((rd_T50 l0 (ji8)).f0)) ∧ w'.cell? ⟨(ad336.add (((ji8)).toNat * 2)).block, (ad336.add (((ji8)).toNat * 2)).off + 1, none⟩ = some (.slice A339_1 ((rd_T50 l0 (ji8)).f1).length c339_1)) (ds := []) #[false, false, false, false, false, false, false, false, false, false, false, false, false, false, false, false, false, false, false, false, false, false, false, false, false, false, false, false, false, false, false, false, false] (by kernel_rfl) rfl rfl ⟨cz BK337 0 _, cz BK337 1 _, ((HB.out.cell (World.block_lt_of_cell? w _ hw339_0)).trans hw339_0), ((HB.out.cell (World.block_lt_of_cell? w _ hw339_1)).trans hw339_1)⟩ (fun hHeld => ?_); refine with_tabW impl_GoodBinds.tab4 impl_GoodBinds.bits4 (fun HT_ HW_ => ?_)
             generalize w23.drew = w24 at BK337 HB HR339_1 hx339_0 hx339_1 hHeld ⊢
             refine pureA 0 12 (bz 33 1) rfl rfl (any_of HT_.out (by kernel_rfl)) ?_
             refine takeA 1 13 (bz 33 3) rfl rfl (take_ofW HT_.out HW_.out (by kernel_rfl)) hHeld (by rintro w' ⟨s0, s1, s2, s3⟩; go_simp; with_reducible rfl) ?_
             refine one_ (i := 2) (N := some 14) (bz 33 7) rfl rfl (one_of HT_.out (by kernel_rfl)) (by decide) (fun K hK => ?_)
             refine goes_ Try.func23 (by kernel_rfl) rfl #[.string ((rd_T50 l0 x7_1).f0)] (by rfl) rfl rfl aE ?_
             with_reducible refine (impl_GoodName.calls k1 ((rd_T50 l0 x7_1).f0) true _ A5.out).mono ?_
             rintro e w' ⟨rfl, ⟨nd, rfl⟩⟩
             refine ⟨_, rfl, ?_⟩
             refine hK.out _ _ ⟨cz BK337 0 _, cz BK337 1 _, ((HB.out.cell (World.block_lt_of_cell? w _ hw339_0)).trans hw339_0), ((HB.out.cell (World.block_lt_of_cell? w _ hw339_1)).trans hw339_1)⟩ (fun hHeld => ?_)
             clear hK K
             refine norm_ (a' := ?_) ?_ ?_
             rotate_left
             ·show Act.put _ (some 14) _ = _
              simp only [Act.put, List.setIfInBounds_toArray, List.set_cons_zero, List.set_cons_succ, i64_w, i32_w]
              rfl
             refine pureA 3 15 (bz 33 15) rfl rfl (any_of HT_.out (by kernel_rfl)) ?_
             refine pureA 4 16 (bz 33 31) rfl rfl (any_of HT_.out (by kernel_rfl)) ?_
             refine pureA 5 17 (bz 33 63) rfl rfl (any_of HT_.out (by kernel_rfl)) ?_
             refine pureA 6 18 (bz 33 127) rfl rfl (any_of HT_.out (by kernel_rfl)) ?_
             refine pureA 7 19 (bz 33 255) rfl rfl (any_of HT_.out (by kernel_rfl)) ?_
             refine pureA 8 20 (bz 33 511) rfl rfl (any_of HT_.out (by kernel_rfl)) ?_
             refine pureA 9 21 (bz 33 1023) rfl rfl (any_of HT_.out (by kernel_rfl)) ?_
             refine pureA 10 22 (bz 33 2047) rfl rfl (any_of HT_.out (by kernel_rfl)) ?_
             refine pureA 11 23 (bz 33 4095) rfl rfl (any_of HT_.out (by kernel_rfl)) ?_
             refine pureA 12 24 (bz 33 8191) rfl rfl (any_of HT_.out (by kernel_rfl)) ?_
             refine pureA 14 26 (bz 33 24575) rfl rfl (any_of HT_.out (by kernel_rfl)) ?_
             refine takeA 13 25 (bz 33 32767) rfl rfl (take_ofW HT_.out HW_.out (by kernel_rfl)) hHeld (by rintro w' ⟨s0, s1, s2, s3⟩; go_simp; with_reducible rfl) ?_
             refine takeA 15 27 (bz 33 65535) rfl rfl (take_ofW HT_.out HW_.out (by kernel_rfl)) hHeld (by rintro w' ⟨s0, s1, s2, s3⟩; go_simp; with_reducible rfl) ?_
             refine pureA 16 28 (bz 33 131071) rfl rfl (any_of HT_.out (by kernel_rfl)) ?_
             refine pureA 17 29 (bz 33 262143) rfl rfl (any_of HT_.out (by kernel_rfl)) ?_
             refine pureA 18 30 (bz 33 524287) rfl rfl (any_of HT_.out (by kernel_rfl)) ?_
             refine pureA 19 31 (bz 33 1048575) rfl rfl (any_of HT_.out (by kernel_rfl)) ?_
             refine pureA 20 32 (bz 33 2097151) rfl rfl (any_of HT_.out (by kernel_rfl)) ?_
             refine takeA 21 33 (bz 33 4194303) rfl rfl (take_ofW HT_.out HW_.out (by kernel_rfl)) hHeld (by rintro w' ⟨s0, s1, s2, s3⟩; go_simp; with_reducible rfl) ?_
             refine one_ (i := 22) (N := some 34) (bz 33 8388607) rfl rfl (one_of HT_.out (by kernel_rfl)) (by decide) (fun K hK => ?_)
             refine goes_ Try.func24 (by kernel_rfl) rfl #[.slice A336_1 ((rd_T50 l0 x7_1).f1).length c336_1] (by rfl) rfl rfl aE ?_
             with_reducible refine (impl_isChord.calls k1 _ _ ((rd_T50 l0 x7_1).f1) true _ ?side1 ?side2 A12.out).mono ?_
             (case side1 => exact cU (Kd.C_below HR336_1.out (lV1 GE337)))
             (case side2 => exact HC336_1.out)
             rintro e w' ⟨rfl, ⟨nd, rfl⟩⟩
             refine ⟨_, rfl, ?_⟩
             refine hK.out _ _ ⟨cz BK337 0 _, cz BK337 1 _, ((HB.out.cell (World.block_lt_of_cell? w _ hw339_0)).trans hw339_0), ((HB.out.cell (World.block_lt_of_cell? w _ hw339_1)).trans hw339_1)⟩ (fun hHeld => ?_)
             clear hK K
             refine norm_ (a' := ?_) ?_ ?_
             rotate_left
             ·show Act.put _ (some 34) _ = _
              simp only [Act.put, List.setIfInBounds_toArray, List.set_cons_zero, List.set_cons_succ, i64_w, i32_w]
              rfl
             refine pureA 23 35 (bz 33 16777215) rfl rfl (any_of HT_.out (by kernel_rfl)) ?_
             refine pureA 24 36 (bz 33 33554431) rfl rfl (any_of HT_.out (by kernel_rfl)) ?_
             refine pureA 25 37 (bz 33 67108863) rfl rfl (any_of HT_.out (by kernel_rfl)) ?_
             refine pureA 26 38 (bz 33 134217727) rfl rfl (any_of HT_.out (by kernel_rfl)) ?_
             refine pureA 27 39 (bz 33 268435455) rfl rfl (any_of HT_.out (by kernel_rfl)) ?_
             refine pureA 30 42 (bz 33 1342177279) rfl rfl (any_of HT_.out (by kernel_rfl)) ?_
             refine takeA 28 40 (bz 33 1610612735) rfl rfl (take_ofW HT_.out HW_.out (by kernel_rfl)) hHeld (by rintro w' ⟨s0, s1, s2, s3⟩; go_simp; with_reducible rfl) ?_
             refine one_ (i := 29) (N := some 41) (bz 33 2147483647) rfl rfl (one_of HT_.out (by kernel_rfl)) (by decide) (fun K hK => ?_)
             refine goes_ Try.func25 (by kernel_rfl) rfl #[.slice (some ad336) l0.length c0, .slice A336_1 ((rd_T50 l0 x7_1).f1).length c336_1] (by rfl) rfl rfl aE ?_
             with_reducible refine (impl_chordPlace.calls k1 _ _ l0 _ _ ((rd_T50 l0 x7_1).f1) t341 _ ?side1 ?side2 ?side3 ?side4 A14.out).mono ?_
             (case side1 => exact cU (Kd.C_below HR0.out (lV1 GE337)))
             (case side2 => exact HC0.out)
             (case side3 => exact cU (Kd.C_below HR336_1.out (lV1 GE337)))
             (case side4 => exact HC336_1.out)
             rintro e w25 ⟨rfl, hb⟩
             refine ⟨_, rfl, ?_⟩
             replace BK337 := bB (bV BK337) hb
             replace HB := bH (lV1 GE337) hb
             (try clear hb)
             (try clear hb2)
             (try clear hk)
             (try clear hi)
             refine hK.out _ _ ⟨cz BK337 0 _, cz BK337 1 _, ((HB.out.cell (World.block_lt_of_cell? w _ hw339_0)).trans hw339_0), ((HB.out.cell (World.block_lt_of_cell? w _ hw339_1)).trans hw339_1)⟩ (fun hHeld => ?_)
             clear hK K
             refine norm_ (a' := ?_) ?_ ?_
             rotate_left
             ·show Act.put _ (some 41) _ = _
              simp only [Act.put, List.setIfInBounds_toArray, List.set_cons_zero, List.set_cons_succ, i64_w, i32_w]
              rfl
             refine pureA 31 43 (bz 33 4294967295) rfl rfl (any_of HT_.out (by kernel_rfl)) ?_
             refine pureA 32 44 (bz 33 8589934591) rfl rfl (any_of HT_.out (by kernel_rfl)) ?_
             refine done_ (done_of HT_.out (by kernel_rfl)) ?_
             try go_wp2
             go_ret
             exact ⟨by first | rfl | (simp [errW_none, errW_some] <;> rfl) | (simp only [← hji8]; first | rfl | (simp [errW_none, errW_some] <;> rfl)) | (simp [*, errW_none, errW_some] <;> rfl), lV1 GE337⟩
           ·replace c13 := Bool.eq_false_iff.mpr c13
            subst c13
            have H1 : (some false) = some r := by rw [if_neg (show ¬ (false = true) by decide)] at H; exact H
            clear H
            have H := H1
            clear H1
            obtain rfl := Option.some.inj H
            have p336 : 0 ≤ (x7_1 : Int) := of_decide_eq_true hE
            have q336 : x7_1 < (l0.length : Int) := of_decide_eq_true hE
            obtain ⟨ad336, A336_1, c336_1, e336, hx336_0, hx336_1, hl336_1, hi336_1⟩ := at_T50 HR0.out x7_1 p336 q336
            cases e336
            replace hx336_0 := (HB.out.cell (World.block_lt_of_cell? w _ hx336_0)).trans hx336_0
            replace hx336_1 := (HB.out.cell (World.block_lt_of_cell? w _ hx336_1)).trans hx336_1
            have HR336_1 := Aside0.mk hi336_1
            have HC336_1 := Aside0.mk hl336_1
            clear hi336_1 hl336_1
            replace p336 := eq_true p336
            replace q336 := eq_true q336
            try go_wp2_with (first | ((with_reducible refine gate_dst (N := 4) rfl ?_); refine box_event rfl (N := 4) rfl (cs := #[.string (⟨#[]⟩ : ByteArray), .slice none 0 0]) (t := 50) sE ?_; intro gb337 hg w26 hbox hb; have BK337 := Aside0.mk hbox; have GW337 := gS w hg (lU); have GE337 := gS w hg (lU); replace HB := bH (lU) hb; clear hb hbox hg; have hcz27_0 := cz BK337 0 (.string (⟨#[]⟩ : ByteArray)); have hcz27_1 := cz BK337 1 (.slice none 0 0); have hfz27_0 := fz BK337 0; have hfz27_1 := fz BK337 1) | ((with_reducible refine gate_store (t := 50) (p := 4) rfl ?_); refine store_event (t := 50) (p := 4) (v := ?vo_w28) (w1 := ((w26.setCell ⟨gb337, 0, none⟩ (.string ((rd_T50 l0 x7_1).f0))).setCell ⟨gb337, 1, none⟩ (.slice A336_1 ((rd_T50 l0 x7_1).f1).length c336_1))) ?hg ?ho ?hn ?hr ?_; (case ho => rfl); (case hg => rfl); (case hn => rfl); (case hr => first | (go_simp; done) | (go_simp; rfl) | (have hq0_ := (blk_cell BK337.out 0).trans (show _ = some _ from rfl); have hf0_ := blk_frozen BK337.out 0; have hq1_ := (blk_cell BK337.out 1).trans (show _ = some _ from rfl); have hf1_ := blk_frozen BK337.out 1; first | (go_simp; done) | (go_simp; rfl))); intro w28 hw; replace BK337 : Aside0 (w28.heap[gb337]? = some (.cells #[.string ((rd_T50 l0 x7_1).f0), .slice A336_1 ((rd_T50 l0 x7_1).f1).length c336_1] 50 (0, 0))) := ⟨(by rw [hw]; exact (by refine bU ?_; refine blk_put (cs := #[.string ((rd_T50 l0 x7_1).f0), .slice none 0 0]) ?_ 1 _ rfl; refine bU ?_; refine blk_put (cs := #[.string (⟨#[]⟩ : ByteArray), .slice none 0 0]) ?_ 0 _ rfl; refine bU ?_; exact BK337.out))⟩; replace HB : Aside0 (Below w.heap.size w w28) := ⟨(by rw [hw]; exact (lV1 GE337))⟩; clear hw))
            replace BK337 := Aside0.mk (blk_drew BK337.out)
            replace HB := Aside0.mk (below_drew1 HB.out)
            have p339 : 0 ≤ ((ji8) : Int) := of_decide_eq_true hE
            have q339 : (ji8) < (l0.length : Int) := of_decide_eq_true hE
            obtain ⟨ad339, A339_1, c339_1, e339, hx339_0, hx339_1, hl339_1, hi339_1⟩ := at_T50 HR0.out (ji8) p339 q339
            have hw339_1 := hx339_1
            have hw339_0 := hx339_0
            obtain rfl : ad336 = ad339 := (by injection e339)
            replace hx339_0 := (HB.out.cell (World.block_lt_of_cell? w _ hx339_0)).trans hx339_0
            replace hx339_1 := (HB.out.cell (World.block_lt_of_cell? w _ hx339_1)).trans hx339_1
            have HR339_1 := Aside0.mk hi339_1
            have HC339_1 := Aside0.mk hl339_1
            clear hi339_1 hl339_1
            replace p339 := eq_true p339
            replace q339 := eq_true q339
            refine start_ (n := 33) (S := fun w' => w'.cell? ⟨gb337, 0, none⟩ = some (.string ((rd_T50 l0 x7_1).f0)) ∧ w'.cell? ⟨gb337, 1, none⟩ = some (.slice A336_1 ((rd_T50 l0 x7_1).f1).length c336_1) ∧ w'.cell? (ad336.add (((ji8)).toNat * 2)) = some (.string ((rd_T50 l0 (ji8)).f0)) ∧ w'.cell? ⟨(ad336.add (((ji8)).toNat * 2)).block, (ad336.add (((ji8)).toNat * 2)).off + 1, none⟩ = some (.slice A339_1 ((rd_T50 l0 (ji8)).f1).length c339_1)) (ds := []) #[false, false, false, false, false, false, false, false, false, false, false, false, false, false, false, false, false, false, false, false, false, false, false, false, false, false, false, false, false, false, false, false, false] (by kernel_rfl) rfl rfl ⟨cz BK337 0 _, cz BK337 1 _, ((HB.out.cell (World.block_lt_of_cell? w _ hw339_0)).trans hw339_0), ((HB.out.cell (World.block_lt_of_cell? w _ hw339_1)).trans hw339_1)⟩ (fun hHeld => ?_); refine with_tabW impl_GoodBinds.tab4 impl_GoodBinds.bits4 (fun HT_ HW_ => ?_)
            generalize w28.drew = w29 at BK337 HB HR339_1 hx339_0 hx339_1 hHeld ⊢
            refine pureA 0 12 (bz 33 1) rfl rfl (any_of HT_.out (by kernel_rfl)) ?_
            refine takeA 1 13 (bz 33 3) rfl rfl (take_ofW HT_.out HW_.out (by kernel_rfl)) hHeld (by rintro w' ⟨s0, s1, s2, s3⟩; go_simp; with_reducible rfl) ?_
            refine one_ (i := 2) (N := some 14) (bz 33 7) rfl rfl (one_of HT_.out (by kernel_rfl)) (by decide) (fun K hK => ?_)
            refine goes_ Try.func23 (by kernel_rfl) rfl #[.string ((rd_T50 l0 x7_1).f0)] (by rfl) rfl rfl aE ?_
            with_reducible refine (impl_GoodName.calls k1 ((rd_T50 l0 x7_1).f0) true _ A5.out).mono ?_
            rintro e w' ⟨rfl, ⟨nd, rfl⟩⟩
            refine ⟨_, rfl, ?_⟩
            refine hK.out _ _ ⟨cz BK337 0 _, cz BK337 1 _, ((HB.out.cell (World.block_lt_of_cell? w _ hw339_0)).trans hw339_0), ((HB.out.cell (World.block_lt_of_cell? w _ hw339_1)).trans hw339_1)⟩ (fun hHeld => ?_)
            clear hK K
            refine norm_ (a' := ?_) ?_ ?_
            rotate_left
            ·show Act.put _ (some 14) _ = _
             simp only [Act.put, List.setIfInBounds_toArray, List.set_cons_zero, List.set_cons_succ, i64_w, i32_w]
             rfl
            refine pureA 3 15 (bz 33 15) rfl rfl (any_of HT_.out (by kernel_rfl)) ?_
            refine pureA 4 16 (bz 33 31) rfl rfl (any_of HT_.out (by kernel_rfl)) ?_
            refine pureA 5 17 (bz 33 63) rfl rfl (any_of HT_.out (by kernel_rfl)) ?_
            refine pureA 6 18 (bz 33 127) rfl rfl (any_of HT_.out (by kernel_rfl)) ?_
            refine pureA 7 19 (bz 33 255) rfl rfl (any_of HT_.out (by kernel_rfl)) ?_
            refine pureA 8 20 (bz 33 511) rfl rfl (any_of HT_.out (by kernel_rfl)) ?_
            refine pureA 9 21 (bz 33 1023) rfl rfl (any_of HT_.out (by kernel_rfl)) ?_
            refine pureA 10 22 (bz 33 2047) rfl rfl (any_of HT_.out (by kernel_rfl)) ?_
            refine pureA 11 23 (bz 33 4095) rfl rfl (any_of HT_.out (by kernel_rfl)) ?_
            refine pureA 12 24 (bz 33 8191) rfl rfl (any_of HT_.out (by kernel_rfl)) ?_
            refine pureA 14 26 (bz 33 24575) rfl rfl (any_of HT_.out (by kernel_rfl)) ?_
            refine takeA 13 25 (bz 33 32767) rfl rfl (take_ofW HT_.out HW_.out (by kernel_rfl)) hHeld (by rintro w' ⟨s0, s1, s2, s3⟩; go_simp; with_reducible rfl) ?_
            refine takeA 15 27 (bz 33 65535) rfl rfl (take_ofW HT_.out HW_.out (by kernel_rfl)) hHeld (by rintro w' ⟨s0, s1, s2, s3⟩; go_simp; with_reducible rfl) ?_
            refine pureA 16 28 (bz 33 131071) rfl rfl (any_of HT_.out (by kernel_rfl)) ?_
            refine pureA 17 29 (bz 33 262143) rfl rfl (any_of HT_.out (by kernel_rfl)) ?_
            refine pureA 18 30 (bz 33 524287) rfl rfl (any_of HT_.out (by kernel_rfl)) ?_
            refine pureA 19 31 (bz 33 1048575) rfl rfl (any_of HT_.out (by kernel_rfl)) ?_
            refine pureA 20 32 (bz 33 2097151) rfl rfl (any_of HT_.out (by kernel_rfl)) ?_
            refine takeA 21 33 (bz 33 4194303) rfl rfl (take_ofW HT_.out HW_.out (by kernel_rfl)) hHeld (by rintro w' ⟨s0, s1, s2, s3⟩; go_simp; with_reducible rfl) ?_
            refine one_ (i := 22) (N := some 34) (bz 33 8388607) rfl rfl (one_of HT_.out (by kernel_rfl)) (by decide) (fun K hK => ?_)
            refine goes_ Try.func24 (by kernel_rfl) rfl #[.slice A336_1 ((rd_T50 l0 x7_1).f1).length c336_1] (by rfl) rfl rfl aE ?_
            with_reducible refine (impl_isChord.calls k1 _ _ ((rd_T50 l0 x7_1).f1) false _ ?side1 ?side2 A12.out).mono ?_
            (case side1 => exact cU (Kd.C_below HR336_1.out (lV1 GE337)))
            (case side2 => exact HC336_1.out)
            rintro e w' ⟨rfl, ⟨nd, rfl⟩⟩
            refine ⟨_, rfl, ?_⟩
            refine hK.out _ _ ⟨cz BK337 0 _, cz BK337 1 _, ((HB.out.cell (World.block_lt_of_cell? w _ hw339_0)).trans hw339_0), ((HB.out.cell (World.block_lt_of_cell? w _ hw339_1)).trans hw339_1)⟩ (fun hHeld => ?_)
            clear hK K
            refine norm_ (a' := ?_) ?_ ?_
            rotate_left
            ·show Act.put _ (some 34) _ = _
             simp only [Act.put, List.setIfInBounds_toArray, List.set_cons_zero, List.set_cons_succ, i64_w, i32_w]
             rfl
            refine pureA 23 35 (bz 33 16777215) rfl rfl (any_of HT_.out (by kernel_rfl)) ?_
            refine pureA 24 36 (bz 33 33554431) rfl rfl (any_of HT_.out (by kernel_rfl)) ?_
            refine pureA 25 37 (bz 33 67108863) rfl rfl (any_of HT_.out (by kernel_rfl)) ?_
            refine pureU 26 38 (bz 33 134217727) rfl rfl (any_of HT_.out (by kernel_rfl)) ?_
            refine pureU 27 39 (bz 33 268435455) rfl rfl (any_of HT_.out (by kernel_rfl)) ?_
            refine pureU 28 40 (bz 33 536870911) rfl rfl (any_of HT_.out (by kernel_rfl)) ?_
            refine pureU 29 41 (bz 33 1073741823) rfl rfl (any_of HT_.out (by kernel_rfl)) ?_
            refine pureU 30 42 (bz 33 2147483647) rfl rfl (any_of HT_.out (by kernel_rfl)) ?_
            refine pureU 31 43 (bz 33 4294967295) rfl rfl (any_of HT_.out (by kernel_rfl)) ?_
            refine pureA 32 44 (bz 33 8589934591) rfl rfl (any_of HT_.out (by kernel_rfl)) ?_
            refine done_ (done_of HT_.out (by kernel_rfl)) ?_
            try go_wp2
            go_ret
            exact ⟨by first | rfl | (simp [errW_none, errW_some] <;> rfl) | (simp only [← hji8]; first | rfl | (simp [errW_none, errW_some] <;> rfl)) | (simp [*, errW_none, errW_some] <;> rfl), lV1 GE337⟩
          ·rw [if_neg c11] at H
           have c11b0 : (Op.bytesLess (((rd_T50 l0 (ji8)).f0).toList) (((rd_T50 l0 x7_1).f0).toList)) = false := by simpa using c11
           clear c11
           obtain rfl := Option.some.inj H
           have p336 : 0 ≤ (x7_1 : Int) := of_decide_eq_true hE
           have q336 : x7_1 < (l0.length : Int) := of_decide_eq_true hE
           obtain ⟨ad336, A336_1, c336_1, e336, hx336_0, hx336_1, hl336_1, hi336_1⟩ := at_T50 HR0.out x7_1 p336 q336
           cases e336
           replace hx336_0 := (HB.out.cell (World.block_lt_of_cell? w _ hx336_0)).trans hx336_0
           replace hx336_1 := (HB.out.cell (World.block_lt_of_cell? w _ hx336_1)).trans hx336_1
           have HR336_1 := Aside0.mk hi336_1
           have HC336_1 := Aside0.mk hl336_1
           clear hi336_1 hl336_1
           replace p336 := eq_true p336
           replace q336 := eq_true q336
           try go_wp2_with (first | ((with_reducible refine gate_dst (N := 4) rfl ?_); refine box_event rfl (N := 4) rfl (cs := #[.string (⟨#[]⟩ : ByteArray), .slice none 0 0]) (t := 50) sE ?_; intro gb337 hg w30 hbox hb; have BK337 := Aside0.mk hbox; have GW337 := gS w hg (lU); have GE337 := gS w hg (lU); replace HB := bH (lU) hb; clear hb hbox hg; have hcz31_0 := cz BK337 0 (.string (⟨#[]⟩ : ByteArray)); have hcz31_1 := cz BK337 1 (.slice none 0 0); have hfz31_0 := fz BK337 0; have hfz31_1 := fz BK337 1) | ((with_reducible refine gate_store (t := 50) (p := 4) rfl ?_); refine store_event (t := 50) (p := 4) (v := ?vo_w32) (w1 := ((w30.setCell ⟨gb337, 0, none⟩ (.string ((rd_T50 l0 x7_1).f0))).setCell ⟨gb337, 1, none⟩ (.slice A336_1 ((rd_T50 l0 x7_1).f1).length c336_1))) ?hg ?ho ?hn ?hr ?_; (case ho => rfl); (case hg => rfl); (case hn => rfl); (case hr => first | (go_simp; done) | (go_simp; rfl) | (have hq0_ := (blk_cell BK337.out 0).trans (show _ = some _ from rfl); have hf0_ := blk_frozen BK337.out 0; have hq1_ := (blk_cell BK337.out 1).trans (show _ = some _ from rfl); have hf1_ := blk_frozen BK337.out 1; first | (go_simp; done) | (go_simp; rfl))); intro w32 hw; replace BK337 : Aside0 (w32.heap[gb337]? = some (.cells #[.string ((rd_T50 l0 x7_1).f0), .slice A336_1 ((rd_T50 l0 x7_1).f1).length c336_1] 50 (0, 0))) := ⟨(by rw [hw]; exact (by refine bU ?_; refine blk_put (cs := #[.string ((rd_T50 l0 x7_1).f0), .slice none 0 0]) ?_ 1 _ rfl; refine bU ?_; refine blk_put (cs := #[.string (⟨#[]⟩ : ByteArray), .slice none 0 0]) ?_ 0 _ rfl; refine bU ?_; exact BK337.out))⟩; replace HB : Aside0 (Below w.heap.size w w32) := ⟨(by rw [hw]; exact (lV1 GE337))⟩; clear hw))
           replace BK337 := Aside0.mk (blk_drew BK337.out)
           replace HB := Aside0.mk (below_drew1 HB.out)
           have p339 : 0 ≤ ((ji8) : Int) := of_decide_eq_true hE
           have q339 : (ji8) < (l0.length : Int) := of_decide_eq_true hE
           obtain ⟨ad339, A339_1, c339_1, e339, hx339_0, hx339_1, hl339_1, hi339_1⟩ := at_T50 HR0.out (ji8) p339 q339
           have hw339_1 := hx339_1
           have hw339_0 := hx339_0
           obtain rfl : ad336 = ad339 := (by injection e339)
           replace hx339_0 := (HB.out.cell (World.block_lt_of_cell? w _ hx339_0)).trans hx339_0
           replace hx339_1 := (HB.out.cell (World.block_lt_of_cell? w _ hx339_1)).trans hx339_1
           have HR339_1 := Aside0.mk hi339_1
           have HC339_1 := Aside0.mk hl339_1
           clear hi339_1 hl339_1
           replace p339 := eq_true p339
           replace q339 := eq_true q339
           refine start_ (n := 33) (S := fun w' => w'.cell? ⟨gb337, 0, none⟩ = some (.string ((rd_T50 l0 x7_1).f0)) ∧ w'.cell? ⟨gb337, 1, none⟩ = some (.slice A336_1 ((rd_T50 l0 x7_1).f1).length c336_1) ∧ w'.cell? (ad336.add (((ji8)).toNat * 2)) = some (.string ((rd_T50 l0 (ji8)).f0)) ∧ w'.cell? ⟨(ad336.add (((ji8)).toNat * 2)).block, (ad336.add (((ji8)).toNat * 2)).off + 1, none⟩ = some (.slice A339_1 ((rd_T50 l0 (ji8)).f1).length c339_1)) (ds := []) #[false, false, false, false, false, false, false, false, false, false, false, false, false, false, false, false, false, false, false, false, false, false, false, false, false, false, false, false, false, false, false, false, false] (by kernel_rfl) rfl rfl ⟨cz BK337 0 _, cz BK337 1 _, ((HB.out.cell (World.block_lt_of_cell? w _ hw339_0)).trans hw339_0), ((HB.out.cell (World.block_lt_of_cell? w _ hw339_1)).trans hw339_1)⟩ (fun hHeld => ?_); refine with_tabW impl_GoodBinds.tab4 impl_GoodBinds.bits4 (fun HT_ HW_ => ?_)
           generalize w32.drew = w33 at BK337 HB HR339_1 hx339_0 hx339_1 hHeld ⊢
           refine pureA 0 12 (bz 33 1) rfl rfl (any_of HT_.out (by kernel_rfl)) ?_
           refine takeA 1 13 (bz 33 3) rfl rfl (take_ofW HT_.out HW_.out (by kernel_rfl)) hHeld (by rintro w' ⟨s0, s1, s2, s3⟩; go_simp; with_reducible rfl) ?_
           refine one_ (i := 2) (N := some 14) (bz 33 7) rfl rfl (one_of HT_.out (by kernel_rfl)) (by decide) (fun K hK => ?_)
           refine goes_ Try.func23 (by kernel_rfl) rfl #[.string ((rd_T50 l0 x7_1).f0)] (by rfl) rfl rfl aE ?_
           with_reducible refine (impl_GoodName.calls k1 ((rd_T50 l0 x7_1).f0) true _ A5.out).mono ?_
           rintro e w' ⟨rfl, ⟨nd, rfl⟩⟩
           refine ⟨_, rfl, ?_⟩
           refine hK.out _ _ ⟨cz BK337 0 _, cz BK337 1 _, ((HB.out.cell (World.block_lt_of_cell? w _ hw339_0)).trans hw339_0), ((HB.out.cell (World.block_lt_of_cell? w _ hw339_1)).trans hw339_1)⟩ (fun hHeld => ?_)
           clear hK K
           refine norm_ (a' := ?_) ?_ ?_
           rotate_left
           ·show Act.put _ (some 14) _ = _
            simp only [Act.put, List.setIfInBounds_toArray, List.set_cons_zero, List.set_cons_succ, i64_w, i32_w]
            rfl
           refine pureA 3 15 (bz 33 15) rfl rfl (any_of HT_.out (by kernel_rfl)) ?_
           refine pureA 4 16 (bz 33 31) rfl rfl (any_of HT_.out (by kernel_rfl)) ?_
           refine pureA 5 17 (bz 33 63) rfl rfl (any_of HT_.out (by kernel_rfl)) ?_
           refine pureA 6 18 (bz 33 127) rfl rfl (any_of HT_.out (by kernel_rfl)) ?_
           refine pureA 7 19 (bz 33 255) rfl rfl (any_of HT_.out (by kernel_rfl)) ?_
           refine pureA 8 20 (bz 33 511) rfl rfl (any_of HT_.out (by kernel_rfl)) ?_
           refine pureA 9 21 (bz 33 1023) rfl rfl (any_of HT_.out (by kernel_rfl)) ?_
           refine pureA 10 22 (bz 33 2047) rfl rfl (any_of HT_.out (by kernel_rfl)) ?_
           refine pureA 11 23 (bz 33 4095) rfl rfl (any_of HT_.out (by kernel_rfl)) ?_
           refine pureA 12 24 (bz 33 8191) rfl rfl (any_of HT_.out (by kernel_rfl)) ?_
           refine pureA 14 26 (bz 33 24575) rfl rfl (any_of HT_.out (by kernel_rfl)) ?_
           refine takeA 13 25 (bz 33 32767) rfl rfl (take_ofW HT_.out HW_.out (by kernel_rfl)) hHeld (by rintro w' ⟨s0, s1, s2, s3⟩; go_simp; with_reducible rfl) ?_
           refine takeA 15 27 (bz 33 65535) rfl rfl (take_ofW HT_.out HW_.out (by kernel_rfl)) hHeld (by rintro w' ⟨s0, s1, s2, s3⟩; go_simp; with_reducible rfl) ?_
           refine pureA 16 28 (bz 33 131071) rfl rfl (any_of HT_.out (by kernel_rfl)) ?_
           refine pureA 17 29 (bz 33 262143) rfl rfl (any_of HT_.out (by kernel_rfl)) ?_
           refine pureA 18 30 (bz 33 524287) rfl rfl (any_of HT_.out (by kernel_rfl)) ?_
           refine pureA 19 31 (bz 33 1048575) rfl rfl (any_of HT_.out (by kernel_rfl)) ?_
           refine pureU 20 32 (bz 33 2097151) rfl rfl (any_of HT_.out (by kernel_rfl)) ?_
           refine pureU 21 33 (bz 33 4194303) rfl rfl (any_of HT_.out (by kernel_rfl)) ?_
           refine pureU 22 34 (bz 33 8388607) rfl rfl (any_of HT_.out (by kernel_rfl)) ?_
           refine pureU 23 35 (bz 33 16777215) rfl rfl (any_of HT_.out (by kernel_rfl)) ?_
           refine pureA 24 36 (bz 33 33554431) rfl rfl (any_of HT_.out (by kernel_rfl)) ?_
           refine pureA 25 37 (bz 33 67108863) rfl rfl (any_of HT_.out (by kernel_rfl)) ?_
           refine pureU 26 38 (bz 33 134217727) rfl rfl (any_of HT_.out (by kernel_rfl)) ?_
           refine pureU 27 39 (bz 33 268435455) rfl rfl (any_of HT_.out (by kernel_rfl)) ?_
           refine pureU 28 40 (bz 33 536870911) rfl rfl (any_of HT_.out (by kernel_rfl)) ?_
           refine pureU 29 41 (bz 33 1073741823) rfl rfl (any_of HT_.out (by kernel_rfl)) ?_
           refine pureU 30 42 (bz 33 2147483647) rfl rfl (any_of HT_.out (by kernel_rfl)) ?_
           refine pureU 31 43 (bz 33 4294967295) rfl rfl (any_of HT_.out (by kernel_rfl)) ?_
           refine pureA 32 44 (bz 33 8589934591) rfl rfl (any_of HT_.out (by kernel_rfl)) ?_
           refine done_ (done_of HT_.out (by kernel_rfl)) ?_
           try go_wp2
           go_ret
           exact ⟨by first | rfl | (simp [errW_none, errW_some] <;> rfl) | (simp only [← hji8]; first | rfl | (simp [errW_none, errW_some] <;> rfl)) | (simp [*, errW_none, errW_some] <;> rfl), lV1 GE337⟩
         ·rw [if_neg c10] at H
          exact absurd H (by simp)
        ·rw [if_neg c9] at H
         exact absurd H (by simp)
       ·rw [if_neg c7] at H
        have c7b0 : decide (0 < x7_1) = false := decide_eq_false c7
        clear c7
        replace H := Option.bind_eq_some_iff.mp H
        obtain ⟨t342, A340, H⟩ := H
        replace H : (if t342 = true then ((impl_chordPlace.f k1 l0 ((rd_T50 l0 x7_1).f1)).bind fun t343 => (if t343 = x7_1 then (impl_GoodBinds.l0 k1 l0 l0 (l0.length : Int) (wrap64 (x7_1 + 1))) else (some false))) else (some false)) = some r := H
        have A34 := Aside0.mk A340
        clear A340
        by_cases c35 : t342 = true
        ·subst c35
         have H1 : ((impl_chordPlace.f k1 l0 ((rd_T50 l0 x7_1).f1)).bind fun t343 => (if t343 = x7_1 then (impl_GoodBinds.l0 k1 l0 l0 (l0.length : Int) (wrap64 (x7_1 + 1))) else (some false))) = some r := by rw [if_pos rfl] at H; exact H
         clear H
         have H := H1
         clear H1
         replace H := Option.bind_eq_some_iff.mp H
         obtain ⟨t343, A360, H⟩ := H
         replace H : (if t343 = x7_1 then (impl_GoodBinds.l0 k1 l0 l0 (l0.length : Int) (wrap64 (x7_1 + 1))) else (some false)) = some r := H
         have A36 := Aside0.mk A360
         clear A360
         by_cases c37 : t343 = x7_1
         ·rw [if_pos c37] at H
          have c37b0 : (t343 == x7_1) = true := beq_iff_eq.mpr c37
          have c37b1 : (t343 != x7_1) = false := bne_eq_false_iff_eq.mpr c37
          clear c37
          have H' := Aside0.mk H
          clear H
          have p336 : 0 ≤ (x7_1 : Int) := of_decide_eq_true hE
          have q336 : x7_1 < (l0.length : Int) := of_decide_eq_true hE
          obtain ⟨ad336, A336_1, c336_1, e336, hx336_0, hx336_1, hl336_1, hi336_1⟩ := at_T50 HR0.out x7_1 p336 q336
          cases e336
          replace hx336_0 := (HB.out.cell (World.block_lt_of_cell? w _ hx336_0)).trans hx336_0
          replace hx336_1 := (HB.out.cell (World.block_lt_of_cell? w _ hx336_1)).trans hx336_1
          have HR336_1 := Aside0.mk hi336_1
          have HC336_1 := Aside0.mk hl336_1
          clear hi336_1 hl336_1
          replace p336 := eq_true p336
          replace q336 := eq_true q336
          try go_wp2_with (first | ((with_reducible refine gate_dst (N := 4) rfl ?_); refine box_event rfl (N := 4) rfl (cs := #[.string (⟨#[]⟩ : ByteArray), .slice none 0 0]) (t := 50) sE ?_; intro gb337 hg w38 hbox hb; have BK337 := Aside0.mk hbox; have GW337 := gS w hg (lU); have GE337 := gS w hg (lU); replace HB := bH (lU) hb; clear hb hbox hg; have hcz39_0 := cz BK337 0 (.string (⟨#[]⟩ : ByteArray)); have hcz39_1 := cz BK337 1 (.slice none 0 0); have hfz39_0 := fz BK337 0; have hfz39_1 := fz BK337 1) | ((with_reducible refine gate_store (t := 50) (p := 4) rfl ?_); refine store_event (t := 50) (p := 4) (v := ?vo_w40) (w1 := ((w38.setCell ⟨gb337, 0, none⟩ (.string ((rd_T50 l0 x7_1).f0))).setCell ⟨gb337, 1, none⟩ (.slice A336_1 ((rd_T50 l0 x7_1).f1).length c336_1))) ?hg ?ho ?hn ?hr ?_; (case ho => rfl); (case hg => rfl); (case hn => rfl); (case hr => first | (go_simp; done) | (go_simp; rfl) | (have hq0_ := (blk_cell BK337.out 0).trans (show _ = some _ from rfl); have hf0_ := blk_frozen BK337.out 0; have hq1_ := (blk_cell BK337.out 1).trans (show _ = some _ from rfl); have hf1_ := blk_frozen BK337.out 1; first | (go_simp; done) | (go_simp; rfl))); intro w40 hw; replace BK337 : Aside0 (w40.heap[gb337]? = some (.cells #[.string ((rd_T50 l0 x7_1).f0), .slice A336_1 ((rd_T50 l0 x7_1).f1).length c336_1] 50 (0, 0))) := ⟨(by rw [hw]; exact (by refine bU ?_; refine blk_put (cs := #[.string ((rd_T50 l0 x7_1).f0), .slice none 0 0]) ?_ 1 _ rfl; refine bU ?_; refine blk_put (cs := #[.string (⟨#[]⟩ : ByteArray), .slice none 0 0]) ?_ 0 _ rfl; refine bU ?_; exact BK337.out))⟩; replace HB : Aside0 (Below w.heap.size w w40) := ⟨(by rw [hw]; exact (lV1 GE337))⟩; clear hw))
          replace BK337 := Aside0.mk (blk_drew BK337.out)
          replace HB := Aside0.mk (below_drew1 HB.out)
          refine start_ (n := 33) (S := fun w' => w'.cell? ⟨gb337, 0, none⟩ = some (.string ((rd_T50 l0 x7_1).f0)) ∧ w'.cell? ⟨gb337, 1, none⟩ = some (.slice A336_1 ((rd_T50 l0 x7_1).f1).length c336_1)) (ds := []) #[false, false, false, false, false, false, false, false, false, false, false, false, false, false, false, false, false, false, false, false, false, false, false, false, false, false, false, false, false, false, false, false, false] (by kernel_rfl) rfl rfl ⟨cz BK337 0 _, cz BK337 1 _⟩ (fun hHeld => ?_); refine with_tabW impl_GoodBinds.tab4 impl_GoodBinds.bits4 (fun HT_ HW_ => ?_)
          generalize w40.drew = w41 at BK337 HB hHeld ⊢
          refine pureA 0 12 (bz 33 1) rfl rfl (any_of HT_.out (by kernel_rfl)) ?_
          refine takeA 1 13 (bz 33 3) rfl rfl (take_ofW HT_.out HW_.out (by kernel_rfl)) hHeld (by rintro w' ⟨s0, s1⟩; go_simp; with_reducible rfl) ?_
          refine one_ (i := 2) (N := some 14) (bz 33 7) rfl rfl (one_of HT_.out (by kernel_rfl)) (by decide) (fun K hK => ?_)
          refine goes_ Try.func23 (by kernel_rfl) rfl #[.string ((rd_T50 l0 x7_1).f0)] (by rfl) rfl rfl aE ?_
          with_reducible refine (impl_GoodName.calls k1 ((rd_T50 l0 x7_1).f0) true _ A5.out).mono ?_
          rintro e w' ⟨rfl, ⟨nd, rfl⟩⟩
          refine ⟨_, rfl, ?_⟩
          refine hK.out _ _ ⟨cz BK337 0 _, cz BK337 1 _⟩ (fun hHeld => ?_)
          clear hK K
          refine norm_ (a' := ?_) ?_ ?_
          rotate_left
          ·show Act.put _ (some 14) _ = _
           simp only [Act.put, List.setIfInBounds_toArray, List.set_cons_zero, List.set_cons_succ, i64_w, i32_w]
           rfl
          refine pureA 3 15 (bz 33 15) rfl rfl (any_of HT_.out (by kernel_rfl)) ?_
          refine pureA 4 16 (bz 33 31) rfl rfl (any_of HT_.out (by kernel_rfl)) ?_
          refine pureA 5 17 (bz 33 63) rfl rfl (any_of HT_.out (by kernel_rfl)) ?_
          refine pureA 6 18 (bz 33 127) rfl rfl (any_of HT_.out (by kernel_rfl)) ?_
          refine pureA 7 19 (bz 33 255) rfl rfl (any_of HT_.out (by kernel_rfl)) ?_
          refine pureU 8 20 (bz 33 511) rfl rfl (any_of HT_.out (by kernel_rfl)) ?_
          refine pureU 9 21 (bz 33 1023) rfl rfl (any_of HT_.out (by kernel_rfl)) ?_
          refine pureU 10 22 (bz 33 2047) rfl rfl (any_of HT_.out (by kernel_rfl)) ?_
          refine pureU 11 23 (bz 33 4095) rfl rfl (any_of HT_.out (by kernel_rfl)) ?_
          refine pureU 12 24 (bz 33 8191) rfl rfl (any_of HT_.out (by kernel_rfl)) ?_
          refine pureU 13 25 (bz 33 16383) rfl rfl (any_of HT_.out (by kernel_rfl)) ?_
          refine pureU 14 26 (bz 33 32767) rfl rfl (any_of HT_.out (by kernel_rfl)) ?_
          refine pureU 15 27 (bz 33 65535) rfl rfl (any_of HT_.out (by kernel_rfl)) ?_
          refine pureU 16 28 (bz 33 131071) rfl rfl (any_of HT_.out (by kernel_rfl)) ?_
          refine pureA 17 29 (bz 33 262143) rfl rfl (any_of HT_.out (by kernel_rfl)) ?_
          refine pureA 18 30 (bz 33 524287) rfl rfl (any_of HT_.out (by kernel_rfl)) ?_
          refine pureA 19 31 (bz 33 1048575) rfl rfl (any_of HT_.out (by kernel_rfl)) ?_
          refine pureA 20 32 (bz 33 2097151) rfl rfl (any_of HT_.out (by kernel_rfl)) ?_
          refine takeA 21 33 (bz 33 4194303) rfl rfl (take_ofW HT_.out HW_.out (by kernel_rfl)) hHeld (by rintro w' ⟨s0, s1⟩; go_simp; with_reducible rfl) ?_
          refine one_ (i := 22) (N := some 34) (bz 33 8388607) rfl rfl (one_of HT_.out (by kernel_rfl)) (by decide) (fun K hK => ?_)
          refine goes_ Try.func24 (by kernel_rfl) rfl #[.slice A336_1 ((rd_T50 l0 x7_1).f1).length c336_1] (by rfl) rfl rfl aE ?_
          with_reducible refine (impl_isChord.calls k1 _ _ ((rd_T50 l0 x7_1).f1) true _ ?side1 ?side2 A34.out).mono ?_
          (case side1 => exact cU (Kd.C_below HR336_1.out (lV1 GE337)))
          (case side2 => exact HC336_1.out)
          rintro e w' ⟨rfl, ⟨nd, rfl⟩⟩
          refine ⟨_, rfl, ?_⟩
          refine hK.out _ _ ⟨cz BK337 0 _, cz BK337 1 _⟩ (fun hHeld => ?_)
          clear hK K
          refine norm_ (a' := ?_) ?_ ?_
          rotate_left
          ·show Act.put _ (some 34) _ = _
           simp only [Act.put, List.setIfInBounds_toArray, List.set_cons_zero, List.set_cons_succ, i64_w, i32_w]
           rfl
          refine pureA 23 35 (bz 33 16777215) rfl rfl (any_of HT_.out (by kernel_rfl)) ?_
          refine pureA 24 36 (bz 33 33554431) rfl rfl (any_of HT_.out (by kernel_rfl)) ?_
          refine pureA 25 37 (bz 33 67108863) rfl rfl (any_of HT_.out (by kernel_rfl)) ?_
          refine pureA 26 38 (bz 33 134217727) rfl rfl (any_of HT_.out (by kernel_rfl)) ?_
          refine pureA 27 39 (bz 33 268435455) rfl rfl (any_of HT_.out (by kernel_rfl)) ?_
          refine pureA 30 42 (bz 33 1342177279) rfl rfl (any_of HT_.out (by kernel_rfl)) ?_
          refine takeA 28 40 (bz 33 1610612735) rfl rfl (take_ofW HT_.out HW_.out (by kernel_rfl)) hHeld (by rintro w' ⟨s0, s1⟩; go_simp; with_reducible rfl) ?_
          refine one_ (i := 29) (N := some 41) (bz 33 2147483647) rfl rfl (one_of HT_.out (by kernel_rfl)) (by decide) (fun K hK => ?_)
          refine goes_ Try.func25 (by kernel_rfl) rfl #[.slice (some ad336) l0.length c0, .slice A336_1 ((rd_T50 l0 x7_1).f1).length c336_1] (by rfl) rfl rfl aE ?_
          with_reducible refine (impl_chordPlace.calls k1 _ _ l0 _ _ ((rd_T50 l0 x7_1).f1) t343 _ ?side1 ?side2 ?side3 ?side4 A36.out).mono ?_
          (case side1 => exact cU (Kd.C_below HR0.out (lV1 GE337)))
          (case side2 => exact HC0.out)
          (case side3 => exact cU (Kd.C_below HR336_1.out (lV1 GE337)))
          (case side4 => exact HC336_1.out)
          rintro e w42 ⟨rfl, hb⟩
          refine ⟨_, rfl, ?_⟩
          replace BK337 := bB (bV BK337) hb
          replace HB := bH (lV1 GE337) hb
          (try clear hb)
          (try clear hb2)
          (try clear hk)
          (try clear hi)
          refine hK.out _ _ ⟨cz BK337 0 _, cz BK337 1 _⟩ (fun hHeld => ?_)
          clear hK K
          refine norm_ (a' := ?_) ?_ ?_
          rotate_left
          ·show Act.put _ (some 41) _ = _
           simp only [Act.put, List.setIfInBounds_toArray, List.set_cons_zero, List.set_cons_succ, i64_w, i32_w]
           rfl
          refine pureA 31 43 (bz 33 4294967295) rfl rfl (any_of HT_.out (by kernel_rfl)) ?_
          refine pureA 32 44 (bz 33 8589934591) rfl rfl (any_of HT_.out (by kernel_rfl)) ?_
          refine done_ (done_of HT_.out (by kernel_rfl)) ?_
          try go_wp2
          go_roundg k1
          case measure => have := HK1.out; omega
          case rel => exact ⟨(wrap64 (x7_1 + 1)), tE, H', ⟨by have := HK1.out; omega⟩, ⟨by repeat (first | (with_reducible first | exact HB.out | apply below_alloc | apply pw_below_drewN | apply below_drew1 | refine below_set ?_ GE337.out) | exact HB.out)⟩⟩
         ·rw [if_neg c37] at H
          have c37b0 : (t343 == x7_1) = false := beq_eq_false_iff_ne.mpr c37
          have c37b1 : (t343 != x7_1) = true := bne_iff_ne.mpr c37
          obtain rfl := Option.some.inj H
          have p336 : 0 ≤ (x7_1 : Int) := of_decide_eq_true hE
          have q336 : x7_1 < (l0.length : Int) := of_decide_eq_true hE
          obtain ⟨ad336, A336_1, c336_1, e336, hx336_0, hx336_1, hl336_1, hi336_1⟩ := at_T50 HR0.out x7_1 p336 q336
          cases e336
          replace hx336_0 := (HB.out.cell (World.block_lt_of_cell? w _ hx336_0)).trans hx336_0
          replace hx336_1 := (HB.out.cell (World.block_lt_of_cell? w _ hx336_1)).trans hx336_1
          have HR336_1 := Aside0.mk hi336_1
          have HC336_1 := Aside0.mk hl336_1
          clear hi336_1 hl336_1
          replace p336 := eq_true p336
          replace q336 := eq_true q336
          try go_wp2_with (first | ((with_reducible refine gate_dst (N := 4) rfl ?_); refine box_event rfl (N := 4) rfl (cs := #[.string (⟨#[]⟩ : ByteArray), .slice none 0 0]) (t := 50) sE ?_; intro gb337 hg w43 hbox hb; have BK337 := Aside0.mk hbox; have GW337 := gS w hg (lU); have GE337 := gS w hg (lU); replace HB := bH (lU) hb; clear hb hbox hg; have hcz44_0 := cz BK337 0 (.string (⟨#[]⟩ : ByteArray)); have hcz44_1 := cz BK337 1 (.slice none 0 0); have hfz44_0 := fz BK337 0; have hfz44_1 := fz BK337 1) | ((with_reducible refine gate_store (t := 50) (p := 4) rfl ?_); refine store_event (t := 50) (p := 4) (v := ?vo_w45) (w1 := ((w43.setCell ⟨gb337, 0, none⟩ (.string ((rd_T50 l0 x7_1).f0))).setCell ⟨gb337, 1, none⟩ (.slice A336_1 ((rd_T50 l0 x7_1).f1).length c336_1))) ?hg ?ho ?hn ?hr ?_; (case ho => rfl); (case hg => rfl); (case hn => rfl); (case hr => first | (go_simp; done) | (go_simp; rfl) | (have hq0_ := (blk_cell BK337.out 0).trans (show _ = some _ from rfl); have hf0_ := blk_frozen BK337.out 0; have hq1_ := (blk_cell BK337.out 1).trans (show _ = some _ from rfl); have hf1_ := blk_frozen BK337.out 1; first | (go_simp; done) | (go_simp; rfl))); intro w45 hw; replace BK337 : Aside0 (w45.heap[gb337]? = some (.cells #[.string ((rd_T50 l0 x7_1).f0), .slice A336_1 ((rd_T50 l0 x7_1).f1).length c336_1] 50 (0, 0))) := ⟨(by rw [hw]; exact (by refine bU ?_; refine blk_put (cs := #[.string ((rd_T50 l0 x7_1).f0), .slice none 0 0]) ?_ 1 _ rfl; refine bU ?_; refine blk_put (cs := #[.string (⟨#[]⟩ : ByteArray), .slice none 0 0]) ?_ 0 _ rfl; refine bU ?_; exact BK337.out))⟩; replace HB : Aside0 (Below w.heap.size w w45) := ⟨(by rw [hw]; exact (lV1 GE337))⟩; clear hw))
          replace BK337 := Aside0.mk (blk_drew BK337.out)
          replace HB := Aside0.mk (below_drew1 HB.out)
          refine start_ (n := 33) (S := fun w' => w'.cell? ⟨gb337, 0, none⟩ = some (.string ((rd_T50 l0 x7_1).f0)) ∧ w'.cell? ⟨gb337, 1, none⟩ = some (.slice A336_1 ((rd_T50 l0 x7_1).f1).length c336_1)) (ds := []) #[false, false, false, false, false, false, false, false, false, false, false, false, false, false, false, false, false, false, false, false, false, false, false, false, false, false, false, false, false, false, false, false, false] (by kernel_rfl) rfl rfl ⟨cz BK337 0 _, cz BK337 1 _⟩ (fun hHeld => ?_); refine with_tabW impl_GoodBinds.tab4 impl_GoodBinds.bits4 (fun HT_ HW_ => ?_)
          generalize w45.drew = w46 at BK337 HB hHeld ⊢
          refine pureA 0 12 (bz 33 1) rfl rfl (any_of HT_.out (by kernel_rfl)) ?_
          refine takeA 1 13 (bz 33 3) rfl rfl (take_ofW HT_.out HW_.out (by kernel_rfl)) hHeld (by rintro w' ⟨s0, s1⟩; go_simp; with_reducible rfl) ?_
          refine one_ (i := 2) (N := some 14) (bz 33 7) rfl rfl (one_of HT_.out (by kernel_rfl)) (by decide) (fun K hK => ?_)
          refine goes_ Try.func23 (by kernel_rfl) rfl #[.string ((rd_T50 l0 x7_1).f0)] (by rfl) rfl rfl aE ?_
          with_reducible refine (impl_GoodName.calls k1 ((rd_T50 l0 x7_1).f0) true _ A5.out).mono ?_
          rintro e w' ⟨rfl, ⟨nd, rfl⟩⟩
          refine ⟨_, rfl, ?_⟩
          refine hK.out _ _ ⟨cz BK337 0 _, cz BK337 1 _⟩ (fun hHeld => ?_)
          clear hK K
          refine norm_ (a' := ?_) ?_ ?_
          rotate_left
          ·show Act.put _ (some 14) _ = _
           simp only [Act.put, List.setIfInBounds_toArray, List.set_cons_zero, List.set_cons_succ, i64_w, i32_w]
           rfl
          refine pureA 3 15 (bz 33 15) rfl rfl (any_of HT_.out (by kernel_rfl)) ?_
          refine pureA 4 16 (bz 33 31) rfl rfl (any_of HT_.out (by kernel_rfl)) ?_
          refine pureA 5 17 (bz 33 63) rfl rfl (any_of HT_.out (by kernel_rfl)) ?_
          refine pureA 6 18 (bz 33 127) rfl rfl (any_of HT_.out (by kernel_rfl)) ?_
          refine pureA 7 19 (bz 33 255) rfl rfl (any_of HT_.out (by kernel_rfl)) ?_
          refine pureU 8 20 (bz 33 511) rfl rfl (any_of HT_.out (by kernel_rfl)) ?_
          refine pureU 9 21 (bz 33 1023) rfl rfl (any_of HT_.out (by kernel_rfl)) ?_
          refine pureU 10 22 (bz 33 2047) rfl rfl (any_of HT_.out (by kernel_rfl)) ?_
          refine pureU 11 23 (bz 33 4095) rfl rfl (any_of HT_.out (by kernel_rfl)) ?_
          refine pureU 12 24 (bz 33 8191) rfl rfl (any_of HT_.out (by kernel_rfl)) ?_
          refine pureU 13 25 (bz 33 16383) rfl rfl (any_of HT_.out (by kernel_rfl)) ?_
          refine pureU 14 26 (bz 33 32767) rfl rfl (any_of HT_.out (by kernel_rfl)) ?_
          refine pureU 15 27 (bz 33 65535) rfl rfl (any_of HT_.out (by kernel_rfl)) ?_
          refine pureU 16 28 (bz 33 131071) rfl rfl (any_of HT_.out (by kernel_rfl)) ?_
          refine pureA 17 29 (bz 33 262143) rfl rfl (any_of HT_.out (by kernel_rfl)) ?_
          refine pureA 18 30 (bz 33 524287) rfl rfl (any_of HT_.out (by kernel_rfl)) ?_
          refine pureA 19 31 (bz 33 1048575) rfl rfl (any_of HT_.out (by kernel_rfl)) ?_
          refine pureA 20 32 (bz 33 2097151) rfl rfl (any_of HT_.out (by kernel_rfl)) ?_
          refine takeA 21 33 (bz 33 4194303) rfl rfl (take_ofW HT_.out HW_.out (by kernel_rfl)) hHeld (by rintro w' ⟨s0, s1⟩; go_simp; with_reducible rfl) ?_
          refine one_ (i := 22) (N := some 34) (bz 33 8388607) rfl rfl (one_of HT_.out (by kernel_rfl)) (by decide) (fun K hK => ?_)
          refine goes_ Try.func24 (by kernel_rfl) rfl #[.slice A336_1 ((rd_T50 l0 x7_1).f1).length c336_1] (by rfl) rfl rfl aE ?_
          with_reducible refine (impl_isChord.calls k1 _ _ ((rd_T50 l0 x7_1).f1) true _ ?side1 ?side2 A34.out).mono ?_
          (case side1 => exact cU (Kd.C_below HR336_1.out (lV1 GE337)))
          (case side2 => exact HC336_1.out)
          rintro e w' ⟨rfl, ⟨nd, rfl⟩⟩
          refine ⟨_, rfl, ?_⟩
          refine hK.out _ _ ⟨cz BK337 0 _, cz BK337 1 _⟩ (fun hHeld => ?_)
          clear hK K
          refine norm_ (a' := ?_) ?_ ?_
          rotate_left
          ·show Act.put _ (some 34) _ = _
           simp only [Act.put, List.setIfInBounds_toArray, List.set_cons_zero, List.set_cons_succ, i64_w, i32_w]
           rfl
          refine pureA 23 35 (bz 33 16777215) rfl rfl (any_of HT_.out (by kernel_rfl)) ?_
          refine pureA 24 36 (bz 33 33554431) rfl rfl (any_of HT_.out (by kernel_rfl)) ?_
          refine pureA 25 37 (bz 33 67108863) rfl rfl (any_of HT_.out (by kernel_rfl)) ?_
          refine pureA 26 38 (bz 33 134217727) rfl rfl (any_of HT_.out (by kernel_rfl)) ?_
          refine pureA 27 39 (bz 33 268435455) rfl rfl (any_of HT_.out (by kernel_rfl)) ?_
          refine pureA 30 42 (bz 33 1342177279) rfl rfl (any_of HT_.out (by kernel_rfl)) ?_
          refine takeA 28 40 (bz 33 1610612735) rfl rfl (take_ofW HT_.out HW_.out (by kernel_rfl)) hHeld (by rintro w' ⟨s0, s1⟩; go_simp; with_reducible rfl) ?_
          refine one_ (i := 29) (N := some 41) (bz 33 2147483647) rfl rfl (one_of HT_.out (by kernel_rfl)) (by decide) (fun K hK => ?_)
          refine goes_ Try.func25 (by kernel_rfl) rfl #[.slice (some ad336) l0.length c0, .slice A336_1 ((rd_T50 l0 x7_1).f1).length c336_1] (by rfl) rfl rfl aE ?_
          with_reducible refine (impl_chordPlace.calls k1 _ _ l0 _ _ ((rd_T50 l0 x7_1).f1) t343 _ ?side1 ?side2 ?side3 ?side4 A36.out).mono ?_
          (case side1 => exact cU (Kd.C_below HR0.out (lV1 GE337)))
          (case side2 => exact HC0.out)
          (case side3 => exact cU (Kd.C_below HR336_1.out (lV1 GE337)))
          (case side4 => exact HC336_1.out)
          rintro e w47 ⟨rfl, hb⟩
          refine ⟨_, rfl, ?_⟩
          replace BK337 := bB (bV BK337) hb
          replace HB := bH (lV1 GE337) hb
          (try clear hb)
          (try clear hb2)
          (try clear hk)
          (try clear hi)
          refine hK.out _ _ ⟨cz BK337 0 _, cz BK337 1 _⟩ (fun hHeld => ?_)
          clear hK K
          refine norm_ (a' := ?_) ?_ ?_
          rotate_left
          ·show Act.put _ (some 41) _ = _
           simp only [Act.put, List.setIfInBounds_toArray, List.set_cons_zero, List.set_cons_succ, i64_w, i32_w]
           rfl
          refine pureA 31 43 (bz 33 4294967295) rfl rfl (any_of HT_.out (by kernel_rfl)) ?_
          refine pureA 32 44 (bz 33 8589934591) rfl rfl (any_of HT_.out (by kernel_rfl)) ?_
          refine done_ (done_of HT_.out (by kernel_rfl)) ?_
          try go_wp2
          go_ret
          exact ⟨eE, lV1 GE337⟩
        ·replace c35 := Bool.eq_false_iff.mpr c35
         subst c35
         have H1 : (some false) = some r := by rw [if_neg (show ¬ (false = true) by decide)] at H; exact H
         clear H
         have H := H1
         clear H1
         obtain rfl := Option.some.inj H
         have p336 : 0 ≤ (x7_1 : Int) := of_decide_eq_true hE
         have q336 : x7_1 < (l0.length : Int) := of_decide_eq_true hE
         obtain ⟨ad336, A336_1, c336_1, e336, hx336_0, hx336_1, hl336_1, hi336_1⟩ := at_T50 HR0.out x7_1 p336 q336
         cases e336
         replace hx336_0 := (HB.out.cell (World.block_lt_of_cell? w _ hx336_0)).trans hx336_0
         replace hx336_1 := (HB.out.cell (World.block_lt_of_cell? w _ hx336_1)).trans hx336_1
         have HR336_1 := Aside0.mk hi336_1
         have HC336_1 := Aside0.mk hl336_1
         clear hi336_1 hl336_1
         replace p336 := eq_true p336
         replace q336 := eq_true q336
         try go_wp2_with (first | ((with_reducible refine gate_dst (N := 4) rfl ?_); refine box_event rfl (N := 4) rfl (cs := #[.string (⟨#[]⟩ : ByteArray), .slice none 0 0]) (t := 50) sE ?_; intro gb337 hg w48 hbox hb; have BK337 := Aside0.mk hbox; have GW337 := gS w hg (lU); have GE337 := gS w hg (lU); replace HB := bH (lU) hb; clear hb hbox hg; have hcz49_0 := cz BK337 0 (.string (⟨#[]⟩ : ByteArray)); have hcz49_1 := cz BK337 1 (.slice none 0 0); have hfz49_0 := fz BK337 0; have hfz49_1 := fz BK337 1) | ((with_reducible refine gate_store (t := 50) (p := 4) rfl ?_); refine store_event (t := 50) (p := 4) (v := ?vo_w50) (w1 := ((w48.setCell ⟨gb337, 0, none⟩ (.string ((rd_T50 l0 x7_1).f0))).setCell ⟨gb337, 1, none⟩ (.slice A336_1 ((rd_T50 l0 x7_1).f1).length c336_1))) ?hg ?ho ?hn ?hr ?_; (case ho => rfl); (case hg => rfl); (case hn => rfl); (case hr => first | (go_simp; done) | (go_simp; rfl) | (have hq0_ := (blk_cell BK337.out 0).trans (show _ = some _ from rfl); have hf0_ := blk_frozen BK337.out 0; have hq1_ := (blk_cell BK337.out 1).trans (show _ = some _ from rfl); have hf1_ := blk_frozen BK337.out 1; first | (go_simp; done) | (go_simp; rfl))); intro w50 hw; replace BK337 : Aside0 (w50.heap[gb337]? = some (.cells #[.string ((rd_T50 l0 x7_1).f0), .slice A336_1 ((rd_T50 l0 x7_1).f1).length c336_1] 50 (0, 0))) := ⟨(by rw [hw]; exact (by refine bU ?_; refine blk_put (cs := #[.string ((rd_T50 l0 x7_1).f0), .slice none 0 0]) ?_ 1 _ rfl; refine bU ?_; refine blk_put (cs := #[.string (⟨#[]⟩ : ByteArray), .slice none 0 0]) ?_ 0 _ rfl; refine bU ?_; exact BK337.out))⟩; replace HB : Aside0 (Below w.heap.size w w50) := ⟨(by rw [hw]; exact (lV1 GE337))⟩; clear hw))
         replace BK337 := Aside0.mk (blk_drew BK337.out)
         replace HB := Aside0.mk (below_drew1 HB.out)
         refine start_ (n := 33) (S := fun w' => w'.cell? ⟨gb337, 0, none⟩ = some (.string ((rd_T50 l0 x7_1).f0)) ∧ w'.cell? ⟨gb337, 1, none⟩ = some (.slice A336_1 ((rd_T50 l0 x7_1).f1).length c336_1)) (ds := []) #[false, false, false, false, false, false, false, false, false, false, false, false, false, false, false, false, false, false, false, false, false, false, false, false, false, false, false, false, false, false, false, false, false] (by kernel_rfl) rfl rfl ⟨cz BK337 0 _, cz BK337 1 _⟩ (fun hHeld => ?_); refine with_tabW impl_GoodBinds.tab4 impl_GoodBinds.bits4 (fun HT_ HW_ => ?_)
         generalize w50.drew = w51 at BK337 HB hHeld ⊢
         refine pureA 0 12 (bz 33 1) rfl rfl (any_of HT_.out (by kernel_rfl)) ?_
         refine takeA 1 13 (bz 33 3) rfl rfl (take_ofW HT_.out HW_.out (by kernel_rfl)) hHeld (by rintro w' ⟨s0, s1⟩; go_simp; with_reducible rfl) ?_
         refine one_ (i := 2) (N := some 14) (bz 33 7) rfl rfl (one_of HT_.out (by kernel_rfl)) (by decide) (fun K hK => ?_)
         refine goes_ Try.func23 (by kernel_rfl) rfl #[.string ((rd_T50 l0 x7_1).f0)] (by rfl) rfl rfl aE ?_
         with_reducible refine (impl_GoodName.calls k1 ((rd_T50 l0 x7_1).f0) true _ A5.out).mono ?_
         rintro e w' ⟨rfl, ⟨nd, rfl⟩⟩
         refine ⟨_, rfl, ?_⟩
         refine hK.out _ _ ⟨cz BK337 0 _, cz BK337 1 _⟩ (fun hHeld => ?_)
         clear hK K
         refine norm_ (a' := ?_) ?_ ?_
         rotate_left
         ·show Act.put _ (some 14) _ = _
          simp only [Act.put, List.setIfInBounds_toArray, List.set_cons_zero, List.set_cons_succ, i64_w, i32_w]
          rfl
         refine pureA 3 15 (bz 33 15) rfl rfl (any_of HT_.out (by kernel_rfl)) ?_
         refine pureA 4 16 (bz 33 31) rfl rfl (any_of HT_.out (by kernel_rfl)) ?_
         refine pureA 5 17 (bz 33 63) rfl rfl (any_of HT_.out (by kernel_rfl)) ?_
         refine pureA 6 18 (bz 33 127) rfl rfl (any_of HT_.out (by kernel_rfl)) ?_
         refine pureA 7 19 (bz 33 255) rfl rfl (any_of HT_.out (by kernel_rfl)) ?_
         refine pureU 8 20 (bz 33 511) rfl rfl (any_of HT_.out (by kernel_rfl)) ?_
         refine pureU 9 21 (bz 33 1023) rfl rfl (any_of HT_.out (by kernel_rfl)) ?_
         refine pureU 10 22 (bz 33 2047) rfl rfl (any_of HT_.out (by kernel_rfl)) ?_
         refine pureU 11 23 (bz 33 4095) rfl rfl (any_of HT_.out (by kernel_rfl)) ?_
         refine pureU 12 24 (bz 33 8191) rfl rfl (any_of HT_.out (by kernel_rfl)) ?_
         refine pureU 13 25 (bz 33 16383) rfl rfl (any_of HT_.out (by kernel_rfl)) ?_
         refine pureU 14 26 (bz 33 32767) rfl rfl (any_of HT_.out (by kernel_rfl)) ?_
         refine pureU 15 27 (bz 33 65535) rfl rfl (any_of HT_.out (by kernel_rfl)) ?_
         refine pureU 16 28 (bz 33 131071) rfl rfl (any_of HT_.out (by kernel_rfl)) ?_
         refine pureA 17 29 (bz 33 262143) rfl rfl (any_of HT_.out (by kernel_rfl)) ?_
         refine pureA 18 30 (bz 33 524287) rfl rfl (any_of HT_.out (by kernel_rfl)) ?_
         refine pureA 19 31 (bz 33 1048575) rfl rfl (any_of HT_.out (by kernel_rfl)) ?_
         refine pureA 20 32 (bz 33 2097151) rfl rfl (any_of HT_.out (by kernel_rfl)) ?_
         refine takeA 21 33 (bz 33 4194303) rfl rfl (take_ofW HT_.out HW_.out (by kernel_rfl)) hHeld (by rintro w' ⟨s0, s1⟩; go_simp; with_reducible rfl) ?_
         refine one_ (i := 22) (N := some 34) (bz 33 8388607) rfl rfl (one_of HT_.out (by kernel_rfl)) (by decide) (fun K hK => ?_)
         refine goes_ Try.func24 (by kernel_rfl) rfl #[.slice A336_1 ((rd_T50 l0 x7_1).f1).length c336_1] (by rfl) rfl rfl aE ?_
         with_reducible refine (impl_isChord.calls k1 _ _ ((rd_T50 l0 x7_1).f1) false _ ?side1 ?side2 A34.out).mono ?_
         (case side1 => exact cU (Kd.C_below HR336_1.out (lV1 GE337)))
         (case side2 => exact HC336_1.out)
         rintro e w' ⟨rfl, ⟨nd, rfl⟩⟩
         refine ⟨_, rfl, ?_⟩
         refine hK.out _ _ ⟨cz BK337 0 _, cz BK337 1 _⟩ (fun hHeld => ?_)
         clear hK K
         refine norm_ (a' := ?_) ?_ ?_
         rotate_left
         ·show Act.put _ (some 34) _ = _
          simp only [Act.put, List.setIfInBounds_toArray, List.set_cons_zero, List.set_cons_succ, i64_w, i32_w]
          rfl
         refine pureA 23 35 (bz 33 16777215) rfl rfl (any_of HT_.out (by kernel_rfl)) ?_
         refine pureA 24 36 (bz 33 33554431) rfl rfl (any_of HT_.out (by kernel_rfl)) ?_
         refine pureA 25 37 (bz 33 67108863) rfl rfl (any_of HT_.out (by kernel_rfl)) ?_
         refine pureU 26 38 (bz 33 134217727) rfl rfl (any_of HT_.out (by kernel_rfl)) ?_
         refine pureU 27 39 (bz 33 268435455) rfl rfl (any_of HT_.out (by kernel_rfl)) ?_
         refine pureU 28 40 (bz 33 536870911) rfl rfl (any_of HT_.out (by kernel_rfl)) ?_
         refine pureU 29 41 (bz 33 1073741823) rfl rfl (any_of HT_.out (by kernel_rfl)) ?_
         refine pureU 30 42 (bz 33 2147483647) rfl rfl (any_of HT_.out (by kernel_rfl)) ?_
         refine pureU 31 43 (bz 33 4294967295) rfl rfl (any_of HT_.out (by kernel_rfl)) ?_
         refine pureA 32 44 (bz 33 8589934591) rfl rfl (any_of HT_.out (by kernel_rfl)) ?_
         refine done_ (done_of HT_.out (by kernel_rfl)) ?_
         try go_wp2
         go_ret
         exact ⟨eE, lV1 GE337⟩
      ·replace c6 := Bool.eq_false_iff.mpr c6
       subst c6
       have H1 : (some false) = some r := by rw [if_neg (show ¬ (false = true) by decide)] at H; exact H
       clear H
       have H := H1
       clear H1
       obtain rfl := Option.some.inj H
       have p336 : 0 ≤ (x7_1 : Int) := of_decide_eq_true hE
       have q336 : x7_1 < (l0.length : Int) := of_decide_eq_true hE
       obtain ⟨ad336, A336_1, c336_1, e336, hx336_0, hx336_1, hl336_1, hi336_1⟩ := at_T50 HR0.out x7_1 p336 q336
       cases e336
       replace hx336_0 := (HB.out.cell (World.block_lt_of_cell? w _ hx336_0)).trans hx336_0
       replace hx336_1 := (HB.out.cell (World.block_lt_of_cell? w _ hx336_1)).trans hx336_1
       have HR336_1 := Aside0.mk hi336_1
       have HC336_1 := Aside0.mk hl336_1
       clear hi336_1 hl336_1
       replace p336 := eq_true p336
       replace q336 := eq_true q336
       try go_wp2_with (first | ((with_reducible refine gate_dst (N := 4) rfl ?_); refine box_event rfl (N := 4) rfl (cs := #[.string (⟨#[]⟩ : ByteArray), .slice none 0 0]) (t := 50) sE ?_; intro gb337 hg w52 hbox hb; have BK337 := Aside0.mk hbox; have GW337 := gS w hg (lU); have GE337 := gS w hg (lU); replace HB := bH (lU) hb; clear hb hbox hg; have hcz53_0 := cz BK337 0 (.string (⟨#[]⟩ : ByteArray)); have hcz53_1 := cz BK337 1 (.slice none 0 0); have hfz53_0 := fz BK337 0; have hfz53_1 := fz BK337 1) | ((with_reducible refine gate_store (t := 50) (p := 4) rfl ?_); refine store_event (t := 50) (p := 4) (v := ?vo_w54) (w1 := ((w52.setCell ⟨gb337, 0, none⟩ (.string ((rd_T50 l0 x7_1).f0))).setCell ⟨gb337, 1, none⟩ (.slice A336_1 ((rd_T50 l0 x7_1).f1).length c336_1))) ?hg ?ho ?hn ?hr ?_; (case ho => rfl); (case hg => rfl); (case hn => rfl); (case hr => first | (go_simp; done) | (go_simp; rfl) | (have hq0_ := (blk_cell BK337.out 0).trans (show _ = some _ from rfl); have hf0_ := blk_frozen BK337.out 0; have hq1_ := (blk_cell BK337.out 1).trans (show _ = some _ from rfl); have hf1_ := blk_frozen BK337.out 1; first | (go_simp; done) | (go_simp; rfl))); intro w54 hw; replace BK337 : Aside0 (w54.heap[gb337]? = some (.cells #[.string ((rd_T50 l0 x7_1).f0), .slice A336_1 ((rd_T50 l0 x7_1).f1).length c336_1] 50 (0, 0))) := ⟨(by rw [hw]; exact (by refine bU ?_; refine blk_put (cs := #[.string ((rd_T50 l0 x7_1).f0), .slice none 0 0]) ?_ 1 _ rfl; refine bU ?_; refine blk_put (cs := #[.string (⟨#[]⟩ : ByteArray), .slice none 0 0]) ?_ 0 _ rfl; refine bU ?_; exact BK337.out))⟩; replace HB : Aside0 (Below w.heap.size w w54) := ⟨(by rw [hw]; exact (lV1 GE337))⟩; clear hw))
       replace BK337 := Aside0.mk (blk_drew BK337.out)
       replace HB := Aside0.mk (below_drew1 HB.out)
       refine start_ (n := 33) (S := fun w' => w'.cell? ⟨gb337, 0, none⟩ = some (.string ((rd_T50 l0 x7_1).f0)) ∧ w'.cell? ⟨gb337, 1, none⟩ = some (.slice A336_1 ((rd_T50 l0 x7_1).f1).length c336_1)) (ds := []) #[false, false, false, false, false, false, false, false, false, false, false, false, false, false, false, false, false, false, false, false, false, false, false, false, false, false, false, false, false, false, false, false, false] (by kernel_rfl) rfl rfl ⟨cz BK337 0 _, cz BK337 1 _⟩ (fun hHeld => ?_); refine with_tabW impl_GoodBinds.tab4 impl_GoodBinds.bits4 (fun HT_ HW_ => ?_)
       generalize w54.drew = w55 at BK337 HB hHeld ⊢
       refine pureA 0 12 (bz 33 1) rfl rfl (any_of HT_.out (by kernel_rfl)) ?_
       refine takeA 1 13 (bz 33 3) rfl rfl (take_ofW HT_.out HW_.out (by kernel_rfl)) hHeld (by rintro w' ⟨s0, s1⟩; go_simp; with_reducible rfl) ?_
       refine one_ (i := 2) (N := some 14) (bz 33 7) rfl rfl (one_of HT_.out (by kernel_rfl)) (by decide) (fun K hK => ?_)
       refine goes_ Try.func23 (by kernel_rfl) rfl #[.string ((rd_T50 l0 x7_1).f0)] (by rfl) rfl rfl aE ?_
       with_reducible refine (impl_GoodName.calls k1 ((rd_T50 l0 x7_1).f0) false _ A5.out).mono ?_
       rintro e w' ⟨rfl, ⟨nd, rfl⟩⟩
       refine ⟨_, rfl, ?_⟩
       refine hK.out _ _ ⟨cz BK337 0 _, cz BK337 1 _⟩ (fun hHeld => ?_)
       clear hK K
       refine norm_ (a' := ?_) ?_ ?_
       rotate_left
       ·show Act.put _ (some 14) _ = _
        simp only [Act.put, List.setIfInBounds_toArray, List.set_cons_zero, List.set_cons_succ, i64_w, i32_w]
        rfl
       refine pureA 3 15 (bz 33 15) rfl rfl (any_of HT_.out (by kernel_rfl)) ?_
       refine pureA 4 16 (bz 33 31) rfl rfl (any_of HT_.out (by kernel_rfl)) ?_
       refine pureU 5 17 (bz 33 63) rfl rfl (any_of HT_.out (by kernel_rfl)) ?_
       refine pureU 6 18 (bz 33 127) rfl rfl (any_of HT_.out (by kernel_rfl)) ?_
       refine pureU 7 19 (bz 33 255) rfl rfl (any_of HT_.out (by kernel_rfl)) ?_
       refine pureU 8 20 (bz 33 511) rfl rfl (any_of HT_.out (by kernel_rfl)) ?_
       refine pureU 9 21 (bz 33 1023) rfl rfl (any_of HT_.out (by kernel_rfl)) ?_
       refine pureU 10 22 (bz 33 2047) rfl rfl (any_of HT_.out (by kernel_rfl)) ?_
       refine pureU 11 23 (bz 33 4095) rfl rfl (any_of HT_.out (by kernel_rfl)) ?_
       refine pureU 12 24 (bz 33 8191) rfl rfl (any_of HT_.out (by kernel_rfl)) ?_
       refine pureU 13 25 (bz 33 16383) rfl rfl (any_of HT_.out (by kernel_rfl)) ?_
       refine pureU 14 26 (bz 33 32767) rfl rfl (any_of HT_.out (by kernel_rfl)) ?_
       refine pureU 15 27 (bz 33 65535) rfl rfl (any_of HT_.out (by kernel_rfl)) ?_
       refine pureU 16 28 (bz 33 131071) rfl rfl (any_of HT_.out (by kernel_rfl)) ?_
       refine pureU 17 29 (bz 33 262143) rfl rfl (any_of HT_.out (by kernel_rfl)) ?_
       refine pureA 18 30 (bz 33 524287) rfl rfl (any_of HT_.out (by kernel_rfl)) ?_
       refine pureA 19 31 (bz 33 1048575) rfl rfl (any_of HT_.out (by kernel_rfl)) ?_
       refine pureU 20 32 (bz 33 2097151) rfl rfl (any_of HT_.out (by kernel_rfl)) ?_
       refine pureU 21 33 (bz 33 4194303) rfl rfl (any_of HT_.out (by kernel_rfl)) ?_
       refine pureU 22 34 (bz 33 8388607) rfl rfl (any_of HT_.out (by kernel_rfl)) ?_
       refine pureU 23 35 (bz 33 16777215) rfl rfl (any_of HT_.out (by kernel_rfl)) ?_
       refine pureA 24 36 (bz 33 33554431) rfl rfl (any_of HT_.out (by kernel_rfl)) ?_
       refine pureA 25 37 (bz 33 67108863) rfl rfl (any_of HT_.out (by kernel_rfl)) ?_
       refine pureU 26 38 (bz 33 134217727) rfl rfl (any_of HT_.out (by kernel_rfl)) ?_
       refine pureU 27 39 (bz 33 268435455) rfl rfl (any_of HT_.out (by kernel_rfl)) ?_
       refine pureU 28 40 (bz 33 536870911) rfl rfl (any_of HT_.out (by kernel_rfl)) ?_
       refine pureU 29 41 (bz 33 1073741823) rfl rfl (any_of HT_.out (by kernel_rfl)) ?_
       refine pureU 30 42 (bz 33 2147483647) rfl rfl (any_of HT_.out (by kernel_rfl)) ?_
       refine pureU 31 43 (bz 33 4294967295) rfl rfl (any_of HT_.out (by kernel_rfl)) ?_
       refine pureA 32 44 (bz 33 8589934591) rfl rfl (any_of HT_.out (by kernel_rfl)) ?_
       refine done_ (done_of HT_.out (by kernel_rfl)) ?_
       try go_wp2
       go_ret
       exact ⟨eE, lV1 GE337⟩
     ·rw [if_neg c4] at H
      exact absurd H (by simp)
    ·rw [if_neg c3] at H
     exact absurd H (by simp)
   ·rw [if_neg c2] at H
    have c2b0 : decide (x7_1 < (l0.length : Int)) = false := decide_eq_false c2
    clear c2
    obtain rfl := Option.some.inj H
    go_wp2
    go_ret
    exact ⟨eE, lU⟩
end Go.Proofs.Ytndgkdnbacoenab.PFnMeant
namespace Go.Proofs.Ytndgkdnbacoenab.PFnMeant
open Go.RowKit Go.Proofs.YtndgkdnbacoenabW.PrintWords Go.Proofs.YtndgkdnbacoenabW.PrintLast Go.Proofs.YtndgkdnbacoenabW.PrintMore
attribute [local go_sem] max2_int min2_int max_two min_two max_three min_three max_four min_four
set_option linter.unusedVariables false
set_option linter.unusedSimpArgs false
def impl_isTime.f (a0 : Int) : Option (Bool) := (impl_inRange.f a0 0 100000).bind fun t344 => (some t344)
set_option maxHeartbeats 8000000 in
set_option maxRecDepth 100000 in
theorem impl_isTime.calls (a0 : Int) (r : Bool) (w : World) (h : impl_isTime.f a0 = some r) :
  Calls Try.prog 26 #[.int .i64 a0] w fun e w' => e = .returned (.bool r) ∧ Drawn0 w w' := by
 have H : ((impl_inRange.f a0 0 100000).bind fun t344 => (some t344)) = some r := h
 clear h
 replace H := Option.bind_eq_some_iff.mp H
 obtain ⟨t344, A20, H⟩ := H
 replace H : (some t344) = some r := H
 have A2 := Aside0.mk A20
 clear A20
 obtain rfl := Option.some.inj H
 go_enter Try.func26, Try.ntmps26
 go_wp2_with (first | ((with_reducible refine gate_callee (f := 43) rfl ?_); refine goesL_ (some 4) rfl rfl Try.func43 (by kernel_rfl) rfl #[.int .i64 a0, .int .i64 0, .int .i64 100000] rfl aE ?_; (with_reducible refine (impl_inRange.calls a0 0 100000 t344 _ A2.out).mono ?_); rintro e w' ⟨rfl, ⟨nd, rfl⟩⟩; refine ⟨_, rfl, ?_⟩))
 go_ret
 exact ⟨by first | rfl | (simp; done) | (simp [*]; done) | exact not_isEmpty _ | exact (not_isEmpty _).symm | exact is_empty _ | exact (is_empty _).symm, by repeat (first | exact Drawn0.refl _ | apply Drawn0.step)⟩
def impl_areEvents.l0 : Nat → List (S47) → List (S47) → Int → Int → Option (Bool)
 | 0, _, _, _, _ => none
 | k + 1, x0, x5, x6, x7 => if x7 < x6 then (if 0 ≤ x7 then (if x7 < (x5.length : Int) then ((impl_isTime.f ((rd_T47 x5 x7).f0)).bind fun t347 => (if t347 = true then ((impl_isKey.f ((rd_T47 x5 x7).f1)).bind fun t348 => (if t348 = true then (if x7 > 0 then (if 0 ≤ (wrap64 (x7 - 1)) then (if (wrap64 (x7 - 1)) < (x0.length : Int) then (if ((rd_T47 x0 (wrap64 (x7 - 1))).f0) > ((rd_T47 x5 x7).f0) then (some false) else (impl_areEvents.l0 k x0 x5 x6 (wrap64 (x7 + 1)))) else (none)) else (none)) else (impl_areEvents.l0 k x0 x5 x6 (wrap64 (x7 + 1)))) else (some false))) else (some false))) else (none)) else (none)) else (some (decide ((x0.length : Int) ≤ 200)))
def impl_areEvents.f (k : Nat) (l0 : List (S47)) : Option (Bool) := impl_areEvents.l0 k l0 l0 (l0.length : Int) 0
theorem impl_areEvents.mono_l : ∀ k, (∀ y0 y1 y2 y3, LeO (impl_areEvents.l0 k y0 y1 y2 y3) (impl_areEvents.l0 (k + 1) y0 y1 y2 y3))
 | 0 => fun _ _ _ _ r h => by simp [impl_areEvents.l0] at h
 | k + 1 => by
  have ih0 := impl_areEvents.mono_l k
  ·intro y0 y1 y2 y3
   unfold impl_areEvents.l0
   repeat' first
   | (with_reducible exact ih0 _ _ _ _)
   | (with_reducible first | exact LeO.refl _ | exact LeO.none _ | refine LeO.ite ?_ ?_ | refine LeO.bind ?_ (fun _ => ?_))
   | exact ih0 _ _ _ _ | exact LeO.none _ | refine LeO.ite ?_ ?_ | refine LeO.bind ?_ (fun _ => ?_)
theorem impl_areEvents.mono : ∀ a0 k, LeO (impl_areEvents.f k a0) (impl_areEvents.f (k + 1) a0) := by
 intro a0 k
 have ih0 := impl_areEvents.mono_l k
 unfold impl_areEvents.f
 repeat' first
   | (with_reducible exact ih0 _ _ _ _)
   | (with_reducible first | exact LeO.refl _ | exact LeO.none _ | refine LeO.ite ?_ ?_ | refine LeO.bind ?_ (fun _ => ?_))
   | exact ih0 _ _ _ _ | exact LeO.none _ | refine LeO.ite ?_ ?_ | refine LeO.bind ?_ (fun _ => ?_)
set_option maxHeartbeats 8000000 in
set_option maxRecDepth 100000 in
theorem impl_areEvents.calls (k : Nat) (A0 : Option Addr) (c0 : Nat) (l0 : List (S47)) (r : Bool) (w : World) (hr0 : Kd.C k47 w A0 l0.length l0) (hc0 : l0.length ≤ c0) (h : impl_areEvents.f k l0 = some r) :
  Calls Try.prog 10 #[.slice A0 l0.length c0] w fun e w' => e = .returned (.bool r) ∧ Below w.heap.size w w' := by
 have hu47 := Try.underlying47
 have HR0 := Aside0.mk hr0
 have HC0 := Aside0.mk hc0
 clear hr0 hc0
 have HB := Aside0.mk (Below.refl w.heap.size w)
 have H : (impl_areEvents.l0 k l0 l0 (l0.length : Int) 0) = some r := h
 clear h
 have H' := Aside0.mk H
 clear H
 go_enter Try.func10, Try.ntmps10
 go_wp2
 repeat (go_quiet (fail); try go_wp2)
 go_loopg [7] k (fun kq v7 w' => ∃ (x7_1 : Int), v7 = .int .i64 x7_1 ∧ Aside0 (impl_areEvents.l0 kq l0 l0 (l0.length : Int) x7_1 = some r) ∧ Aside0 (kq ≤ k) ∧ Aside0 (Below w.heap.size w w'))
 case atStart => exact ⟨(0), tE, H', ⟨Nat.le_refl _⟩, ⟨by repeat (first | (with_reducible first | exact HB.out | apply below_alloc | apply pw_below_drewN | apply below_drew1) | exact HB.out)⟩⟩
 case round =>
  clear H'
  try clear c1
  obtain ⟨x7_1, rfl, HA, HK1, HB⟩ := hrel
  cases gk with
  | zero => exact absurd HA.out (by simp [impl_areEvents.l0])
  | succ k1 =>
   have H := HA.out
   clear HA
   simp only [impl_areEvents.l0] at H
   by_cases c2 : x7_1 < (l0.length : Int)
   ·rw [if_pos c2] at H
    have c2b0 : decide (x7_1 < (l0.length : Int)) = true := decide_eq_true c2
    clear c2
    by_cases c3 : 0 ≤ x7_1
    ·rw [if_pos c3] at H
     have c3b0 : decide (0 ≤ x7_1) = true := decide_eq_true c3
     clear c3
     by_cases c4 : x7_1 < (l0.length : Int)
     ·rw [if_pos c4] at H
      have c4b0 : decide (x7_1 < (l0.length : Int)) = true := decide_eq_true c4
      clear c4
      replace H := Option.bind_eq_some_iff.mp H
      obtain ⟨t347, A50, H⟩ := H
      replace H : (if t347 = true then ((impl_isKey.f ((rd_T47 l0 x7_1).f1)).bind fun t348 => (if t348 = true then (if x7_1 > 0 then (if 0 ≤ (wrap64 (x7_1 - 1)) then (if (wrap64 (x7_1 - 1)) < (l0.length : Int) then (if ((rd_T47 l0 (wrap64 (x7_1 - 1))).f0) > ((rd_T47 l0 x7_1).f0) then (some false) else (impl_areEvents.l0 k1 l0 l0 (l0.length : Int) (wrap64 (x7_1 + 1)))) else (none)) else (none)) else (impl_areEvents.l0 k1 l0 l0 (l0.length : Int) (wrap64 (x7_1 + 1)))) else (some false))) else (some false)) = some r := H
      have A5 := Aside0.mk A50
      clear A50
      by_cases c6 : t347 = true
      ·subst c6
       have H1 : ((impl_isKey.f ((rd_T47 l0 x7_1).f1)).bind fun t348 => (if t348 = true then (if x7_1 > 0 then (if 0 ≤ (wrap64 (x7_1 - 1)) then (if (wrap64 (x7_1 - 1)) < (l0.length : Int) then (if ((rd_T47 l0 (wrap64 (x7_1 - 1))).f0) > ((rd_T47 l0 x7_1).f0) then (some false) else (impl_areEvents.l0 k1 l0 l0 (l0.length : Int) (wrap64 (x7_1 + 1)))) else (none)) else (none)) else (impl_areEvents.l0 k1 l0 l0 (l0.length : Int) (wrap64 (x7_1 + 1)))) else (some false))) = some r := by rw [if_pos rfl] at H; exact H
       clear H
       have H := H1
       clear H1
       replace H := Option.bind_eq_some_iff.mp H
       obtain ⟨t348, A70, H⟩ := H
       replace H : (if t348 = true then (if x7_1 > 0 then (if 0 ≤ (wrap64 (x7_1 - 1)) then (if (wrap64 (x7_1 - 1)) < (l0.length : Int) then (if ((rd_T47 l0 (wrap64 (x7_1 - 1))).f0) > ((rd_T47 l0 x7_1).f0) then (some false) else (impl_areEvents.l0 k1 l0 l0 (l0.length : Int) (wrap64 (x7_1 + 1)))) else (none)) else (none)) else (impl_areEvents.l0 k1 l0 l0 (l0.length : Int) (wrap64 (x7_1 + 1)))) else (some false)) = some r := H
       have A7 := Aside0.mk A70
       clear A70
       by_cases c8 : t348 = true
       ·subst c8
        have H1 : (if x7_1 > 0 then (if 0 ≤ (wrap64 (x7_1 - 1)) then (if (wrap64 (x7_1 - 1)) < (l0.length : Int) then (if ((rd_T47 l0 (wrap64 (x7_1 - 1))).f0) > ((rd_T47 l0 x7_1).f0) then (some false) else (impl_areEvents.l0 k1 l0 l0 (l0.length : Int) (wrap64 (x7_1 + 1)))) else (none)) else (none)) else (impl_areEvents.l0 k1 l0 l0 (l0.length : Int) (wrap64 (x7_1 + 1)))) = some r := by rw [if_pos rfl] at H; exact H
        clear H
        have H := H1
        clear H1
        by_cases c9 : x7_1 > 0
        ·rw [if_pos c9] at H
         have c9b0 : decide (0 < x7_1) = true := decide_eq_true c9
         clear c9
         obtain ⟨ji10, hji10⟩ : ∃ j_ : Int, (wrap64 (x7_1 - 1)) = j_ := ⟨_, rfl⟩
         replace H : (if 0 ≤ (ji10) then (if (ji10) < (l0.length : Int) then (if ((rd_T47 l0 (ji10)).f0) > ((rd_T47 l0 x7_1).f0) then (some false) else (impl_areEvents.l0 k1 l0 l0 (l0.length : Int) (wrap64 (x7_1 + 1)))) else (none)) else (none)) = some r := by first | (rw [hji10] at H; exact H) | (simp only [hji10] at H ⊢; exact H)
         (try rw [hji10] at A5)
         (try rw [hji10] at A7)
         have hji10w : (IntKind.i64.wrap (x7_1 - 1)) = ji10 := (i64_w _).trans hji10
         by_cases c11 : 0 ≤ (ji10)
         ·rw [if_pos c11] at H
          have c11b0 : decide (0 ≤ (ji10)) = true := decide_eq_true c11
          clear c11
          by_cases c12 : (ji10) < (l0.length : Int)
          ·rw [if_pos c12] at H
           have c12b0 : decide ((ji10) < (l0.length : Int)) = true := decide_eq_true c12
           clear c12
           by_cases c13 : ((rd_T47 l0 (ji10)).f0) > ((rd_T47 l0 x7_1).f0)
           ·rw [if_pos c13] at H
            have c13b0 : decide (((rd_T47 l0 x7_1).f0) < ((rd_T47 l0 (ji10)).f0)) = true := decide_eq_true c13
            clear c13
            obtain rfl := Option.some.inj H
            have p345 : 0 ≤ (x7_1 : Int) := of_decide_eq_true hE
            have q345 : x7_1 < (l0.length : Int) := of_decide_eq_true hE
            obtain ⟨ad345, e345, hx345_0, hx345_1, hx345_2⟩ := at_T47 HR0.out x7_1 p345 q345
            cases e345
            replace hx345_0 := (HB.out.cell (World.block_lt_of_cell? w _ hx345_0)).trans hx345_0
            replace hx345_1 := (HB.out.cell (World.block_lt_of_cell? w _ hx345_1)).trans hx345_1
            replace hx345_2 := (HB.out.cell (World.block_lt_of_cell? w _ hx345_2)).trans hx345_2
            replace p345 := eq_true p345
            replace q345 := eq_true q345
            go_wp2_with (first | ((with_reducible refine gate_dst (N := 4) rfl ?_); refine box_event rfl (N := 4) rfl (cs := #[.int .i64 0, .int .i64 0, .bool false]) (t := 47) sE ?_; intro gb346 hg w14 hbox hb; have BK346 := Aside0.mk hbox; have GW346 := gS w hg (lU); have GE346 := gS w hg (lU); replace HB := bH (lU) hb; clear hb hbox hg; have hcz15_0 := cz BK346 0 (.int .i64 0); have hcz15_1 := cz BK346 1 (.int .i64 0); have hcz15_2 := cz BK346 2 (.bool false); have hfz15_0 := fz BK346 0; have hfz15_1 := fz BK346 1; have hfz15_2 := fz BK346 2) | ((with_reducible refine gate_store (t := 47) (p := 4) rfl ?_); (try (rw [drewN_self w14]; generalize hq_ : World.drewN w14 _ = w14; replace BK346 := Aside0.mk (blk_at hq_ BK346.out); replace HB := Aside0.mk (below_at hq_ HB.out); clear hq_)); refine store_event (t := 47) (p := 4) (v := ?vo_w16) (w1 := (((w14.setCell ⟨gb346, 0, none⟩ (.int .i64 ((rd_T47 l0 x7_1).f0))).setCell ⟨gb346, 1, none⟩ (.int .i64 ((rd_T47 l0 x7_1).f1))).setCell ⟨gb346, 2, none⟩ (.bool ((rd_T47 l0 x7_1).f2)))) ?hg ?ho ?hn ?hr ?_; (case ho => rfl); (case hg => rfl); (case hn => rfl); (case hr => first | (go_simp; done) | (go_simp; rfl) | (have hq0_ := (blk_cell BK346.out 0).trans (show _ = some _ from rfl); have hf0_ := blk_frozen BK346.out 0; have hq1_ := (blk_cell BK346.out 1).trans (show _ = some _ from rfl); have hf1_ := blk_frozen BK346.out 1; have hq2_ := (blk_cell BK346.out 2).trans (show _ = some _ from rfl); have hf2_ := blk_frozen BK346.out 2; first | (go_simp; done) | (go_simp; rfl))); intro w16 hw; replace BK346 : Aside0 (w16.heap[gb346]? = some (.cells #[.int .i64 ((rd_T47 l0 x7_1).f0), .int .i64 ((rd_T47 l0 x7_1).f1), .bool ((rd_T47 l0 x7_1).f2)] 47 (0, 0))) := ⟨(by rw [hw]; exact (by refine bU ?_; refine blk_put (cs := #[.int .i64 ((rd_T47 l0 x7_1).f0), .int .i64 ((rd_T47 l0 x7_1).f1), .bool false]) ?_ 2 _ rfl; refine bU ?_; refine blk_put (cs := #[.int .i64 ((rd_T47 l0 x7_1).f0), .int .i64 0, .bool false]) ?_ 1 _ rfl; refine bU ?_; refine blk_put (cs := #[.int .i64 0, .int .i64 0, .bool false]) ?_ 0 _ rfl; refine bU ?_; exact BK346.out))⟩; replace HB : Aside0 (Below w.heap.size w w16) := ⟨(by rw [hw]; exact (lV1 GE346))⟩; clear hw; have hcz17_0 := cz BK346 0 (.int .i64 ((rd_T47 l0 x7_1).f0)); have hcz17_1 := cz BK346 1 (.int .i64 ((rd_T47 l0 x7_1).f1)); have hcz17_2 := cz BK346 2 (.bool ((rd_T47 l0 x7_1).f2)); have hfz17_0 := fz BK346 0; have hfz17_1 := fz BK346 1; have hfz17_2 := fz BK346 2) | (go_at_call 26; (with_reducible refine (impl_isTime.calls ((rd_T47 l0 x7_1).f0) true _ A5.out).mono ?_); rintro e w' ⟨rfl, ⟨nd, rfl⟩⟩; (try first | exact ⟨rfl, _, World.drewN_drewN _ _ _⟩ | exact ⟨rfl, _, Eq.trans (World.drewN_drewN _ _ _) (congrArg (World.drewN _) (Nat.add_assoc _ _ _))⟩)) | (go_at_call 27; (with_reducible refine (impl_isKey.calls ((rd_T47 l0 x7_1).f1) true _ A7.out).mono ?_); rintro e w' ⟨rfl, ⟨nd, rfl⟩⟩; (try first | exact ⟨rfl, _, World.drewN_drewN _ _ _⟩ | exact ⟨rfl, _, Eq.trans (World.drewN_drewN _ _ _) (congrArg (World.drewN _) (Nat.add_assoc _ _ _))⟩); have p349 : 0 ≤ ((ji10) : Int) := of_decide_eq_true hE; have q349 : (ji10) < (l0.length : Int) := of_decide_eq_true hE; obtain ⟨ad349, e349, hx349_0, hx349_1, hx349_2⟩ := at_T47 HR0.out (ji10) p349 q349; obtain rfl : ad345 = ad349 := (by injection e349); replace hx349_0 := (HB.out.cell (World.block_lt_of_cell? w _ hx349_0)).trans hx349_0; replace hx349_1 := (HB.out.cell (World.block_lt_of_cell? w _ hx349_1)).trans hx349_1; replace hx349_2 := (HB.out.cell (World.block_lt_of_cell? w _ hx349_2)).trans hx349_2; replace p349 := eq_true p349; replace q349 := eq_true q349))
            repeat (go_quiet (first | ((with_reducible refine gate_dst (N := 4) rfl ?_); refine box_event rfl (N := 4) rfl (cs := #[.int .i64 0, .int .i64 0, .bool false]) (t := 47) sE ?_; intro gb346 hg w14 hbox hb; have BK346 := Aside0.mk hbox; have GW346 := gS w hg (lU); have GE346 := gS w hg (lU); replace HB := bH (lU) hb; clear hb hbox hg; have hcz15_0 := cz BK346 0 (.int .i64 0); have hcz15_1 := cz BK346 1 (.int .i64 0); have hcz15_2 := cz BK346 2 (.bool false); have hfz15_0 := fz BK346 0; have hfz15_1 := fz BK346 1; have hfz15_2 := fz BK346 2) | ((with_reducible refine gate_store (t := 47) (p := 4) rfl ?_); (try (rw [drewN_self w14]; generalize hq_ : World.drewN w14 _ = w14; replace BK346 := Aside0.mk (blk_at hq_ BK346.out); replace HB := Aside0.mk (below_at hq_ HB.out); clear hq_)); refine store_event (t := 47) (p := 4) (v := ?vo_w16) (w1 := (((w14.setCell ⟨gb346, 0, none⟩ (.int .i64 ((rd_T47 l0 x7_1).f0))).setCell ⟨gb346, 1, none⟩ (.int .i64 ((rd_T47 l0 x7_1).f1))).setCell ⟨gb346, 2, none⟩ (.bool ((rd_T47 l0 x7_1).f2)))) ?hg ?ho ?hn ?hr ?_; (case ho => rfl); (case hg => rfl); (case hn => rfl); (case hr => first | (go_simp; done) | (go_simp; rfl) | (have hq0_ := (blk_cell BK346.out 0).trans (show _ = some _ from rfl); have hf0_ := blk_frozen BK346.out 0; have hq1_ := (blk_cell BK346.out 1).trans (show _ = some _ from rfl); have hf1_ := blk_frozen BK346.out 1; have hq2_ := (blk_cell BK346.out 2).trans (show _ = some _ from rfl); have hf2_ := blk_frozen BK346.out 2; first | (go_simp; done) | (go_simp; rfl))); intro w16 hw; replace BK346 : Aside0 (w16.heap[gb346]? = some (.cells #[.int .i64 ((rd_T47 l0 x7_1).f0), .int .i64 ((rd_T47 l0 x7_1).f1), .bool ((rd_T47 l0 x7_1).f2)] 47 (0, 0))) := ⟨(by rw [hw]; exact (by refine bU ?_; refine blk_put (cs := #[.int .i64 ((rd_T47 l0 x7_1).f0), .int .i64 ((rd_T47 l0 x7_1).f1), .bool false]) ?_ 2 _ rfl; refine bU ?_; refine blk_put (cs := #[.int .i64 ((rd_T47 l0 x7_1).f0), .int .i64 0, .bool false]) ?_ 1 _ rfl; refine bU ?_; refine blk_put (cs := #[.int .i64 0, .int .i64 0, .bool false]) ?_ 0 _ rfl; refine bU ?_; exact BK346.out))⟩; replace HB : Aside0 (Below w.heap.size w w16) := ⟨(by rw [hw]; exact (lV1 GE346))⟩; clear hw; have hcz17_0 := cz BK346 0 (.int .i64 ((rd_T47 l0 x7_1).f0)); have hcz17_1 := cz BK346 1 (.int .i64 ((rd_T47 l0 x7_1).f1)); have hcz17_2 := cz BK346 2 (.bool ((rd_T47 l0 x7_1).f2)); have hfz17_0 := fz BK346 0; have hfz17_1 := fz BK346 1; have hfz17_2 := fz BK346 2) | (go_at_call 26; (with_reducible refine (impl_isTime.calls ((rd_T47 l0 x7_1).f0) true _ A5.out).mono ?_); rintro e w' ⟨rfl, ⟨nd, rfl⟩⟩; (try first | exact ⟨rfl, _, World.drewN_drewN _ _ _⟩ | exact ⟨rfl, _, Eq.trans (World.drewN_drewN _ _ _) (congrArg (World.drewN _) (Nat.add_assoc _ _ _))⟩)) | (go_at_call 27; (with_reducible refine (impl_isKey.calls ((rd_T47 l0 x7_1).f1) true _ A7.out).mono ?_); rintro e w' ⟨rfl, ⟨nd, rfl⟩⟩; (try first | exact ⟨rfl, _, World.drewN_drewN _ _ _⟩ | exact ⟨rfl, _, Eq.trans (World.drewN_drewN _ _ _) (congrArg (World.drewN _) (Nat.add_assoc _ _ _))⟩); have p349 : 0 ≤ ((ji10) : Int) := of_decide_eq_true hE; have q349 : (ji10) < (l0.length : Int) := of_decide_eq_true hE; obtain ⟨ad349, e349, hx349_0, hx349_1, hx349_2⟩ := at_T47 HR0.out (ji10) p349 q349; obtain rfl : ad345 = ad349 := (by injection e349); replace hx349_0 := (HB.out.cell (World.block_lt_of_cell? w _ hx349_0)).trans hx349_0; replace hx349_1 := (HB.out.cell (World.block_lt_of_cell? w _ hx349_1)).trans hx349_1; replace hx349_2 := (HB.out.cell (World.block_lt_of_cell? w _ hx349_2)).trans hx349_2; replace p349 := eq_true p349; replace q349 := eq_true q349)); try go_wp2_with (first | ((with_reducible refine gate_dst (N := 4) rfl ?_); refine box_event rfl (N := 4) rfl (cs := #[.int .i64 0, .int .i64 0, .bool false]) (t := 47) sE ?_; intro gb346 hg w14 hbox hb; have BK346 := Aside0.mk hbox; have GW346 := gS w hg (lU); have GE346 := gS w hg (lU); replace HB := bH (lU) hb; clear hb hbox hg; have hcz15_0 := cz BK346 0 (.int .i64 0); have hcz15_1 := cz BK346 1 (.int .i64 0); have hcz15_2 := cz BK346 2 (.bool false); have hfz15_0 := fz BK346 0; have hfz15_1 := fz BK346 1; have hfz15_2 := fz BK346 2) | ((with_reducible refine gate_store (t := 47) (p := 4) rfl ?_); (try (rw [drewN_self w14]; generalize hq_ : World.drewN w14 _ = w14; replace BK346 := Aside0.mk (blk_at hq_ BK346.out); replace HB := Aside0.mk (below_at hq_ HB.out); clear hq_)); refine store_event (t := 47) (p := 4) (v := ?vo_w16) (w1 := (((w14.setCell ⟨gb346, 0, none⟩ (.int .i64 ((rd_T47 l0 x7_1).f0))).setCell ⟨gb346, 1, none⟩ (.int .i64 ((rd_T47 l0 x7_1).f1))).setCell ⟨gb346, 2, none⟩ (.bool ((rd_T47 l0 x7_1).f2)))) ?hg ?ho ?hn ?hr ?_; (case ho => rfl); (case hg => rfl); (case hn => rfl); (case hr => first | (go_simp; done) | (go_simp; rfl) | (have hq0_ := (blk_cell BK346.out 0).trans (show _ = some _ from rfl); have hf0_ := blk_frozen BK346.out 0; have hq1_ := (blk_cell BK346.out 1).trans (show _ = some _ from rfl); have hf1_ := blk_frozen BK346.out 1; have hq2_ := (blk_cell BK346.out 2).trans (show _ = some _ from rfl); have hf2_ := blk_frozen BK346.out 2; first | (go_simp; done) | (go_simp; rfl))); intro w16 hw; replace BK346 : Aside0 (w16.heap[gb346]? = some (.cells #[.int .i64 ((rd_T47 l0 x7_1).f0), .int .i64 ((rd_T47 l0 x7_1).f1), .bool ((rd_T47 l0 x7_1).f2)] 47 (0, 0))) := ⟨(by rw [hw]; exact (by refine bU ?_; refine blk_put (cs := #[.int .i64 ((rd_T47 l0 x7_1).f0), .int .i64 ((rd_T47 l0 x7_1).f1), .bool false]) ?_ 2 _ rfl; refine bU ?_; refine blk_put (cs := #[.int .i64 ((rd_T47 l0 x7_1).f0), .int .i64 0, .bool false]) ?_ 1 _ rfl; refine bU ?_; refine blk_put (cs := #[.int .i64 0, .int .i64 0, .bool false]) ?_ 0 _ rfl; refine bU ?_; exact BK346.out))⟩; replace HB : Aside0 (Below w.heap.size w w16) := ⟨(by rw [hw]; exact (lV1 GE346))⟩; clear hw; have hcz17_0 := cz BK346 0 (.int .i64 ((rd_T47 l0 x7_1).f0)); have hcz17_1 := cz BK346 1 (.int .i64 ((rd_T47 l0 x7_1).f1)); have hcz17_2 := cz BK346 2 (.bool ((rd_T47 l0 x7_1).f2)); have hfz17_0 := fz BK346 0; have hfz17_1 := fz BK346 1; have hfz17_2 := fz BK346 2) | (go_at_call 26; (with_reducible refine (impl_isTime.calls ((rd_T47 l0 x7_1).f0) true _ A5.out).mono ?_); rintro e w' ⟨rfl, ⟨nd, rfl⟩⟩; (try first | exact ⟨rfl, _, World.drewN_drewN _ _ _⟩ | exact ⟨rfl, _, Eq.trans (World.drewN_drewN _ _ _) (congrArg (World.drewN _) (Nat.add_assoc _ _ _))⟩)) | (go_at_call 27; (with_reducible refine (impl_isKey.calls ((rd_T47 l0 x7_1).f1) true _ A7.out).mono ?_); rintro e w' ⟨rfl, ⟨nd, rfl⟩⟩; (try first | exact ⟨rfl, _, World.drewN_drewN _ _ _⟩ | exact ⟨rfl, _, Eq.trans (World.drewN_drewN _ _ _) (congrArg (World.drewN _) (Nat.add_assoc _ _ _))⟩); have p349 : 0 ≤ ((ji10) : Int) := of_decide_eq_true hE; have q349 : (ji10) < (l0.length : Int) := of_decide_eq_true hE; obtain ⟨ad349, e349, hx349_0, hx349_1, hx349_2⟩ := at_T47 HR0.out (ji10) p349 q349; obtain rfl : ad345 = ad349 := (by injection e349); replace hx349_0 := (HB.out.cell (World.block_lt_of_cell? w _ hx349_0)).trans hx349_0; replace hx349_1 := (HB.out.cell (World.block_lt_of_cell? w _ hx349_1)).trans hx349_1; replace hx349_2 := (HB.out.cell (World.block_lt_of_cell? w _ hx349_2)).trans hx349_2; replace p349 := eq_true p349; replace q349 := eq_true q349)))
            go_ret
            exact ⟨by first | rfl | (simp [errW_none, errW_some] <;> rfl) | (simp only [← hji10]; first | rfl | (simp [errW_none, errW_some] <;> rfl)) | (simp [*, errW_none, errW_some] <;> rfl), lV1 GE346⟩
           ·rw [if_neg c13] at H
            have c13b0 : decide (((rd_T47 l0 x7_1).f0) < ((rd_T47 l0 (ji10)).f0)) = false := decide_eq_false c13
            clear c13
            have H' := Aside0.mk H
            clear H
            have p345 : 0 ≤ (x7_1 : Int) := of_decide_eq_true hE
            have q345 : x7_1 < (l0.length : Int) := of_decide_eq_true hE
            obtain ⟨ad345, e345, hx345_0, hx345_1, hx345_2⟩ := at_T47 HR0.out x7_1 p345 q345
            cases e345
            replace hx345_0 := (HB.out.cell (World.block_lt_of_cell? w _ hx345_0)).trans hx345_0
            replace hx345_1 := (HB.out.cell (World.block_lt_of_cell? w _ hx345_1)).trans hx345_1
            replace hx345_2 := (HB.out.cell (World.block_lt_of_cell? w _ hx345_2)).trans hx345_2
            replace p345 := eq_true p345
            replace q345 := eq_true q345
            go_wp2_with (first | ((with_reducible refine gate_dst (N := 4) rfl ?_); refine box_event rfl (N := 4) rfl (cs := #[.int .i64 0, .int .i64 0, .bool false]) (t := 47) sE ?_; intro gb346 hg w18 hbox hb; have BK346 := Aside0.mk hbox; have GW346 := gS w hg (lU); have GE346 := gS w hg (lU); replace HB := bH (lU) hb; clear hb hbox hg; have hcz19_0 := cz BK346 0 (.int .i64 0); have hcz19_1 := cz BK346 1 (.int .i64 0); have hcz19_2 := cz BK346 2 (.bool false); have hfz19_0 := fz BK346 0; have hfz19_1 := fz BK346 1; have hfz19_2 := fz BK346 2) | ((with_reducible refine gate_store (t := 47) (p := 4) rfl ?_); (try (rw [drewN_self w18]; generalize hq_ : World.drewN w18 _ = w18; replace BK346 := Aside0.mk (blk_at hq_ BK346.out); replace HB := Aside0.mk (below_at hq_ HB.out); clear hq_)); refine store_event (t := 47) (p := 4) (v := ?vo_w20) (w1 := (((w18.setCell ⟨gb346, 0, none⟩ (.int .i64 ((rd_T47 l0 x7_1).f0))).setCell ⟨gb346, 1, none⟩ (.int .i64 ((rd_T47 l0 x7_1).f1))).setCell ⟨gb346, 2, none⟩ (.bool ((rd_T47 l0 x7_1).f2)))) ?hg ?ho ?hn ?hr ?_; (case ho => rfl); (case hg => rfl); (case hn => rfl); (case hr => first | (go_simp; done) | (go_simp; rfl) | (have hq0_ := (blk_cell BK346.out 0).trans (show _ = some _ from rfl); have hf0_ := blk_frozen BK346.out 0; have hq1_ := (blk_cell BK346.out 1).trans (show _ = some _ from rfl); have hf1_ := blk_frozen BK346.out 1; have hq2_ := (blk_cell BK346.out 2).trans (show _ = some _ from rfl); have hf2_ := blk_frozen BK346.out 2; first | (go_simp; done) | (go_simp; rfl))); intro w20 hw; replace BK346 : Aside0 (w20.heap[gb346]? = some (.cells #[.int .i64 ((rd_T47 l0 x7_1).f0), .int .i64 ((rd_T47 l0 x7_1).f1), .bool ((rd_T47 l0 x7_1).f2)] 47 (0, 0))) := ⟨(by rw [hw]; exact (by refine bU ?_; refine blk_put (cs := #[.int .i64 ((rd_T47 l0 x7_1).f0), .int .i64 ((rd_T47 l0 x7_1).f1), .bool false]) ?_ 2 _ rfl; refine bU ?_; refine blk_put (cs := #[.int .i64 ((rd_T47 l0 x7_1).f0), .int .i64 0, .bool false]) ?_ 1 _ rfl; refine bU ?_; refine blk_put (cs := #[.int .i64 0, .int .i64 0, .bool false]) ?_ 0 _ rfl; refine bU ?_; exact BK346.out))⟩; replace HB : Aside0 (Below w.heap.size w w20) := ⟨(by rw [hw]; exact (lV1 GE346))⟩; clear hw; have hcz21_0 := cz BK346 0 (.int .i64 ((rd_T47 l0 x7_1).f0)); have hcz21_1 := cz BK346 1 (.int .i64 ((rd_T47 l0 x7_1).f1)); have hcz21_2 := cz BK346 2 (.bool ((rd_T47 l0 x7_1).f2)); have hfz21_0 := fz BK346 0; have hfz21_1 := fz BK346 1; have hfz21_2 := fz BK346 2) | (go_at_call 26; (with_reducible refine (impl_isTime.calls ((rd_T47 l0 x7_1).f0) true _ A5.out).mono ?_); rintro e w' ⟨rfl, ⟨nd, rfl⟩⟩; (try first | exact ⟨rfl, _, World.drewN_drewN _ _ _⟩ | exact ⟨rfl, _, Eq.trans (World.drewN_drewN _ _ _) (congrArg (World.drewN _) (Nat.add_assoc _ _ _))⟩)) | (go_at_call 27; (with_reducible refine (impl_isKey.calls ((rd_T47 l0 x7_1).f1) true _ A7.out).mono ?_); rintro e w' ⟨rfl, ⟨nd, rfl⟩⟩; (try first | exact ⟨rfl, _, World.drewN_drewN _ _ _⟩ | exact ⟨rfl, _, Eq.trans (World.drewN_drewN _ _ _) (congrArg (World.drewN _) (Nat.add_assoc _ _ _))⟩); have p349 : 0 ≤ ((ji10) : Int) := of_decide_eq_true hE; have q349 : (ji10) < (l0.length : Int) := of_decide_eq_true hE; obtain ⟨ad349, e349, hx349_0, hx349_1, hx349_2⟩ := at_T47 HR0.out (ji10) p349 q349; obtain rfl : ad345 = ad349 := (by injection e349); replace hx349_0 := (HB.out.cell (World.block_lt_of_cell? w _ hx349_0)).trans hx349_0; replace hx349_1 := (HB.out.cell (World.block_lt_of_cell? w _ hx349_1)).trans hx349_1; replace hx349_2 := (HB.out.cell (World.block_lt_of_cell? w _ hx349_2)).trans hx349_2; replace p349 := eq_true p349; replace q349 := eq_true q349))
            repeat (go_quiet (first | ((with_reducible refine gate_dst (N := 4) rfl ?_); refine box_event rfl (N := 4) rfl (cs := #[.int .i64 0, .int .i64 0, .bool false]) (t := 47) sE ?_; intro gb346 hg w18 hbox hb; have BK346 := Aside0.mk hbox; have GW346 := gS w hg (lU); have GE346 := gS w hg (lU); replace HB := bH (lU) hb; clear hb hbox hg; have hcz19_0 := cz BK346 0 (.int .i64 0); have hcz19_1 := cz BK346 1 (.int .i64 0); have hcz19_2 := cz BK346 2 (.bool false); have hfz19_0 := fz BK346 0; have hfz19_1 := fz BK346 1; have hfz19_2 := fz BK346 2) | ((with_reducible refine gate_store (t := 47) (p := 4) rfl ?_); (try (rw [drewN_self w18]; generalize hq_ : World.drewN w18 _ = w18; replace BK346 := Aside0.mk (blk_at hq_ BK346.out); replace HB := Aside0.mk (below_at hq_ HB.out); clear hq_)); refine store_event (t := 47) (p := 4) (v := ?vo_w20) (w1 := (((w18.setCell ⟨gb346, 0, none⟩ (.int .i64 ((rd_T47 l0 x7_1).f0))).setCell ⟨gb346, 1, none⟩ (.int .i64 ((rd_T47 l0 x7_1).f1))).setCell ⟨gb346, 2, none⟩ (.bool ((rd_T47 l0 x7_1).f2)))) ?hg ?ho ?hn ?hr ?_; (case ho => rfl); (case hg => rfl); (case hn => rfl); (case hr => first | (go_simp; done) | (go_simp; rfl) | (have hq0_ := (blk_cell BK346.out 0).trans (show _ = some _ from rfl); have hf0_ := blk_frozen BK346.out 0; have hq1_ := (blk_cell BK346.out 1).trans (show _ = some _ from rfl); have hf1_ := blk_frozen BK346.out 1; have hq2_ := (blk_cell BK346.out 2).trans (show _ = some _ from rfl); have hf2_ := blk_frozen BK346.out 2; first | (go_simp; done) | (go_simp; rfl))); intro w20 hw; replace BK346 : Aside0 (w20.heap[gb346]? = some (.cells #[.int .i64 ((rd_T47 l0 x7_1).f0), .int .i64 ((rd_T47 l0 x7_1).f1), .bool ((rd_T47 l0 x7_1).f2)] 47 (0, 0))) := ⟨(by rw [hw]; exact (by refine bU ?_; refine blk_put (cs := #[.int .i64 ((rd_T47 l0 x7_1).f0), .int .i64 ((rd_T47 l0 x7_1).f1), .bool false]) ?_ 2 _ rfl; refine bU ?_; refine blk_put (cs := #[.int .i64 ((rd_T47 l0 x7_1).f0), .int .i64 0, .bool false]) ?_ 1 _ rfl; refine bU ?_; refine blk_put (cs := #[.int .i64 0, .int .i64 0, .bool false]) ?_ 0 _ rfl; refine bU ?_; exact BK346.out))⟩; replace HB : Aside0 (Below w.heap.size w w20) := ⟨(by rw [hw]; exact (lV1 GE346))⟩; clear hw; have hcz21_0 := cz BK346 0 (.int .i64 ((rd_T47 l0 x7_1).f0)); have hcz21_1 := cz BK346 1 (.int .i64 ((rd_T47 l0 x7_1).f1)); have hcz21_2 := cz BK346 2 (.bool ((rd_T47 l0 x7_1).f2)); have hfz21_0 := fz BK346 0; have hfz21_1 := fz BK346 1; have hfz21_2 := fz BK346 2) | (go_at_call 26; (with_reducible refine (impl_isTime.calls ((rd_T47 l0 x7_1).f0) true _ A5.out).mono ?_); rintro e w' ⟨rfl, ⟨nd, rfl⟩⟩; (try first | exact ⟨rfl, _, World.drewN_drewN _ _ _⟩ | exact ⟨rfl, _, Eq.trans (World.drewN_drewN _ _ _) (congrArg (World.drewN _) (Nat.add_assoc _ _ _))⟩)) | (go_at_call 27; (with_reducible refine (impl_isKey.calls ((rd_T47 l0 x7_1).f1) true _ A7.out).mono ?_); rintro e w' ⟨rfl, ⟨nd, rfl⟩⟩; (try first | exact ⟨rfl, _, World.drewN_drewN _ _ _⟩ | exact ⟨rfl, _, Eq.trans (World.drewN_drewN _ _ _) (congrArg (World.drewN _) (Nat.add_assoc _ _ _))⟩); have p349 : 0 ≤ ((ji10) : Int) := of_decide_eq_true hE; have q349 : (ji10) < (l0.length : Int) := of_decide_eq_true hE; obtain ⟨ad349, e349, hx349_0, hx349_1, hx349_2⟩ := at_T47 HR0.out (ji10) p349 q349; obtain rfl : ad345 = ad349 := (by injection e349); replace hx349_0 := (HB.out.cell (World.block_lt_of_cell? w _ hx349_0)).trans hx349_0; replace hx349_1 := (HB.out.cell (World.block_lt_of_cell? w _ hx349_1)).trans hx349_1; replace hx349_2 := (HB.out.cell (World.block_lt_of_cell? w _ hx349_2)).trans hx349_2; replace p349 := eq_true p349; replace q349 := eq_true q349)); try go_wp2_with (first | ((with_reducible refine gate_dst (N := 4) rfl ?_); refine box_event rfl (N := 4) rfl (cs := #[.int .i64 0, .int .i64 0, .bool false]) (t := 47) sE ?_; intro gb346 hg w18 hbox hb; have BK346 := Aside0.mk hbox; have GW346 := gS w hg (lU); have GE346 := gS w hg (lU); replace HB := bH (lU) hb; clear hb hbox hg; have hcz19_0 := cz BK346 0 (.int .i64 0); have hcz19_1 := cz BK346 1 (.int .i64 0); have hcz19_2 := cz BK346 2 (.bool false); have hfz19_0 := fz BK346 0; have hfz19_1 := fz BK346 1; have hfz19_2 := fz BK346 2) | ((with_reducible refine gate_store (t := 47) (p := 4) rfl ?_); (try (rw [drewN_self w18]; generalize hq_ : World.drewN w18 _ = w18; replace BK346 := Aside0.mk (blk_at hq_ BK346.out); replace HB := Aside0.mk (below_at hq_ HB.out); clear hq_)); refine store_event (t := 47) (p := 4) (v := ?vo_w20) (w1 := (((w18.setCell ⟨gb346, 0, none⟩ (.int .i64 ((rd_T47 l0 x7_1).f0))).setCell ⟨gb346, 1, none⟩ (.int .i64 ((rd_T47 l0 x7_1).f1))).setCell ⟨gb346, 2, none⟩ (.bool ((rd_T47 l0 x7_1).f2)))) ?hg ?ho ?hn ?hr ?_; (case ho => rfl); (case hg => rfl); (case hn => rfl); (case hr => first | (go_simp; done) | (go_simp; rfl) | (have hq0_ := (blk_cell BK346.out 0).trans (show _ = some _ from rfl); have hf0_ := blk_frozen BK346.out 0; have hq1_ := (blk_cell BK346.out 1).trans (show _ = some _ from rfl); have hf1_ := blk_frozen BK346.out 1; have hq2_ := (blk_cell BK346.out 2).trans (show _ = some _ from rfl); have hf2_ := blk_frozen BK346.out 2; first | (go_simp; done) | (go_simp; rfl))); intro w20 hw; replace BK346 : Aside0 (w20.heap[gb346]? = some (.cells #[.int .i64 ((rd_T47 l0 x7_1).f0), .int .i64 ((rd_T47 l0 x7_1).f1), .bool ((rd_T47 l0 x7_1).f2)] 47 (0, 0))) := ⟨(by rw [hw]; exact (by refine bU ?_; refine blk_put (cs := #[.int .i64 ((rd_T47 l0 x7_1).f0), .int .i64 ((rd_T47 l0 x7_1).f1), .bool false]) ?_ 2 _ rfl; refine bU ?_; refine blk_put (cs := #[.int .i64 ((rd_T47 l0 x7_1).f0), .int .i64 0, .bool false]) ?_ 1 _ rfl; refine bU ?_; refine blk_put (cs := #[.int .i64 0, .int .i64 0, .bool false]) ?_ 0 _ rfl; refine bU ?_; exact BK346.out))⟩; replace HB : Aside0 (Below w.heap.size w w20) := ⟨(by rw [hw]; exact (lV1 GE346))⟩; clear hw; have hcz21_0 := cz BK346 0 (.int .i64 ((rd_T47 l0 x7_1).f0)); have hcz21_1 := cz BK346 1 (.int .i64 ((rd_T47 l0 x7_1).f1)); have hcz21_2 := cz BK346 2 (.bool ((rd_T47 l0 x7_1).f2)); have hfz21_0 := fz BK346 0; have hfz21_1 := fz BK346 1; have hfz21_2 := fz BK346 2) | (go_at_call 26; (with_reducible refine (impl_isTime.calls ((rd_T47 l0 x7_1).f0) true _ A5.out).mono ?_); rintro e w' ⟨rfl, ⟨nd, rfl⟩⟩; (try first | exact ⟨rfl, _, World.drewN_drewN _ _ _⟩ | exact ⟨rfl, _, Eq.trans (World.drewN_drewN _ _ _) (congrArg (World.drewN _) (Nat.add_assoc _ _ _))⟩)) | (go_at_call 27; (with_reducible refine (impl_isKey.calls ((rd_T47 l0 x7_1).f1) true _ A7.out).mono ?_); rintro e w' ⟨rfl, ⟨nd, rfl⟩⟩; (try first | exact ⟨rfl, _, World.drewN_drewN _ _ _⟩ | exact ⟨rfl, _, Eq.trans (World.drewN_drewN _ _ _) (congrArg (World.drewN _) (Nat.add_assoc _ _ _))⟩); have p349 : 0 ≤ ((ji10) : Int) := of_decide_eq_true hE; have q349 : (ji10) < (l0.length : Int) := of_decide_eq_true hE; obtain ⟨ad349, e349, hx349_0, hx349_1, hx349_2⟩ := at_T47 HR0.out (ji10) p349 q349; obtain rfl : ad345 = ad349 := (by injection e349); replace hx349_0 := (HB.out.cell (World.block_lt_of_cell? w _ hx349_0)).trans hx349_0; replace hx349_1 := (HB.out.cell (World.block_lt_of_cell? w _ hx349_1)).trans hx349_1; replace hx349_2 := (HB.out.cell (World.block_lt_of_cell? w _ hx349_2)).trans hx349_2; replace p349 := eq_true p349; replace q349 := eq_true q349)))
            go_roundg k1
            case measure => have := HK1.out; omega
            case rel => exact ⟨(wrap64 (x7_1 + 1)), tE, H', ⟨by have := HK1.out; omega⟩, ⟨by repeat (first | (with_reducible first | exact HB.out | apply below_alloc | apply pw_below_drewN | apply below_drew1 | refine below_set ?_ GE346.out) | exact HB.out)⟩⟩
          ·rw [if_neg c12] at H
           exact absurd H (by simp)
         ·rw [if_neg c11] at H
          exact absurd H (by simp)
        ·rw [if_neg c9] at H
         have c9b0 : decide (0 < x7_1) = false := decide_eq_false c9
         clear c9
         have H' := Aside0.mk H
         clear H
         have p345 : 0 ≤ (x7_1 : Int) := of_decide_eq_true hE
         have q345 : x7_1 < (l0.length : Int) := of_decide_eq_true hE
         obtain ⟨ad345, e345, hx345_0, hx345_1, hx345_2⟩ := at_T47 HR0.out x7_1 p345 q345
         cases e345
         replace hx345_0 := (HB.out.cell (World.block_lt_of_cell? w _ hx345_0)).trans hx345_0
         replace hx345_1 := (HB.out.cell (World.block_lt_of_cell? w _ hx345_1)).trans hx345_1
         replace hx345_2 := (HB.out.cell (World.block_lt_of_cell? w _ hx345_2)).trans hx345_2
         replace p345 := eq_true p345
         replace q345 := eq_true q345
         go_wp2_with (first | ((with_reducible refine gate_dst (N := 4) rfl ?_); refine box_event rfl (N := 4) rfl (cs := #[.int .i64 0, .int .i64 0, .bool false]) (t := 47) sE ?_; intro gb346 hg w22 hbox hb; have BK346 := Aside0.mk hbox; have GW346 := gS w hg (lU); have GE346 := gS w hg (lU); replace HB := bH (lU) hb; clear hb hbox hg; have hcz23_0 := cz BK346 0 (.int .i64 0); have hcz23_1 := cz BK346 1 (.int .i64 0); have hcz23_2 := cz BK346 2 (.bool false); have hfz23_0 := fz BK346 0; have hfz23_1 := fz BK346 1; have hfz23_2 := fz BK346 2) | ((with_reducible refine gate_store (t := 47) (p := 4) rfl ?_); (try (rw [drewN_self w22]; generalize hq_ : World.drewN w22 _ = w22; replace BK346 := Aside0.mk (blk_at hq_ BK346.out); replace HB := Aside0.mk (below_at hq_ HB.out); clear hq_)); refine store_event (t := 47) (p := 4) (v := ?vo_w24) (w1 := (((w22.setCell ⟨gb346, 0, none⟩ (.int .i64 ((rd_T47 l0 x7_1).f0))).setCell ⟨gb346, 1, none⟩ (.int .i64 ((rd_T47 l0 x7_1).f1))).setCell ⟨gb346, 2, none⟩ (.bool ((rd_T47 l0 x7_1).f2)))) ?hg ?ho ?hn ?hr ?_; (case ho => rfl); (case hg => rfl); (case hn => rfl); (case hr => first | (go_simp; done) | (go_simp; rfl) | (have hq0_ := (blk_cell BK346.out 0).trans (show _ = some _ from rfl); have hf0_ := blk_frozen BK346.out 0; have hq1_ := (blk_cell BK346.out 1).trans (show _ = some _ from rfl); have hf1_ := blk_frozen BK346.out 1; have hq2_ := (blk_cell BK346.out 2).trans (show _ = some _ from rfl); have hf2_ := blk_frozen BK346.out 2; first | (go_simp; done) | (go_simp; rfl))); intro w24 hw; replace BK346 : Aside0 (w24.heap[gb346]? = some (.cells #[.int .i64 ((rd_T47 l0 x7_1).f0), .int .i64 ((rd_T47 l0 x7_1).f1), .bool ((rd_T47 l0 x7_1).f2)] 47 (0, 0))) := ⟨(by rw [hw]; exact (by refine bU ?_; refine blk_put (cs := #[.int .i64 ((rd_T47 l0 x7_1).f0), .int .i64 ((rd_T47 l0 x7_1).f1), .bool false]) ?_ 2 _ rfl; refine bU ?_; refine blk_put (cs := #[.int .i64 ((rd_T47 l0 x7_1).f0), .int .i64 0, .bool false]) ?_ 1 _ rfl; refine bU ?_; refine blk_put (cs := #[.int .i64 0, .int .i64 0, .bool false]) ?_ 0 _ rfl; refine bU ?_; exact BK346.out))⟩; replace HB : Aside0 (Below w.heap.size w w24) := ⟨(by rw [hw]; exact (lV1 GE346))⟩; clear hw; have hcz25_0 := cz BK346 0 (.int .i64 ((rd_T47 l0 x7_1).f0)); have hcz25_1 := cz BK346 1 (.int .i64 ((rd_T47 l0 x7_1).f1)); have hcz25_2 := cz BK346 2 (.bool ((rd_T47 l0 x7_1).f2)); have hfz25_0 := fz BK346 0; have hfz25_1 := fz BK346 1; have hfz25_2 := fz BK346 2) | (go_at_call 26; (with_reducible refine (impl_isTime.calls ((rd_T47 l0 x7_1).f0) true _ A5.out).mono ?_); rintro e w' ⟨rfl, ⟨nd, rfl⟩⟩; (try first | exact ⟨rfl, _, World.drewN_drewN _ _ _⟩ | exact ⟨rfl, _, Eq.trans (World.drewN_drewN _ _ _) (congrArg (World.drewN _) (Nat.add_assoc _ _ _))⟩)) | (go_at_call 27; (with_reducible refine (impl_isKey.calls ((rd_T47 l0 x7_1).f1) true _ A7.out).mono ?_); rintro e w' ⟨rfl, ⟨nd, rfl⟩⟩; (try first | exact ⟨rfl, _, World.drewN_drewN _ _ _⟩ | exact ⟨rfl, _, Eq.trans (World.drewN_drewN _ _ _) (congrArg (World.drewN _) (Nat.add_assoc _ _ _))⟩)))
         repeat (go_quiet (first | ((with_reducible refine gate_dst (N := 4) rfl ?_); refine box_event rfl (N := 4) rfl (cs := #[.int .i64 0, .int .i64 0, .bool false]) (t := 47) sE ?_; intro gb346 hg w22 hbox hb; have BK346 := Aside0.mk hbox; have GW346 := gS w hg (lU); have GE346 := gS w hg (lU); replace HB := bH (lU) hb; clear hb hbox hg; have hcz23_0 := cz BK346 0 (.int .i64 0); have hcz23_1 := cz BK346 1 (.int .i64 0); have hcz23_2 := cz BK346 2 (.bool false); have hfz23_0 := fz BK346 0; have hfz23_1 := fz BK346 1; have hfz23_2 := fz BK346 2) | ((with_reducible refine gate_store (t := 47) (p := 4) rfl ?_); (try (rw [drewN_self w22]; generalize hq_ : World.drewN w22 _ = w22; replace BK346 := Aside0.mk (blk_at hq_ BK346.out); replace HB := Aside0.mk (below_at hq_ HB.out); clear hq_)); refine store_event (t := 47) (p := 4) (v := ?vo_w24) (w1 := (((w22.setCell ⟨gb346, 0, none⟩ (.int .i64 ((rd_T47 l0 x7_1).f0))).setCell ⟨gb346, 1, none⟩ (.int .i64 ((rd_T47 l0 x7_1).f1))).setCell ⟨gb346, 2, none⟩ (.bool ((rd_T47 l0 x7_1).f2)))) ?hg ?ho ?hn ?hr ?_; (case ho => rfl); (case hg => rfl); (case hn => rfl); (case hr => first | (go_simp; done) | (go_simp; rfl) | (have hq0_ := (blk_cell BK346.out 0).trans (show _ = some _ from rfl); have hf0_ := blk_frozen BK346.out 0; have hq1_ := (blk_cell BK346.out 1).trans (show _ = some _ from rfl); have hf1_ := blk_frozen BK346.out 1; have hq2_ := (blk_cell BK346.out 2).trans (show _ = some _ from rfl); have hf2_ := blk_frozen BK346.out 2; first | (go_simp; done) | (go_simp; rfl))); intro w24 hw; replace BK346 : Aside0 (w24.heap[gb346]? = some (.cells #[.int .i64 ((rd_T47 l0 x7_1).f0), .int .i64 ((rd_T47 l0 x7_1).f1), .bool ((rd_T47 l0 x7_1).f2)] 47 (0, 0))) := ⟨(by rw [hw]; exact (by refine bU ?_; refine blk_put (cs := #[.int .i64 ((rd_T47 l0 x7_1).f0), .int .i64 ((rd_T47 l0 x7_1).f1), .bool false]) ?_ 2 _ rfl; refine bU ?_; refine blk_put (cs := #[.int .i64 ((rd_T47 l0 x7_1).f0), .int .i64 0, .bool false]) ?_ 1 _ rfl; refine bU ?_; refine blk_put (cs := #[.int .i64 0, .int .i64 0, .bool false]) ?_ 0 _ rfl; refine bU ?_; exact BK346.out))⟩; replace HB : Aside0 (Below w.heap.size w w24) := ⟨(by rw [hw]; exact (lV1 GE346))⟩; clear hw; have hcz25_0 := cz BK346 0 (.int .i64 ((rd_T47 l0 x7_1).f0)); have hcz25_1 := cz BK346 1 (.int .i64 ((rd_T47 l0 x7_1).f1)); have hcz25_2 := cz BK346 2 (.bool ((rd_T47 l0 x7_1).f2)); have hfz25_0 := fz BK346 0; have hfz25_1 := fz BK346 1; have hfz25_2 := fz BK346 2) | (go_at_call 26; (with_reducible refine (impl_isTime.calls ((rd_T47 l0 x7_1).f0) true _ A5.out).mono ?_); rintro e w' ⟨rfl, ⟨nd, rfl⟩⟩; (try first | exact ⟨rfl, _, World.drewN_drewN _ _ _⟩ | exact ⟨rfl, _, Eq.trans (World.drewN_drewN _ _ _) (congrArg (World.drewN _) (Nat.add_assoc _ _ _))⟩)) | (go_at_call 27; (with_reducible refine (impl_isKey.calls ((rd_T47 l0 x7_1).f1) true _ A7.out).mono ?_); rintro e w' ⟨rfl, ⟨nd, rfl⟩⟩; (try first | exact ⟨rfl, _, World.drewN_drewN _ _ _⟩ | exact ⟨rfl, _, Eq.trans (World.drewN_drewN _ _ _) (congrArg (World.drewN _) (Nat.add_assoc _ _ _))⟩))); try go_wp2_with (first | ((with_reducible refine gate_dst (N := 4) rfl ?_); refine box_event rfl (N := 4) rfl (cs := #[.int .i64 0, .int .i64 0, .bool false]) (t := 47) sE ?_; intro gb346 hg w22 hbox hb; have BK346 := Aside0.mk hbox; have GW346 := gS w hg (lU); have GE346 := gS w hg (lU); replace HB := bH (lU) hb; clear hb hbox hg; have hcz23_0 := cz BK346 0 (.int .i64 0); have hcz23_1 := cz BK346 1 (.int .i64 0); have hcz23_2 := cz BK346 2 (.bool false); have hfz23_0 := fz BK346 0; have hfz23_1 := fz BK346 1; have hfz23_2 := fz BK346 2) | ((with_reducible refine gate_store (t := 47) (p := 4) rfl ?_); (try (rw [drewN_self w22]; generalize hq_ : World.drewN w22 _ = w22; replace BK346 := Aside0.mk (blk_at hq_ BK346.out); replace HB := Aside0.mk (below_at hq_ HB.out); clear hq_)); refine store_event (t := 47) (p := 4) (v := ?vo_w24) (w1 := (((w22.setCell ⟨gb346, 0, none⟩ (.int .i64 ((rd_T47 l0 x7_1).f0))).setCell ⟨gb346, 1, none⟩ (.int .i64 ((rd_T47 l0 x7_1).f1))).setCell ⟨gb346, 2, none⟩ (.bool ((rd_T47 l0 x7_1).f2)))) ?hg ?ho ?hn ?hr ?_; (case ho => rfl); (case hg => rfl); (case hn => rfl); (case hr => first | (go_simp; done) | (go_simp; rfl) | (have hq0_ := (blk_cell BK346.out 0).trans (show _ = some _ from rfl); have hf0_ := blk_frozen BK346.out 0; have hq1_ := (blk_cell BK346.out 1).trans (show _ = some _ from rfl); have hf1_ := blk_frozen BK346.out 1; have hq2_ := (blk_cell BK346.out 2).trans (show _ = some _ from rfl); have hf2_ := blk_frozen BK346.out 2; first | (go_simp; done) | (go_simp; rfl))); intro w24 hw; replace BK346 : Aside0 (w24.heap[gb346]? = some (.cells #[.int .i64 ((rd_T47 l0 x7_1).f0), .int .i64 ((rd_T47 l0 x7_1).f1), .bool ((rd_T47 l0 x7_1).f2)] 47 (0, 0))) := ⟨(by rw [hw]; exact (by refine bU ?_; refine blk_put (cs := #[.int .i64 ((rd_T47 l0 x7_1).f0), .int .i64 ((rd_T47 l0 x7_1).f1), .bool false]) ?_ 2 _ rfl; refine bU ?_; refine blk_put (cs := #[.int .i64 ((rd_T47 l0 x7_1).f0), .int .i64 0, .bool false]) ?_ 1 _ rfl; refine bU ?_; refine blk_put (cs := #[.int .i64 0, .int .i64 0, .bool false]) ?_ 0 _ rfl; refine bU ?_; exact BK346.out))⟩; replace HB : Aside0 (Below w.heap.size w w24) := ⟨(by rw [hw]; exact (lV1 GE346))⟩; clear hw; have hcz25_0 := cz BK346 0 (.int .i64 ((rd_T47 l0 x7_1).f0)); have hcz25_1 := cz BK346 1 (.int .i64 ((rd_T47 l0 x7_1).f1)); have hcz25_2 := cz BK346 2 (.bool ((rd_T47 l0 x7_1).f2)); have hfz25_0 := fz BK346 0; have hfz25_1 := fz BK346 1; have hfz25_2 := fz BK346 2) | (go_at_call 26; (with_reducible refine (impl_isTime.calls ((rd_T47 l0 x7_1).f0) true _ A5.out).mono ?_); rintro e w' ⟨rfl, ⟨nd, rfl⟩⟩; (try first | exact ⟨rfl, _, World.drewN_drewN _ _ _⟩ | exact ⟨rfl, _, Eq.trans (World.drewN_drewN _ _ _) (congrArg (World.drewN _) (Nat.add_assoc _ _ _))⟩)) | (go_at_call 27; (with_reducible refine (impl_isKey.calls ((rd_T47 l0 x7_1).f1) true _ A7.out).mono ?_); rintro e w' ⟨rfl, ⟨nd, rfl⟩⟩; (try first | exact ⟨rfl, _, World.drewN_drewN _ _ _⟩ | exact ⟨rfl, _, Eq.trans (World.drewN_drewN _ _ _) (congrArg (World.drewN _) (Nat.add_assoc _ _ _))⟩))))
         go_roundg k1
         case measure => have := HK1.out; omega
         case rel => exact ⟨(wrap64 (x7_1 + 1)), tE, H', ⟨by have := HK1.out; omega⟩, ⟨by repeat (first | (with_reducible first | exact HB.out | apply below_alloc | apply pw_below_drewN | apply below_drew1 | refine below_set ?_ GE346.out) | exact HB.out)⟩⟩
       ·replace c8 := Bool.eq_false_iff.mpr c8
        subst c8
        have H1 : (some false) = some r := by rw [if_neg (show ¬ (false = true) by decide)] at H; exact H
        clear H
        have H := H1
        clear H1
        obtain rfl := Option.some.inj H
        have p345 : 0 ≤ (x7_1 : Int) := of_decide_eq_true hE
        have q345 : x7_1 < (l0.length : Int) := of_decide_eq_true hE
        obtain ⟨ad345, e345, hx345_0, hx345_1, hx345_2⟩ := at_T47 HR0.out x7_1 p345 q345
        cases e345
        replace hx345_0 := (HB.out.cell (World.block_lt_of_cell? w _ hx345_0)).trans hx345_0
        replace hx345_1 := (HB.out.cell (World.block_lt_of_cell? w _ hx345_1)).trans hx345_1
        replace hx345_2 := (HB.out.cell (World.block_lt_of_cell? w _ hx345_2)).trans hx345_2
        replace p345 := eq_true p345
        replace q345 := eq_true q345
        go_wp2_with (first | ((with_reducible refine gate_dst (N := 4) rfl ?_); refine box_event rfl (N := 4) rfl (cs := #[.int .i64 0, .int .i64 0, .bool false]) (t := 47) sE ?_; intro gb346 hg w26 hbox hb; have BK346 := Aside0.mk hbox; have GW346 := gS w hg (lU); have GE346 := gS w hg (lU); replace HB := bH (lU) hb; clear hb hbox hg; have hcz27_0 := cz BK346 0 (.int .i64 0); have hcz27_1 := cz BK346 1 (.int .i64 0); have hcz27_2 := cz BK346 2 (.bool false); have hfz27_0 := fz BK346 0; have hfz27_1 := fz BK346 1; have hfz27_2 := fz BK346 2) | ((with_reducible refine gate_store (t := 47) (p := 4) rfl ?_); (try (rw [drewN_self w26]; generalize hq_ : World.drewN w26 _ = w26; replace BK346 := Aside0.mk (blk_at hq_ BK346.out); replace HB := Aside0.mk (below_at hq_ HB.out); clear hq_)); refine store_event (t := 47) (p := 4) (v := ?vo_w28) (w1 := (((w26.setCell ⟨gb346, 0, none⟩ (.int .i64 ((rd_T47 l0 x7_1).f0))).setCell ⟨gb346, 1, none⟩ (.int .i64 ((rd_T47 l0 x7_1).f1))).setCell ⟨gb346, 2, none⟩ (.bool ((rd_T47 l0 x7_1).f2)))) ?hg ?ho ?hn ?hr ?_; (case ho => rfl); (case hg => rfl); (case hn => rfl); (case hr => first | (go_simp; done) | (go_simp; rfl) | (have hq0_ := (blk_cell BK346.out 0).trans (show _ = some _ from rfl); have hf0_ := blk_frozen BK346.out 0; have hq1_ := (blk_cell BK346.out 1).trans (show _ = some _ from rfl); have hf1_ := blk_frozen BK346.out 1; have hq2_ := (blk_cell BK346.out 2).trans (show _ = some _ from rfl); have hf2_ := blk_frozen BK346.out 2; first | (go_simp; done) | (go_simp; rfl))); intro w28 hw; replace BK346 : Aside0 (w28.heap[gb346]? = some (.cells #[.int .i64 ((rd_T47 l0 x7_1).f0), .int .i64 ((rd_T47 l0 x7_1).f1), .bool ((rd_T47 l0 x7_1).f2)] 47 (0, 0))) := ⟨(by rw [hw]; exact (by refine bU ?_; refine blk_put (cs := #[.int .i64 ((rd_T47 l0 x7_1).f0), .int .i64 ((rd_T47 l0 x7_1).f1), .bool false]) ?_ 2 _ rfl; refine bU ?_; refine blk_put (cs := #[.int .i64 ((rd_T47 l0 x7_1).f0), .int .i64 0, .bool false]) ?_ 1 _ rfl; refine bU ?_; refine blk_put (cs := #[.int .i64 0, .int .i64 0, .bool false]) ?_ 0 _ rfl; refine bU ?_; exact BK346.out))⟩; replace HB : Aside0 (Below w.heap.size w w28) := ⟨(by rw [hw]; exact (lV1 GE346))⟩; clear hw; have hcz29_0 := cz BK346 0 (.int .i64 ((rd_T47 l0 x7_1).f0)); have hcz29_1 := cz BK346 1 (.int .i64 ((rd_T47 l0 x7_1).f1)); have hcz29_2 := cz BK346 2 (.bool ((rd_T47 l0 x7_1).f2)); have hfz29_0 := fz BK346 0; have hfz29_1 := fz BK346 1; have hfz29_2 := fz BK346 2) | (go_at_call 26; (with_reducible refine (impl_isTime.calls ((rd_T47 l0 x7_1).f0) true _ A5.out).mono ?_); rintro e w' ⟨rfl, ⟨nd, rfl⟩⟩; (try first | exact ⟨rfl, _, World.drewN_drewN _ _ _⟩ | exact ⟨rfl, _, Eq.trans (World.drewN_drewN _ _ _) (congrArg (World.drewN _) (Nat.add_assoc _ _ _))⟩)) | (go_at_call 27; (with_reducible refine (impl_isKey.calls ((rd_T47 l0 x7_1).f1) false _ A7.out).mono ?_); rintro e w' ⟨rfl, ⟨nd, rfl⟩⟩; (try first | exact ⟨rfl, _, World.drewN_drewN _ _ _⟩ | exact ⟨rfl, _, Eq.trans (World.drewN_drewN _ _ _) (congrArg (World.drewN _) (Nat.add_assoc _ _ _))⟩)))
        repeat (go_quiet (first | ((with_reducible refine gate_dst (N := 4) rfl ?_); refine box_event rfl (N := 4) rfl (cs := #[.int .i64 0, .int .i64 0, .bool false]) (t := 47) sE ?_; intro gb346 hg w26 hbox hb; have BK346 := Aside0.mk hbox; have GW346 := gS w hg (lU); have GE346 := gS w hg (lU); replace HB := bH (lU) hb; clear hb hbox hg; have hcz27_0 := cz BK346 0 (.int .i64 0); have hcz27_1 := cz BK346 1 (.int .i64 0); have hcz27_2 := cz BK346 2 (.bool false); have hfz27_0 := fz BK346 0; have hfz27_1 := fz BK346 1; have hfz27_2 := fz BK346 2) | ((with_reducible refine gate_store (t := 47) (p := 4) rfl ?_); (try (rw [drewN_self w26]; generalize hq_ : World.drewN w26 _ = w26; replace BK346 := Aside0.mk (blk_at hq_ BK346.out); replace HB := Aside0.mk (below_at hq_ HB.out); clear hq_)); refine store_event (t := 47) (p := 4) (v := ?vo_w28) (w1 := (((w26.setCell ⟨gb346, 0, none⟩ (.int .i64 ((rd_T47 l0 x7_1).f0))).setCell ⟨gb346, 1, none⟩ (.int .i64 ((rd_T47 l0 x7_1).f1))).setCell ⟨gb346, 2, none⟩ (.bool ((rd_T47 l0 x7_1).f2)))) ?hg ?ho ?hn ?hr ?_; (case ho => rfl); (case hg => rfl); (case hn => rfl); (case hr => first | (go_simp; done) | (go_simp; rfl) | (have hq0_ := (blk_cell BK346.out 0).trans (show _ = some _ from rfl); have hf0_ := blk_frozen BK346.out 0; have hq1_ := (blk_cell BK346.out 1).trans (show _ = some _ from rfl); have hf1_ := blk_frozen BK346.out 1; have hq2_ := (blk_cell BK346.out 2).trans (show _ = some _ from rfl); have hf2_ := blk_frozen BK346.out 2; first | (go_simp; done) | (go_simp; rfl))); intro w28 hw; replace BK346 : Aside0 (w28.heap[gb346]? = some (.cells #[.int .i64 ((rd_T47 l0 x7_1).f0), .int .i64 ((rd_T47 l0 x7_1).f1), .bool ((rd_T47 l0 x7_1).f2)] 47 (0, 0))) := ⟨(by rw [hw]; exact (by refine bU ?_; refine blk_put (cs := #[.int .i64 ((rd_T47 l0 x7_1).f0), .int .i64 ((rd_T47 l0 x7_1).f1), .bool false]) ?_ 2 _ rfl; refine bU ?_; refine blk_put (cs := #[.int .i64 ((rd_T47 l0 x7_1).f0), .int .i64 0, .bool false]) ?_ 1 _ rfl; refine bU ?_; refine blk_put (cs := #[.int .i64 0, .int .i64 0, .bool false]) ?_ 0 _ rfl; refine bU ?_; exact BK346.out))⟩; replace HB : Aside0 (Below w.heap.size w w28) := ⟨(by rw [hw]; exact (lV1 GE346))⟩; clear hw; have hcz29_0 := cz BK346 0 (.int .i64 ((rd_T47 l0 x7_1).f0)); have hcz29_1 := cz BK346 1 (.int .i64 ((rd_T47 l0 x7_1).f1)); have hcz29_2 := cz BK346 2 (.bool ((rd_T47 l0 x7_1).f2)); have hfz29_0 := fz BK346 0; have hfz29_1 := fz BK346 1; have hfz29_2 := fz BK346 2) | (go_at_call 26; (with_reducible refine (impl_isTime.calls ((rd_T47 l0 x7_1).f0) true _ A5.out).mono ?_); rintro e w' ⟨rfl, ⟨nd, rfl⟩⟩; (try first | exact ⟨rfl, _, World.drewN_drewN _ _ _⟩ | exact ⟨rfl, _, Eq.trans (World.drewN_drewN _ _ _) (congrArg (World.drewN _) (Nat.add_assoc _ _ _))⟩)) | (go_at_call 27; (with_reducible refine (impl_isKey.calls ((rd_T47 l0 x7_1).f1) false _ A7.out).mono ?_); rintro e w' ⟨rfl, ⟨nd, rfl⟩⟩; (try first | exact ⟨rfl, _, World.drewN_drewN _ _ _⟩ | exact ⟨rfl, _, Eq.trans (World.drewN_drewN _ _ _) (congrArg (World.drewN _) (Nat.add_assoc _ _ _))⟩))); try go_wp2_with (first | ((with_reducible refine gate_dst (N := 4) rfl ?_); refine box_event rfl (N := 4) rfl (cs := #[.int .i64 0, .int .i64 0, .bool false]) (t := 47) sE ?_; intro gb346 hg w26 hbox hb; have BK346 := Aside0.mk hbox; have GW346 := gS w hg (lU); have GE346 := gS w hg (lU); replace HB := bH (lU) hb; clear hb hbox hg; have hcz27_0 := cz BK346 0 (.int .i64 0); have hcz27_1 := cz BK346 1 (.int .i64 0); have hcz27_2 := cz BK346 2 (.bool false); have hfz27_0 := fz BK346 0; have hfz27_1 := fz BK346 1; have hfz27_2 := fz BK346 2) | ((with_reducible refine gate_store (t := 47) (p := 4) rfl ?_); (try (rw [drewN_self w26]; generalize hq_ : World.drewN w26 _ = w26; replace BK346 := Aside0.mk (blk_at hq_ BK346.out); replace HB := Aside0.mk (below_at hq_ HB.out); clear hq_)); refine store_event (t := 47) (p := 4) (v := ?vo_w28) (w1 := (((w26.setCell ⟨gb346, 0, none⟩ (.int .i64 ((rd_T47 l0 x7_1).f0))).setCell ⟨gb346, 1, none⟩ (.int .i64 ((rd_T47 l0 x7_1).f1))).setCell ⟨gb346, 2, none⟩ (.bool ((rd_T47 l0 x7_1).f2)))) ?hg ?ho ?hn ?hr ?_; (case ho => rfl); (case hg => rfl); (case hn => rfl); (case hr => first | (go_simp; done) | (go_simp; rfl) | (have hq0_ := (blk_cell BK346.out 0).trans (show _ = some _ from rfl); have hf0_ := blk_frozen BK346.out 0; have hq1_ := (blk_cell BK346.out 1).trans (show _ = some _ from rfl); have hf1_ := blk_frozen BK346.out 1; have hq2_ := (blk_cell BK346.out 2).trans (show _ = some _ from rfl); have hf2_ := blk_frozen BK346.out 2; first | (go_simp; done) | (go_simp; rfl))); intro w28 hw; replace BK346 : Aside0 (w28.heap[gb346]? = some (.cells #[.int .i64 ((rd_T47 l0 x7_1).f0), .int .i64 ((rd_T47 l0 x7_1).f1), .bool ((rd_T47 l0 x7_1).f2)] 47 (0, 0))) := ⟨(by rw [hw]; exact (by refine bU ?_; refine blk_put (cs := #[.int .i64 ((rd_T47 l0 x7_1).f0), .int .i64 ((rd_T47 l0 x7_1).f1), .bool false]) ?_ 2 _ rfl; refine bU ?_; refine blk_put (cs := #[.int .i64 ((rd_T47 l0 x7_1).f0), .int .i64 0, .bool false]) ?_ 1 _ rfl; refine bU ?_; refine blk_put (cs := #[.int .i64 0, .int .i64 0, .bool false]) ?_ 0 _ rfl; refine bU ?_; exact BK346.out))⟩; replace HB : Aside0 (Below w.heap.size w w28) := ⟨(by rw [hw]; exact (lV1 GE346))⟩; clear hw; have hcz29_0 := cz BK346 0 (.int .i64 ((rd_T47 l0 x7_1).f0)); have hcz29_1 := cz BK346 1 (.int .i64 ((rd_T47 l0 x7_1).f1)); have hcz29_2 := cz BK346 2 (.bool ((rd_T47 l0 x7_1).f2)); have hfz29_0 := fz BK346 0; have hfz29_1 := fz BK346 1; have hfz29_2 := fz BK346 2) | (go_at_call 26; (with_reducible refine (impl_isTime.calls ((rd_T47 l0 x7_1).f0) true _ A5.out).mono ?_); rintro e w' ⟨rfl, ⟨nd, rfl⟩⟩; (try first | exact ⟨rfl, _, World.drewN_drewN _ _ _⟩ | exact ⟨rfl, _, Eq.trans (World.drewN_drewN _ _ _) (congrArg (World.drewN _) (Nat.add_assoc _ _ _))⟩)) | (go_at_call 27; (with_reducible refine (impl_isKey.calls ((rd_T47 l0 x7_1).f1) false _ A7.out).mono ?_); rintro e w' ⟨rfl, ⟨nd, rfl⟩⟩; (try first | exact ⟨rfl, _, World.drewN_drewN _ _ _⟩ | exact ⟨rfl, _, Eq.trans (World.drewN_drewN _ _ _) (congrArg (World.drewN _) (Nat.add_assoc _ _ _))⟩))))
        go_ret
        exact ⟨eE, lV1 GE346⟩
      ·replace c6 := Bool.eq_false_iff.mpr c6
       subst c6
       have H1 : (some false) = some r := by rw [if_neg (show ¬ (false = true) by decide)] at H; exact H
       clear H
       have H := H1
       clear H1
       obtain rfl := Option.some.inj H
       have p345 : 0 ≤ (x7_1 : Int) := of_decide_eq_true hE
       have q345 : x7_1 < (l0.length : Int) := of_decide_eq_true hE
       obtain ⟨ad345, e345, hx345_0, hx345_1, hx345_2⟩ := at_T47 HR0.out x7_1 p345 q345
       cases e345
       replace hx345_0 := (HB.out.cell (World.block_lt_of_cell? w _ hx345_0)).trans hx345_0
       replace hx345_1 := (HB.out.cell (World.block_lt_of_cell? w _ hx345_1)).trans hx345_1
       replace hx345_2 := (HB.out.cell (World.block_lt_of_cell? w _ hx345_2)).trans hx345_2
       replace p345 := eq_true p345
       replace q345 := eq_true q345
       go_wp2_with (first | ((with_reducible refine gate_dst (N := 4) rfl ?_); refine box_event rfl (N := 4) rfl (cs := #[.int .i64 0, .int .i64 0, .bool false]) (t := 47) sE ?_; intro gb346 hg w30 hbox hb; have BK346 := Aside0.mk hbox; have GW346 := gS w hg (lU); have GE346 := gS w hg (lU); replace HB := bH (lU) hb; clear hb hbox hg; have hcz31_0 := cz BK346 0 (.int .i64 0); have hcz31_1 := cz BK346 1 (.int .i64 0); have hcz31_2 := cz BK346 2 (.bool false); have hfz31_0 := fz BK346 0; have hfz31_1 := fz BK346 1; have hfz31_2 := fz BK346 2) | ((with_reducible refine gate_store (t := 47) (p := 4) rfl ?_); (try (rw [drewN_self w30]; generalize hq_ : World.drewN w30 _ = w30; replace BK346 := Aside0.mk (blk_at hq_ BK346.out); replace HB := Aside0.mk (below_at hq_ HB.out); clear hq_)); refine store_event (t := 47) (p := 4) (v := ?vo_w32) (w1 := (((w30.setCell ⟨gb346, 0, none⟩ (.int .i64 ((rd_T47 l0 x7_1).f0))).setCell ⟨gb346, 1, none⟩ (.int .i64 ((rd_T47 l0 x7_1).f1))).setCell ⟨gb346, 2, none⟩ (.bool ((rd_T47 l0 x7_1).f2)))) ?hg ?ho ?hn ?hr ?_; (case ho => rfl); (case hg => rfl); (case hn => rfl); (case hr => first | (go_simp; done) | (go_simp; rfl) | (have hq0_ := (blk_cell BK346.out 0).trans (show _ = some _ from rfl); have hf0_ := blk_frozen BK346.out 0; have hq1_ := (blk_cell BK346.out 1).trans (show _ = some _ from rfl); have hf1_ := blk_frozen BK346.out 1; have hq2_ := (blk_cell BK346.out 2).trans (show _ = some _ from rfl); have hf2_ := blk_frozen BK346.out 2; first | (go_simp; done) | (go_simp; rfl))); intro w32 hw; replace BK346 : Aside0 (w32.heap[gb346]? = some (.cells #[.int .i64 ((rd_T47 l0 x7_1).f0), .int .i64 ((rd_T47 l0 x7_1).f1), .bool ((rd_T47 l0 x7_1).f2)] 47 (0, 0))) := ⟨(by rw [hw]; exact (by refine bU ?_; refine blk_put (cs := #[.int .i64 ((rd_T47 l0 x7_1).f0), .int .i64 ((rd_T47 l0 x7_1).f1), .bool false]) ?_ 2 _ rfl; refine bU ?_; refine blk_put (cs := #[.int .i64 ((rd_T47 l0 x7_1).f0), .int .i64 0, .bool false]) ?_ 1 _ rfl; refine bU ?_; refine blk_put (cs := #[.int .i64 0, .int .i64 0, .bool false]) ?_ 0 _ rfl; refine bU ?_; exact BK346.out))⟩; replace HB : Aside0 (Below w.heap.size w w32) := ⟨(by rw [hw]; exact (lV1 GE346))⟩; clear hw; have hcz33_0 := cz BK346 0 (.int .i64 ((rd_T47 l0 x7_1).f0)); have hcz33_1 := cz BK346 1 (.int .i64 ((rd_T47 l0 x7_1).f1)); have hcz33_2 := cz BK346 2 (.bool ((rd_T47 l0 x7_1).f2)); have hfz33_0 := fz BK346 0; have hfz33_1 := fz BK346 1; have hfz33_2 := fz BK346 2) | (go_at_call 26; (with_reducible refine (impl_isTime.calls ((rd_T47 l0 x7_1).f0) false _ A5.out).mono ?_); rintro e w' ⟨rfl, ⟨nd, rfl⟩⟩; (try first | exact ⟨rfl, _, World.drewN_drewN _ _ _⟩ | exact ⟨rfl, _, Eq.trans (World.drewN_drewN _ _ _) (congrArg (World.drewN _) (Nat.add_assoc _ _ _))⟩)))
       repeat (go_quiet (first | ((with_reducible refine gate_dst (N := 4) rfl ?_); refine box_event rfl (N := 4) rfl (cs := #[.int .i64 0, .int .i64 0, .bool false]) (t := 47) sE ?_; intro gb346 hg w30 hbox hb; have BK346 := Aside0.mk hbox; have GW346 := gS w hg (lU); have GE346 := gS w hg (lU); replace HB := bH (lU) hb; clear hb hbox hg; have hcz31_0 := cz BK346 0 (.int .i64 0); have hcz31_1 := cz BK346 1 (.int .i64 0); have hcz31_2 := cz BK346 2 (.bool false); have hfz31_0 := fz BK346 0; have hfz31_1 := fz BK346 1; have hfz31_2 := fz BK346 2) | ((with_reducible refine gate_store (t := 47) (p := 4) rfl ?_); (try (rw [drewN_self w30]; generalize hq_ : World.drewN w30 _ = w30; replace BK346 := Aside0.mk (blk_at hq_ BK346.out); replace HB := Aside0.mk (below_at hq_ HB.out); clear hq_)); refine store_event (t := 47) (p := 4) (v := ?vo_w32) (w1 := (((w30.setCell ⟨gb346, 0, none⟩ (.int .i64 ((rd_T47 l0 x7_1).f0))).setCell ⟨gb346, 1, none⟩ (.int .i64 ((rd_T47 l0 x7_1).f1))).setCell ⟨gb346, 2, none⟩ (.bool ((rd_T47 l0 x7_1).f2)))) ?hg ?ho ?hn ?hr ?_; (case ho => rfl); (case hg => rfl); (case hn => rfl); (case hr => first | (go_simp; done) | (go_simp; rfl) | (have hq0_ := (blk_cell BK346.out 0).trans (show _ = some _ from rfl); have hf0_ := blk_frozen BK346.out 0; have hq1_ := (blk_cell BK346.out 1).trans (show _ = some _ from rfl); have hf1_ := blk_frozen BK346.out 1; have hq2_ := (blk_cell BK346.out 2).trans (show _ = some _ from rfl); have hf2_ := blk_frozen BK346.out 2; first | (go_simp; done) | (go_simp; rfl))); intro w32 hw; replace BK346 : Aside0 (w32.heap[gb346]? = some (.cells #[.int .i64 ((rd_T47 l0 x7_1).f0), .int .i64 ((rd_T47 l0 x7_1).f1), .bool ((rd_T47 l0 x7_1).f2)] 47 (0, 0))) := ⟨(by rw [hw]; exact (by refine bU ?_; refine blk_put (cs := #[.int .i64 ((rd_T47 l0 x7_1).f0), .int .i64 ((rd_T47 l0 x7_1).f1), .bool false]) ?_ 2 _ rfl; refine bU ?_; refine blk_put (cs := #[.int .i64 ((rd_T47 l0 x7_1).f0), .int .i64 0, .bool false]) ?_ 1 _ rfl; refine bU ?_; refine blk_put (cs := #[.int .i64 0, .int .i64 0, .bool false]) ?_ 0 _ rfl; refine bU ?_; exact BK346.out))⟩; replace HB : Aside0 (Below w.heap.size w w32) := ⟨(by rw [hw]; exact (lV1 GE346))⟩; clear hw; have hcz33_0 := cz BK346 0 (.int .i64 ((rd_T47 l0 x7_1).f0)); have hcz33_1 := cz BK346 1 (.int .i64 ((rd_T47 l0 x7_1).f1)); have hcz33_2 := cz BK346 2 (.bool ((rd_T47 l0 x7_1).f2)); have hfz33_0 := fz BK346 0; have hfz33_1 := fz BK346 1; have hfz33_2 := fz BK346 2) | (go_at_call 26; (with_reducible refine (impl_isTime.calls ((rd_T47 l0 x7_1).f0) false _ A5.out).mono ?_); rintro e w' ⟨rfl, ⟨nd, rfl⟩⟩; (try first | exact ⟨rfl, _, World.drewN_drewN _ _ _⟩ | exact ⟨rfl, _, Eq.trans (World.drewN_drewN _ _ _) (congrArg (World.drewN _) (Nat.add_assoc _ _ _))⟩))); try go_wp2_with (first | ((with_reducible refine gate_dst (N := 4) rfl ?_); refine box_event rfl (N := 4) rfl (cs := #[.int .i64 0, .int .i64 0, .bool false]) (t := 47) sE ?_; intro gb346 hg w30 hbox hb; have BK346 := Aside0.mk hbox; have GW346 := gS w hg (lU); have GE346 := gS w hg (lU); replace HB := bH (lU) hb; clear hb hbox hg; have hcz31_0 := cz BK346 0 (.int .i64 0); have hcz31_1 := cz BK346 1 (.int .i64 0); have hcz31_2 := cz BK346 2 (.bool false); have hfz31_0 := fz BK346 0; have hfz31_1 := fz BK346 1; have hfz31_2 := fz BK346 2) | ((with_reducible refine gate_store (t := 47) (p := 4) rfl ?_); (try (rw [drewN_self w30]; generalize hq_ : World.drewN w30 _ = w30; replace BK346 := Aside0.mk (blk_at hq_ BK346.out); replace HB := Aside0.mk (below_at hq_ HB.out); clear hq_)); refine store_event (t := 47) (p := 4) (v := ?vo_w32) (w1 := (((w30.setCell ⟨gb346, 0, none⟩ (.int .i64 ((rd_T47 l0 x7_1).f0))).setCell ⟨gb346, 1, none⟩ (.int .i64 ((rd_T47 l0 x7_1).f1))).setCell ⟨gb346, 2, none⟩ (.bool ((rd_T47 l0 x7_1).f2)))) ?hg ?ho ?hn ?hr ?_; (case ho => rfl); (case hg => rfl); (case hn => rfl); (case hr => first | (go_simp; done) | (go_simp; rfl) | (have hq0_ := (blk_cell BK346.out 0).trans (show _ = some _ from rfl); have hf0_ := blk_frozen BK346.out 0; have hq1_ := (blk_cell BK346.out 1).trans (show _ = some _ from rfl); have hf1_ := blk_frozen BK346.out 1; have hq2_ := (blk_cell BK346.out 2).trans (show _ = some _ from rfl); have hf2_ := blk_frozen BK346.out 2; first | (go_simp; done) | (go_simp; rfl))); intro w32 hw; replace BK346 : Aside0 (w32.heap[gb346]? = some (.cells #[.int .i64 ((rd_T47 l0 x7_1).f0), .int .i64 ((rd_T47 l0 x7_1).f1), .bool ((rd_T47 l0 x7_1).f2)] 47 (0, 0))) := ⟨(by rw [hw]; exact (by refine bU ?_; refine blk_put (cs := #[.int .i64 ((rd_T47 l0 x7_1).f0), .int .i64 ((rd_T47 l0 x7_1).f1), .bool false]) ?_ 2 _ rfl; refine bU ?_; refine blk_put (cs := #[.int .i64 ((rd_T47 l0 x7_1).f0), .int .i64 0, .bool false]) ?_ 1 _ rfl; refine bU ?_; refine blk_put (cs := #[.int .i64 0, .int .i64 0, .bool false]) ?_ 0 _ rfl; refine bU ?_; exact BK346.out))⟩; replace HB : Aside0 (Below w.heap.size w w32) := ⟨(by rw [hw]; exact (lV1 GE346))⟩; clear hw; have hcz33_0 := cz BK346 0 (.int .i64 ((rd_T47 l0 x7_1).f0)); have hcz33_1 := cz BK346 1 (.int .i64 ((rd_T47 l0 x7_1).f1)); have hcz33_2 := cz BK346 2 (.bool ((rd_T47 l0 x7_1).f2)); have hfz33_0 := fz BK346 0; have hfz33_1 := fz BK346 1; have hfz33_2 := fz BK346 2) | (go_at_call 26; (with_reducible refine (impl_isTime.calls ((rd_T47 l0 x7_1).f0) false _ A5.out).mono ?_); rintro e w' ⟨rfl, ⟨nd, rfl⟩⟩; (try first | exact ⟨rfl, _, World.drewN_drewN _ _ _⟩ | exact ⟨rfl, _, Eq.trans (World.drewN_drewN _ _ _) (congrArg (World.drewN _) (Nat.add_assoc _ _ _))⟩))))
       go_ret
       exact ⟨eE, lV1 GE346⟩
     ·rw [if_neg c4] at H
      exact absurd H (by simp)
    ·rw [if_neg c3] at H
     exact absurd H (by simp)
   ·rw [if_neg c2] at H
    have c2b0 : decide (x7_1 < (l0.length : Int)) = false := decide_eq_false c2
    clear c2
    obtain rfl := Option.some.inj H
    go_wp2
    repeat (go_quiet (fail); try go_wp2)
    go_ret
    exact ⟨eE, lU⟩
def slices_Index_int_int.l0 : Nat → List Int → Int → Int → Int → Option (Int)
 | 0, _, _, _, _ => none
 | k + 1, x0, x1, x7, x8 => if x8 < x7 then (if 0 ≤ x8 then (if x8 < (x0.length : Int) then (if x1 = (rd x0 x8) then (some x8) else (slices_Index_int_int.l0 k x0 x1 x7 (wrap64 (x8 + 1)))) else (none)) else (none)) else (some (-1))
def slices_Index_int_int.f (k : Nat) (l0 : List Int) (a1 : Int) : Option (Int) := slices_Index_int_int.l0 k l0 a1 (l0.length : Int) 0
theorem slices_Index_int_int.mono_l : ∀ k, (∀ y0 y1 y2 y3, LeO (slices_Index_int_int.l0 k y0 y1 y2 y3) (slices_Index_int_int.l0 (k + 1) y0 y1 y2 y3))
 | 0 => fun _ _ _ _ r h => by simp [slices_Index_int_int.l0] at h
 | k + 1 => by
  have ih0 := slices_Index_int_int.mono_l k
  ·intro y0 y1 y2 y3
   unfold slices_Index_int_int.l0
   repeat' first
   | (with_reducible exact ih0 _ _ _ _)
   | (with_reducible first | exact LeO.refl _ | exact LeO.none _ | refine LeO.ite ?_ ?_ | refine LeO.bind ?_ (fun _ => ?_))
   | exact ih0 _ _ _ _ | exact LeO.none _ | refine LeO.ite ?_ ?_ | refine LeO.bind ?_ (fun _ => ?_)
theorem slices_Index_int_int.mono : ∀ a0 a1 k, LeO (slices_Index_int_int.f k a0 a1) (slices_Index_int_int.f (k + 1) a0 a1) := by
 intro a0 a1 k
 have ih0 := slices_Index_int_int.mono_l k
 unfold slices_Index_int_int.f
 repeat' first
   | (with_reducible exact ih0 _ _ _ _)
   | (with_reducible first | exact LeO.refl _ | exact LeO.none _ | refine LeO.ite ?_ ?_ | refine LeO.bind ?_ (fun _ => ?_))
   | exact ih0 _ _ _ _ | exact LeO.none _ | refine LeO.ite ?_ ?_ | refine LeO.bind ?_ (fun _ => ?_)
set_option maxHeartbeats 8000000 in
set_option maxRecDepth 100000 in
theorem slices_Index_int_int.calls (k : Nat) (A0 : Option Addr) (c0 : Nat) (l0 : List Int) (a1 : Int) (r : Int) (w : World) (hr0 : Kd.C (Kd.int .i64) w A0 l0.length l0) (hc0 : l0.length ≤ c0) (h : slices_Index_int_int.f k l0 a1 = some r) :
  Calls Try.prog 49 #[.slice A0 l0.length c0, .int .i64 a1] w fun e w' => e = .returned (.int .i64 r) ∧ Drawn0 w w' := by
 have HR0 := Aside0.mk hr0
 have HC0 := Aside0.mk hc0
 clear hr0 hc0
 have H : (slices_Index_int_int.l0 k l0 a1 (l0.length : Int) 0) = some r := h
 clear h
 have H' := Aside0.mk H
 clear H
 go_enter Try.func49, Try.ntmps49
 go_wp2
 go_loopg [8] k (fun kq v8 w' => ∃ (x8_1 : Int), v8 = .int .i64 x8_1 ∧ Aside0 (slices_Index_int_int.l0 kq l0 a1 (l0.length : Int) x8_1 = some r) ∧ Aside0 (kq ≤ k) ∧ Drawn0 w w')
 case atStart => exact ⟨(0), tE, H', ⟨Nat.le_refl _⟩, by repeat (first | exact Drawn0.refl _ | apply Drawn0.step)⟩
 case round =>
  clear H'
  try clear p2
  obtain ⟨x8_1, rfl, HA, HK1, ⟨m1, rfl⟩⟩ := hrel
  cases gk with
  | zero => exact absurd HA.out (by simp [slices_Index_int_int.l0])
  | succ k1 =>
   have H := HA.out
   clear HA
   simp only [slices_Index_int_int.l0] at H
   by_cases c3 : x8_1 < (l0.length : Int)
   ·rw [if_pos c3] at H
    have c3b0 : decide (x8_1 < (l0.length : Int)) = true := decide_eq_true c3
    clear c3
    by_cases c4 : 0 ≤ x8_1
    ·rw [if_pos c4] at H
     have c4b0 : decide (0 ≤ x8_1) = true := decide_eq_true c4
     clear c4
     by_cases c5 : x8_1 < (l0.length : Int)
     ·rw [if_pos c5] at H
      have c5b0 : decide (x8_1 < (l0.length : Int)) = true := decide_eq_true c5
      clear c5
      by_cases c6 : a1 = (rd l0 x8_1)
      ·rw [if_pos c6] at H
       have c6b0 : (a1 == (rd l0 x8_1)) = true := beq_iff_eq.mpr c6
       have c6b1 : (a1 != (rd l0 x8_1)) = false := bne_eq_false_iff_eq.mpr c6
       clear c6
       obtain rfl := Option.some.inj H
       have p350 : 0 ≤ (x8_1 : Int) := of_decide_eq_true hE
       have q350 : x8_1 < (l0.length : Int) := of_decide_eq_true hE
       obtain ⟨ad350, e350, hx350_0⟩ := Kd.at_int HR0.out x8_1 p350 q350
       cases e350
       replace p350 := eq_true p350
       replace q350 := eq_true q350
       go_wp2
       go_ret
       exact ⟨by first | rfl | (simp; done) | (simp [*]; done) | exact not_isEmpty _ | exact (not_isEmpty _).symm | exact is_empty _ | exact (is_empty _).symm, by repeat (first | exact Drawn0.refl _ | apply Drawn0.step)⟩
      ·rw [if_neg c6] at H
       have c6b0 : (a1 == (rd l0 x8_1)) = false := beq_eq_false_iff_ne.mpr c6
       have c6b1 : (a1 != (rd l0 x8_1)) = true := bne_iff_ne.mpr c6
       have H' := Aside0.mk H
       clear H
       have p350 : 0 ≤ (x8_1 : Int) := of_decide_eq_true hE
       have q350 : x8_1 < (l0.length : Int) := of_decide_eq_true hE
       obtain ⟨ad350, e350, hx350_0⟩ := Kd.at_int HR0.out x8_1 p350 q350
       cases e350
       replace p350 := eq_true p350
       replace q350 := eq_true q350
       go_wp2
       go_roundg k1
       case measure => have := HK1.out; omega
       case rel => exact ⟨(wrap64 (x8_1 + 1)), tE, H', ⟨by have := HK1.out; omega⟩, by repeat (first | exact Drawn0.refl _ | apply Drawn0.step)⟩
     ·rw [if_neg c5] at H
      exact absurd H (by simp)
    ·rw [if_neg c4] at H
     exact absurd H (by simp)
   ·rw [if_neg c3] at H
    have c3b0 : decide (x8_1 < (l0.length : Int)) = false := decide_eq_false c3
    clear c3
    obtain rfl := Option.some.inj H
    go_wp2
    go_ret
    exact ⟨by first | rfl | (simp; done) | (simp [*]; done) | exact not_isEmpty _ | exact (not_isEmpty _).symm | exact is_empty _ | exact (is_empty _).symm, by repeat (first | exact Drawn0.refl _ | apply Drawn0.step)⟩
def slices_Contains_int_int.f (k : Nat) (l0 : List Int) (a1 : Int) : Option (Bool) := (slices_Index_int_int.f k l0 a1).bind fun t351 => (some (decide (t351 ≥ 0)))
theorem slices_Contains_int_int.mono : ∀ a0 a1 k, LeO (slices_Contains_int_int.f k a0 a1) (slices_Contains_int_int.f (k + 1) a0 a1) := by
 intro a0 a1 k
 unfold slices_Contains_int_int.f
 repeat' first
   | (with_reducible exact slices_Index_int_int.mono _ _ _)
   | (with_reducible first | exact LeO.refl _ | exact LeO.none _ | refine LeO.ite ?_ ?_ | refine LeO.bind ?_ (fun _ => ?_))
   | exact slices_Index_int_int.mono _ _ _ | exact LeO.none _ | refine LeO.ite ?_ ?_ | refine LeO.bind ?_ (fun _ => ?_)
set_option maxHeartbeats 8000000 in
set_option maxRecDepth 100000 in
theorem slices_Contains_int_int.calls (k : Nat) (A0 : Option Addr) (c0 : Nat) (l0 : List Int) (a1 : Int) (r : Bool) (w : World) (hr0 : Kd.C (Kd.int .i64) w A0 l0.length l0) (hc0 : l0.length ≤ c0) (h : slices_Contains_int_int.f k l0 a1 = some r) :
  Calls Try.prog 33 #[.slice A0 l0.length c0, .int .i64 a1] w fun e w' => e = .returned (.bool r) ∧ Drawn0 w w' := by
 have HR0 := Aside0.mk hr0
 have HC0 := Aside0.mk hc0
 clear hr0 hc0
 have H : ((slices_Index_int_int.f k l0 a1).bind fun t351 => (some (decide (t351 ≥ 0)))) = some r := h
 clear h
 replace H := Option.bind_eq_some_iff.mp H
 obtain ⟨t351, A30, H⟩ := H
 replace H : (some (decide (t351 ≥ 0))) = some r := H
 have A3 := Aside0.mk A30
 clear A30
 obtain rfl := Option.some.inj H
 go_enter Try.func33, Try.ntmps33
 go_wp2_with (first | ((with_reducible refine gate_callee (f := 49) rfl ?_); refine goesL_ (some 7) rfl rfl Try.func49 (by kernel_rfl) rfl #[.slice A0 l0.length c0, .int .i64 a1] rfl aE ?_; (with_reducible refine (slices_Index_int_int.calls k _ _ l0 a1 t351 _ ?side1 ?side2 A3.out).mono ?_); (case side1 => repeat (first | exact HR0.out | (with_reducible refine Kd.C_alloc ?_ _) | (with_reducible refine Kd.C_drewN ?_ _) | (with_reducible refine Kd.C_drew ?_))); (case side2 => exact HC0.out); rintro e w' ⟨rfl, ⟨nd, rfl⟩⟩; refine ⟨_, rfl, ?_⟩))
 go_ret
 exact ⟨by first | rfl | (simp; done) | (simp [*]; done) | exact not_isEmpty _ | exact (not_isEmpty _).symm | exact is_empty _ | exact (is_empty _).symm, by repeat (first | exact Drawn0.refl _ | apply Drawn0.step)⟩
def impl_held_holds_1_1.f (k : Nat) (a0 : Int) (a1_0_0 : ByteArray) (l1_0_1 : List Int) : Option (Bool) := (slices_Contains_int_int.f k l1_0_1 a0).bind fun t352 => (some (!t352))
theorem impl_held_holds_1_1.mono : ∀ a0 a1 a2 k, LeO (impl_held_holds_1_1.f k a0 a1 a2) (impl_held_holds_1_1.f (k + 1) a0 a1 a2) := by
 intro a0 a1 a2 k
 unfold impl_held_holds_1_1.f
 repeat' first
   | (with_reducible exact slices_Contains_int_int.mono _ _ _)
   | (with_reducible first | exact LeO.refl _ | exact LeO.none _ | refine LeO.ite ?_ ?_ | refine LeO.bind ?_ (fun _ => ?_))
   | exact slices_Contains_int_int.mono _ _ _ | exact LeO.none _ | refine LeO.ite ?_ ?_ | refine LeO.bind ?_ (fun _ => ?_)
set_option maxHeartbeats 8000000 in
set_option maxRecDepth 100000 in
theorem impl_held_holds_1_1.calls (k : Nat) (a0 : Int) (gb28 : Nat) (a1_0_0 : ByteArray) (A1_0_1 : Option Addr) (c1_0_1 : Nat) (l1_0_1 : List Int) (r : Bool) (w : World) (hr1_0_1 : Kd.C (Kd.int .i64) w A1_0_1 l1_0_1.length l1_0_1) (hc1_0_1 : l1_0_1.length ≤ c1_0_1) (hk28 : w.heap[gb28]? = some (.cells #[.string a1_0_0, .slice A1_0_1 l1_0_1.length c1_0_1] 50 (0, 0))) (h : impl_held_holds_1_1.f k a0 a1_0_0 l1_0_1 = some r) :
  Calls Try.prog 32 #[.int .i64 a0, .pointer (some ⟨gb28, 0, none⟩)] w fun e w' => e = .returned (.bool r) ∧ Below w.heap.size w w' := by
 have HR1_0_1 := Aside0.mk hr1_0_1
 have HC1_0_1 := Aside0.mk hc1_0_1
 clear hr1_0_1 hc1_0_1
 have BK28 := Aside0.mk hk28
 clear hk28
 have HB := Aside0.mk (Below.refl w.heap.size w)
 have H : ((slices_Contains_int_int.f k l1_0_1 a0).bind fun t352 => (some (!t352))) = some r := h
 clear h
 replace H := Option.bind_eq_some_iff.mp H
 obtain ⟨t352, A30, H⟩ := H
 replace H : (some (!t352)) = some r := H
 have A3 := Aside0.mk A30
 clear A30
 obtain rfl := Option.some.inj H
 have hcz4_0 := cz BK28 0 (.string a1_0_0)
 have hcz4_1 := cz BK28 1 (.slice A1_0_1 l1_0_1.length c1_0_1)
 have hfz4_0 := fz BK28 0
 have hfz4_1 := fz BK28 1
 go_enter Try.func32, Try.ntmps32
 go_wp2_with (first | ((with_reducible refine gate_callee (f := 33) rfl ?_); refine goesL_ (some 7) rfl rfl Try.func33 (by kernel_rfl) rfl #[.slice A1_0_1 l1_0_1.length c1_0_1, .int .i64 a0] rfl aE ?_; (with_reducible refine (slices_Contains_int_int.calls k _ _ l1_0_1 a0 t352 _ ?side1 ?side2 A3.out).mono ?_); (case side1 => repeat (first | exact HR1_0_1.out | (with_reducible refine Kd.C_alloc ?_ _) | (with_reducible refine Kd.C_drewN ?_ _) | (with_reducible refine Kd.C_drew ?_))); (case side2 => exact HC1_0_1.out); rintro e w' ⟨rfl, ⟨nd, rfl⟩⟩; refine ⟨_, rfl, ?_⟩))
 go_ret
 exact ⟨eE, lU⟩
def slices_IndexFunc_w32.l0 : Nat → List Int → Int → Int → ByteArray → List Int → Option (Int)
 | 0, _, _, _, _, _ => none
 | k + 1, x0, x7, x8, x29000, x29001 => if x8 < x7 then (if 0 ≤ x8 then (if x8 < (x0.length : Int) then ((impl_held_holds_1_1.f k (rd x0 x8) x29000 x29001).bind fun t354 => (if t354 = true then (some x8) else (slices_IndexFunc_w32.l0 k x0 x7 (wrap64 (x8 + 1)) x29000 x29001))) else (none)) else (none)) else (some (-1))
def slices_IndexFunc_w32.f (k : Nat) (l0 : List Int) (a1_0_0 : ByteArray) (l1_0_1 : List Int) : Option (Int) := slices_IndexFunc_w32.l0 k l0 (l0.length : Int) 0 a1_0_0 l1_0_1
theorem slices_IndexFunc_w32.mono_l : ∀ k, (∀ y0 y1 y2 y3 y4, LeO (slices_IndexFunc_w32.l0 k y0 y1 y2 y3 y4) (slices_IndexFunc_w32.l0 (k + 1) y0 y1 y2 y3 y4))
 | 0 => fun _ _ _ _ _ r h => by simp [slices_IndexFunc_w32.l0] at h
 | k + 1 => by
  have ih0 := slices_IndexFunc_w32.mono_l k
  ·intro y0 y1 y2 y3 y4
   unfold slices_IndexFunc_w32.l0
   repeat' first
   | (with_reducible exact ih0 _ _ _ _ _)
   | (with_reducible exact impl_held_holds_1_1.mono _ _ _ _)
   | (with_reducible first | exact LeO.refl _ | exact LeO.none _ | refine LeO.ite ?_ ?_ | refine LeO.bind ?_ (fun _ => ?_))
   | exact ih0 _ _ _ _ _
   | exact impl_held_holds_1_1.mono _ _ _ _ | exact LeO.none _ | refine LeO.ite ?_ ?_ | refine LeO.bind ?_ (fun _ => ?_)
theorem slices_IndexFunc_w32.mono : ∀ a0 a1 a2 k, LeO (slices_IndexFunc_w32.f k a0 a1 a2) (slices_IndexFunc_w32.f (k + 1) a0 a1 a2) := by
 intro a0 a1 a2 k
 have ih0 := slices_IndexFunc_w32.mono_l k
 unfold slices_IndexFunc_w32.f
 repeat' first
   | (with_reducible exact ih0 _ _ _ _ _)
   | (with_reducible exact impl_held_holds_1_1.mono _ _ _ _)
   | (with_reducible first | exact LeO.refl _ | exact LeO.none _ | refine LeO.ite ?_ ?_ | refine LeO.bind ?_ (fun _ => ?_))
   | exact ih0 _ _ _ _ _
   | exact impl_held_holds_1_1.mono _ _ _ _ | exact LeO.none _ | refine LeO.ite ?_ ?_ | refine LeO.bind ?_ (fun _ => ?_)
set_option maxHeartbeats 8000000 in
set_option maxRecDepth 100000 in
theorem slices_IndexFunc_w32.calls (k : Nat) (A0 : Option Addr) (c0 : Nat) (l0 : List Int) (gb28 : Nat) (a1_0_0 : ByteArray) (A1_0_1 : Option Addr) (c1_0_1 : Nat) (l1_0_1 : List Int) (r : Int) (w : World) (hr0 : Kd.C (Kd.int .i64) w A0 l0.length l0) (hc0 : l0.length ≤ c0) (hr1_0_1 : Kd.C (Kd.int .i64) w A1_0_1 l1_0_1.length l1_0_1) (hc1_0_1 : l1_0_1.length ≤ c1_0_1) (hk28 : w.heap[gb28]? = some (.cells #[.string a1_0_0, .slice A1_0_1 l1_0_1.length c1_0_1] 50 (0, 0))) (h : slices_IndexFunc_w32.f k l0 a1_0_0 l1_0_1 = some r) :
  Calls Try.prog 48 #[.slice A0 l0.length c0, .func (.func 32) #[] #[.pointer (some ⟨gb28, 0, none⟩)]] w fun e w' => e = .returned (.int .i64 r) ∧ Below w.heap.size w w' := by
 have HR0 := Aside0.mk hr0
 have HC0 := Aside0.mk hc0
 clear hr0 hc0
 have HR1_0_1 := Aside0.mk hr1_0_1
 have HC1_0_1 := Aside0.mk hc1_0_1
 clear hr1_0_1 hc1_0_1
 have BK28 := Aside0.mk hk28
 clear hk28
 have HB := Aside0.mk (Below.refl w.heap.size w)
 have H : (slices_IndexFunc_w32.l0 k l0 (l0.length : Int) 0 a1_0_0 l1_0_1) = some r := h
 clear h
 have H' := Aside0.mk H
 clear H
 go_enter Try.func48, Try.ntmps48
 go_wp2
 go_loopg [8] k (fun kq v8 w' => ∃ (x8_1 : Int), v8 = .int .i64 x8_1 ∧ Aside0 (slices_IndexFunc_w32.l0 kq l0 (l0.length : Int) x8_1 a1_0_0 l1_0_1 = some r) ∧ Aside0 (kq ≤ k) ∧ Aside0 (w'.heap[gb28]? = some (.cells #[.string a1_0_0, (.slice A1_0_1 l1_0_1.length c1_0_1)] 50 (0, 0))) ∧ Aside0 (Below w.heap.size w w'))
 case atStart => exact ⟨(0), tE, H', ⟨Nat.le_refl _⟩, ⟨by refine bU ?_; exact BK28.out⟩, ⟨by repeat (first | (with_reducible first | exact HB.out | apply below_alloc | apply pw_below_drewN | apply below_drew1) | exact HB.out)⟩⟩
 case round =>
  clear H'
  try clear c1
  try clear p2
  obtain ⟨x8_1, rfl, HA, HK1, BK28, HB⟩ := hrel
  cases gk with
  | zero => exact absurd HA.out (by simp [slices_IndexFunc_w32.l0])
  | succ k1 =>
   have H := HA.out
   clear HA
   simp only [slices_IndexFunc_w32.l0] at H
   by_cases c3 : x8_1 < (l0.length : Int)
   ·rw [if_pos c3] at H
    have c3b0 : decide (x8_1 < (l0.length : Int)) = true := decide_eq_true c3
    clear c3
    by_cases c4 : 0 ≤ x8_1
    ·rw [if_pos c4] at H
     have c4b0 : decide (0 ≤ x8_1) = true := decide_eq_true c4
     clear c4
     by_cases c5 : x8_1 < (l0.length : Int)
     ·rw [if_pos c5] at H
      have c5b0 : decide (x8_1 < (l0.length : Int)) = true := decide_eq_true c5
      clear c5
      replace H := Option.bind_eq_some_iff.mp H
      obtain ⟨t354, A60, H⟩ := H
      replace H : (if t354 = true then (some x8_1) else (slices_IndexFunc_w32.l0 k1 l0 (l0.length : Int) (wrap64 (x8_1 + 1)) a1_0_0 l1_0_1)) = some r := H
      have A6 := Aside0.mk A60
      clear A60
      by_cases c7 : t354 = true
      ·subst c7
       have H1 : (some x8_1) = some r := by rw [if_pos rfl] at H; exact H
       clear H
       have H := H1
       clear H1
       obtain rfl := Option.some.inj H
       have p353 : 0 ≤ (x8_1 : Int) := of_decide_eq_true hE
       have q353 : x8_1 < (l0.length : Int) := of_decide_eq_true hE
       obtain ⟨ad353, e353, hx353_0⟩ := Kd.at_int HR0.out x8_1 p353 q353
       cases e353
       replace hx353_0 := (HB.out.cell (World.block_lt_of_cell? w _ hx353_0)).trans hx353_0
       replace p353 := eq_true p353
       replace q353 := eq_true q353
       go_wp2_with (first | ((with_reducible refine gateD_ rfl ?_); refine goesC_ (some 16) rfl rfl Try.func32 (by kernel_rfl) rfl rfl rfl #[.int .i64 (rd l0 x8_1), .pointer (some ⟨gb28, 0, none⟩)] aE ?_; (with_reducible refine (impl_held_holds_1_1.calls k1 (rd l0 x8_1) gb28 a1_0_0 A1_0_1 c1_0_1 l1_0_1 true _ ?side1 ?side2 ?side3 A6.out).mono ?_); (case side1 => exact cU (Kd.C_below HR1_0_1.out HB.out)); (case side2 => exact HC1_0_1.out); (case side3 => refine bU ?_; exact BK28.out); rintro e w8 ⟨rfl, hb⟩; refine ⟨_, rfl, ?_⟩; replace BK28 := bB (bV BK28) hb; replace HB := bH (lU) hb; (try clear hb)))
       go_ret
       exact ⟨eE, lU⟩
      ·replace c7 := Bool.eq_false_iff.mpr c7
       subst c7
       have H1 : (slices_IndexFunc_w32.l0 k1 l0 (l0.length : Int) (wrap64 (x8_1 + 1)) a1_0_0 l1_0_1) = some r := by rw [if_neg (show ¬ (false = true) by decide)] at H; exact H
       clear H
       have H := H1
       clear H1
       have H' := Aside0.mk H
       clear H
       have p353 : 0 ≤ (x8_1 : Int) := of_decide_eq_true hE
       have q353 : x8_1 < (l0.length : Int) := of_decide_eq_true hE
       obtain ⟨ad353, e353, hx353_0⟩ := Kd.at_int HR0.out x8_1 p353 q353
       cases e353
       replace hx353_0 := (HB.out.cell (World.block_lt_of_cell? w _ hx353_0)).trans hx353_0
       replace p353 := eq_true p353
       replace q353 := eq_true q353
       go_wp2_with (first | ((with_reducible refine gateD_ rfl ?_); refine goesC_ (some 16) rfl rfl Try.func32 (by kernel_rfl) rfl rfl rfl #[.int .i64 (rd l0 x8_1), .pointer (some ⟨gb28, 0, none⟩)] aE ?_; (with_reducible refine (impl_held_holds_1_1.calls k1 (rd l0 x8_1) gb28 a1_0_0 A1_0_1 c1_0_1 l1_0_1 false _ ?side1 ?side2 ?side3 A6.out).mono ?_); (case side1 => exact cU (Kd.C_below HR1_0_1.out HB.out)); (case side2 => exact HC1_0_1.out); (case side3 => refine bU ?_; exact BK28.out); rintro e w9 ⟨rfl, hb⟩; refine ⟨_, rfl, ?_⟩; replace BK28 := bB (bV BK28) hb; replace HB := bH (lU) hb; (try clear hb)))
       go_roundg k1
       case measure => have := HK1.out; omega
       case rel => exact ⟨(wrap64 (x8_1 + 1)), tE, H', ⟨by have := HK1.out; omega⟩, ⟨by refine bU ?_; exact BK28.out⟩, ⟨by repeat (first | (with_reducible first | exact HB.out | apply below_alloc | apply pw_below_drewN | apply below_drew1) | exact HB.out)⟩⟩
     ·rw [if_neg c5] at H
      exact absurd H (by simp)
    ·rw [if_neg c4] at H
     exact absurd H (by simp)
   ·rw [if_neg c3] at H
    have c3b0 : decide (x8_1 < (l0.length : Int)) = false := decide_eq_false c3
    clear c3
    obtain rfl := Option.some.inj H
    go_wp2
    go_ret
    exact ⟨eE, lU⟩
def slices_ContainsFunc_w32.f (k : Nat) (l0 : List Int) (a1_0_0 : ByteArray) (l1_0_1 : List Int) : Option (Bool) := (slices_IndexFunc_w32.f k l0 a1_0_0 l1_0_1).bind fun t355 => (some (decide (t355 ≥ 0)))
theorem slices_ContainsFunc_w32.mono : ∀ a0 a1 a2 k, LeO (slices_ContainsFunc_w32.f k a0 a1 a2) (slices_ContainsFunc_w32.f (k + 1) a0 a1 a2) := by
 intro a0 a1 a2 k
 unfold slices_ContainsFunc_w32.f
 repeat' first
   | (with_reducible exact slices_IndexFunc_w32.mono _ _ _ _)
   | (with_reducible first | exact LeO.refl _ | exact LeO.none _ | refine LeO.ite ?_ ?_ | refine LeO.bind ?_ (fun _ => ?_))
   | exact slices_IndexFunc_w32.mono _ _ _ _ | exact LeO.none _ | refine LeO.ite ?_ ?_ | refine LeO.bind ?_ (fun _ => ?_)
set_option maxHeartbeats 8000000 in
set_option maxRecDepth 100000 in
theorem slices_ContainsFunc_w32.calls (k : Nat) (A0 : Option Addr) (c0 : Nat) (l0 : List Int) (gb28 : Nat) (a1_0_0 : ByteArray) (A1_0_1 : Option Addr) (c1_0_1 : Nat) (l1_0_1 : List Int) (r : Bool) (w : World) (hr0 : Kd.C (Kd.int .i64) w A0 l0.length l0) (hc0 : l0.length ≤ c0) (hr1_0_1 : Kd.C (Kd.int .i64) w A1_0_1 l1_0_1.length l1_0_1) (hc1_0_1 : l1_0_1.length ≤ c1_0_1) (hk28 : w.heap[gb28]? = some (.cells #[.string a1_0_0, .slice A1_0_1 l1_0_1.length c1_0_1] 50 (0, 0))) (h : slices_ContainsFunc_w32.f k l0 a1_0_0 l1_0_1 = some r) :
  Calls Try.prog 31 #[.slice A0 l0.length c0, .func (.func 32) #[] #[.pointer (some ⟨gb28, 0, none⟩)]] w fun e w' => e = .returned (.bool r) ∧ Below w.heap.size w w' := by
 have HR0 := Aside0.mk hr0
 have HC0 := Aside0.mk hc0
 clear hr0 hc0
 have HR1_0_1 := Aside0.mk hr1_0_1
 have HC1_0_1 := Aside0.mk hc1_0_1
 clear hr1_0_1 hc1_0_1
 have BK28 := Aside0.mk hk28
 clear hk28
 have HB := Aside0.mk (Below.refl w.heap.size w)
 have H : ((slices_IndexFunc_w32.f k l0 a1_0_0 l1_0_1).bind fun t355 => (some (decide (t355 ≥ 0)))) = some r := h
 clear h
 replace H := Option.bind_eq_some_iff.mp H
 obtain ⟨t355, A30, H⟩ := H
 replace H : (some (decide (t355 ≥ 0))) = some r := H
 have A3 := Aside0.mk A30
 clear A30
 obtain rfl := Option.some.inj H
 go_enter Try.func31, Try.ntmps31
 go_wp2_with (first | ((with_reducible refine gate_callee (f := 48) rfl ?_); refine goesL_ (some 7) rfl rfl Try.func48 (by kernel_rfl) rfl #[.slice A0 l0.length c0, .func (.func 32) #[] #[.pointer (some ⟨gb28, 0, none⟩)]] rfl aE ?_; (with_reducible refine (slices_IndexFunc_w32.calls k _ _ l0 gb28 a1_0_0 A1_0_1 c1_0_1 l1_0_1 t355 _ ?side1 ?side2 ?side3 ?side4 ?side5 A3.out).mono ?_); (case side1 => repeat (first | exact HR0.out | (with_reducible refine Kd.C_alloc ?_ _) | (with_reducible refine Kd.C_drewN ?_ _) | (with_reducible refine Kd.C_drew ?_))); (case side2 => exact HC0.out); (case side3 => repeat (first | exact HR1_0_1.out | (with_reducible refine Kd.C_alloc ?_ _) | (with_reducible refine Kd.C_drewN ?_ _) | (with_reducible refine Kd.C_drew ?_))); (case side4 => exact HC1_0_1.out); (case side5 => refine bU ?_; exact BK28.out); rintro e w4 ⟨rfl, hb⟩; refine ⟨_, rfl, ?_⟩; replace BK28 := bB (bV BK28) hb; replace HB := bH (lU) hb; (try clear hb)))
 go_ret
 exact ⟨eE, lU⟩
end Go.Proofs.Ytndgkdnbacoenab.PFnMeant
namespace Go.Proofs.Ytndgkdnbacoenab.PFnMeant
open Go.RowKit Go.Proofs.YtndgkdnbacoenabW.PrintWords Go.Proofs.YtndgkdnbacoenabW.PrintLast Go.Proofs.YtndgkdnbacoenabW.PrintMore
attribute [local go_sem] max2_int min2_int max_two min_two max_three min_three max_four min_four
set_option linter.unusedVariables false
set_option linter.unusedSimpArgs false
def idxI {α : Type} (p : α → Bool) : List α → Nat → Int
 | [], _ => -1
 | x :: r, i => if p x = true then ((i : Nat) : Int) else idxI p r (i + 1)
theorem idxI_any {α : Type} (p : α → Bool) : ∀ (l : List α) (i : Nat), decide (idxI p l i ≥ 0) = l.any p
 | [], i => by simp [idxI]
 | x :: r, i => by
  unfold idxI
  rw [List.any_cons]
  cases hp : p x with
  | true => simp
  | false => rw [if_neg (by decide), idxI_any p r (i + 1)]; rfl
set_option maxHeartbeats 8000000 in
set_option maxRecDepth 100000 in
theorem index_int (F : FuncId) (fn : Func) (caps : Array Value) (p : Int → Bool) (r : Int) (A : Option Addr) (c : Nat) (l : List Int) (w : World) (hf : Try.prog.funcs[F]? = some fn) (hname : (fn.name == "runtime.NumGoroutine") = false) (hb : fn.body.isSome = true)
  (hr0 : Kd.C (Kd.int .i64) w A l.length l) (hc0 : l.length ≤ c) (hr : idxI p l 0 = r) (hF : ∀ x ∈ l, ∀ W, Below w.heap.size w W → Calls Try.prog F (#[.int .i64 x] ++ caps) W fun e w' => e = .returned (.bool (p x)) ∧ Below W.heap.size W w') :
  Calls Try.prog 48 #[.slice A l.length c, .func (.func F) #[] caps] w fun e w' => e = .returned (.int .i64 r) ∧ Below w.heap.size w w' := by
 have HR0 := Aside0.mk hr0
 have HRr := Aside0.mk hr
 have HF := Aside0.mk hF
 have HN := Aside0.mk hname
 have HBo := Aside0.mk hb
 have HFu := Aside0.mk hf
 have HC0 := Aside0.mk hc0
 have hmx := hr0.2.1
 clear hr hr0 hF hname hb hf hc0
 go_enter Try.func48, Try.ntmps48
 go_wp2
 go_loopg [8] l.length (fun gk v8 wx => ∃ i : Nat, i + gk = l.length ∧ v8 = .int .i64 (i : Nat) ∧ Aside0 (idxI p (l.drop i) i = r) ∧ Aside0 (Below w.heap.size w wx))
 case atStart => exact ⟨0, by omega, rfl, HRr, ⟨Below.refl _ _⟩⟩
 case round =>
  obtain ⟨i, hig, rfl, HI, HB⟩ := hrel
  cases gk with
  | zero =>
   obtain rfl : i = l.length := by omega
   have hn : ¬ ((l.length : Int) < (l.length : Int)) := by omega
   have hI := HI.out
   rw [List.drop_length] at hI
   have hI2 : -1 = r := hI
   subst hI2
   clear hI HI HRr
   go_wp2
   go_ret
   exact ⟨rfl, HB.out⟩
  | succ gk =>
   have hil : i < l.length := by omega
   have hlt : (i : Int) < (l.length : Int) := by omega
   have h0 : (0 : Int) ≤ (i : Int) := by omega
   obtain ⟨x, hx⟩ : ∃ x, x = l[i] := ⟨_, rfl⟩
   have hmem : x ∈ l := by rw [hx]; exact List.getElem_mem hil
   have hI := HI.out
   rw [List.drop_eq_getElem_cons hil, ← hx] at hI
   unfold idxI at hI
   have hrd : rd l (i : Int) = x := by rw [hx]; simp [rd, List.getD_eq_getElem?_getD, hil]
   obtain ⟨a, rfl, hxi⟩ := Kd.at_int (Kd.C_below HR0.out HB.out) (i : Int) h0 hlt
   rw [hrd, Int.toNat_natCast] at hxi
   have HM := Aside0.mk hmem
   have HI2 := Aside0.mk hI
   clear hx hmem hI hrd HI
   obtain ⟨b, hpb⟩ : ∃ b, b = p x := ⟨_, rfl⟩
   have HPB := Aside0.mk hpb
   cases b with
   | true =>
    have hI := HI2.out
    rw [← hpb, if_pos rfl] at hI
    subst hI
    clear hpb HI2 HRr
    go_wp2_with (first | ((with_reducible refine gateD_ rfl ?_); refine goesC_ (some 16) rfl rfl HFu.out HN.out HBo.out rfl rfl (#[.int .i64 x] ++ caps) (by simp only [List.map_toArray, List.map_cons, List.map_nil]; rfl) ?_; refine ((HF.out x HM.out _ HB.out).mono ?_); rintro e w1 ⟨rfl, hb⟩; refine ⟨_, rfl, ?_⟩; rw [← HPB.out]; have HB2 := Aside0.mk (below_step HB.out hb); clear hb))
    go_ret
    exact ⟨rfl, HB2.out⟩
   | false =>
    have hI := HI2.out
    rw [← hpb, if_neg (by decide)] at hI
    have HI3 := Aside0.mk hI
    clear hpb hI HI2
    go_wp2_with (first | ((with_reducible refine gateD_ rfl ?_); refine goesC_ (some 16) rfl rfl HFu.out HN.out HBo.out rfl rfl (#[.int .i64 x] ++ caps) (by simp only [List.map_toArray, List.map_cons, List.map_nil]; rfl) ?_; refine ((HF.out x HM.out _ HB.out).mono ?_); rintro e w1 ⟨rfl, hb⟩; refine ⟨_, rfl, ?_⟩; rw [← HPB.out]; have HB2 := Aside0.mk (below_step HB.out hb); clear hb))
    go_roundg gk
    case measure => omega
    case rel => exact ⟨i + 1, by omega, by go_num, HI3, HB2⟩
set_option maxHeartbeats 8000000 in
set_option maxRecDepth 100000 in
theorem contains_int (F : FuncId) (fn : Func) (caps : Array Value) (p : Int → Bool) (A : Option Addr) (c : Nat) (l : List Int) (w : World) (hf : Try.prog.funcs[F]? = some fn) (hname : (fn.name == "runtime.NumGoroutine") = false) (hb : fn.body.isSome = true)
  (hr0 : Kd.C (Kd.int .i64) w A l.length l) (hc0 : l.length ≤ c) (hF : ∀ x ∈ l, ∀ W, Below w.heap.size w W → Calls Try.prog F (#[.int .i64 x] ++ caps) W fun e w' => e = .returned (.bool (p x)) ∧ Below W.heap.size W w') :
  Calls Try.prog 31 #[.slice A l.length c, .func (.func F) #[] caps] w fun e w' => e = .returned (.bool (l.any p)) ∧ Below w.heap.size w w' := by
 have H := Aside0.mk (index_int F fn caps p (idxI p l 0) A c l w hf hname hb hr0 hc0 rfl hF)
 obtain ⟨r, hr_⟩ : ∃ r, r = idxI p l 0 := ⟨_, rfl⟩
 have hany := idxI_any p l 0
 clear hf hname hb hF
 have hr : decide (0 ≤ idxI p l 0) = l.any p := hany
 rw [← hr_] at hr H
 clear hany hr0 hc0 hr_
 go_enter Try.func31, Try.ntmps31
 go_wp2_with (first | (go_at_call 48; refine (H.out).mono ?_; rintro e w1 ⟨rfl, hb⟩; have HB := Aside0.mk hb; clear hb))
 go_ret
 exact ⟨by rw [← hr]; rfl, HB.out⟩
set_option maxHeartbeats 8000000 in
set_option maxRecDepth 100000 in
theorem index_bind (F : FuncId) (fn : Func) (caps : Array Value) (p : S50 → Bool) (r : Int) (A : Option Addr) (c : Nat) (l : List S50) (w : World) (hf : Try.prog.funcs[F]? = some fn) (hname : (fn.name == "runtime.NumGoroutine") = false) (hb : fn.body.isSome = true)
  (hr0 : Kd.C k50 w A l.length l) (hc0 : l.length ≤ c) (hr : idxI p l 0 = r) (hF : ∀ x ∈ l, ∀ W, Below w.heap.size w W → ∀ A1 c1, x.f1.length ≤ c1 → Kd.C (Kd.int .i64) W A1 x.f1.length x.f1 → Calls Try.prog F (#[.agg #[.string x.f0, .slice A1 x.f1.length c1]] ++ caps) W fun e w' => e = .returned (.bool (p x)) ∧ Below W.heap.size W w') :
  Calls Try.prog 44 #[.slice A l.length c, .func (.func F) #[] caps] w fun e w' => e = .returned (.int .i64 r) ∧ Below w.heap.size w w' := by
 have hu50 := Try.underlying50
 have HR0 := Aside0.mk hr0
 have HRr := Aside0.mk hr
 have HF := Aside0.mk hF
 have HN := Aside0.mk hname
 have HBo := Aside0.mk hb
 have HFu := Aside0.mk hf
 have HC0 := Aside0.mk hc0
 have hmx := hr0.2.1
 clear hr hr0 hF hname hb hf hc0
 go_enter Try.func44, Try.ntmps44
 go_wp2
 go_loopg [8] l.length (fun gk v8 wx => ∃ i : Nat, i + gk = l.length ∧ v8 = .int .i64 (i : Nat) ∧ Aside0 (idxI p (l.drop i) i = r) ∧ Aside0 (Below w.heap.size w wx))
 case atStart => exact ⟨0, by omega, rfl, HRr, ⟨Below.refl _ _⟩⟩
 case round =>
  obtain ⟨i, hig, rfl, HI, HB⟩ := hrel
  cases gk with
  | zero =>
   obtain rfl : i = l.length := by omega
   have hn : ¬ ((l.length : Int) < (l.length : Int)) := by omega
   have hI := HI.out
   rw [List.drop_length] at hI
   have hI2 : -1 = r := hI
   subst hI2
   clear hI HI HRr
   go_wp2
   go_ret
   exact ⟨rfl, HB.out⟩
  | succ gk =>
   have hil : i < l.length := by omega
   have hlt : (i : Int) < (l.length : Int) := by omega
   have h0 : (0 : Int) ≤ (i : Int) := by omega
   obtain ⟨x, hx⟩ : ∃ x, x = l[i] := ⟨_, rfl⟩
   have hmem : x ∈ l := by rw [hx]; exact List.getElem_mem hil
   have hI := HI.out
   rw [List.drop_eq_getElem_cons hil, ← hx] at hI
   unfold idxI at hI
   have hrd : rd_T50 l (i : Int) = x := by rw [hx]; simp [rd_T50, List.getD_eq_getElem?_getD, hil]
   obtain ⟨a, A1, c1, e1, hx0, hx1, hl1, hC1⟩ := at_T50 (Kd.C_below HR0.out HB.out) (i : Int) h0 hlt
   cases e1
   rw [hrd] at hx0 hx1 hl1 hC1
   rw [Int.toNat_natCast] at hx0 hx1
   have HL1 := Aside0.mk hl1
   have HC1 := Aside0.mk hC1
   have HM := Aside0.mk hmem
   have HI2 := Aside0.mk hI
   clear hx hmem hI hrd HI hl1 hC1
   obtain ⟨b, hpb⟩ : ∃ b, b = p x := ⟨_, rfl⟩
   have HPB := Aside0.mk hpb
   cases b with
   | true =>
    have hI := HI2.out
    rw [← hpb, if_pos rfl] at hI
    subst hI
    clear hpb HI2 HRr
    go_wp2_with (first | ((with_reducible refine gateD_ rfl ?_); refine goesC_ (some 16) rfl rfl HFu.out HN.out HBo.out rfl rfl (#[.agg #[.string x.f0, .slice A1 x.f1.length c1]] ++ caps) (by simp only [List.map_toArray, List.map_cons, List.map_nil]; rfl) ?_; refine ((HF.out x HM.out _ HB.out A1 c1 HL1.out HC1.out).mono ?_); rintro e w1 ⟨rfl, hb⟩; refine ⟨_, rfl, ?_⟩; rw [← HPB.out]; have HB2 := Aside0.mk (below_step HB.out hb); clear hb))
    go_ret
    exact ⟨rfl, HB2.out⟩
   | false =>
    have hI := HI2.out
    rw [← hpb, if_neg (by decide)] at hI
    have HI3 := Aside0.mk hI
    clear hpb hI HI2
    go_wp2_with (first | ((with_reducible refine gateD_ rfl ?_); refine goesC_ (some 16) rfl rfl HFu.out HN.out HBo.out rfl rfl (#[.agg #[.string x.f0, .slice A1 x.f1.length c1]] ++ caps) (by simp only [List.map_toArray, List.map_cons, List.map_nil]; rfl) ?_; refine ((HF.out x HM.out _ HB.out A1 c1 HL1.out HC1.out).mono ?_); rintro e w1 ⟨rfl, hb⟩; refine ⟨_, rfl, ?_⟩; rw [← HPB.out]; have HB2 := Aside0.mk (below_step HB.out hb); clear hb))
    go_roundg gk
    case measure => omega
    case rel => exact ⟨i + 1, by omega, by go_num, HI3, HB2⟩
set_option maxHeartbeats 8000000 in
set_option maxRecDepth 100000 in
theorem contains_bind (F : FuncId) (fn : Func) (caps : Array Value) (p : S50 → Bool) (A : Option Addr) (c : Nat) (l : List S50) (w : World) (hf : Try.prog.funcs[F]? = some fn) (hname : (fn.name == "runtime.NumGoroutine") = false) (hb : fn.body.isSome = true)
  (hr0 : Kd.C k50 w A l.length l) (hc0 : l.length ≤ c) (hF : ∀ x ∈ l, ∀ W, Below w.heap.size w W → ∀ A1 c1, x.f1.length ≤ c1 → Kd.C (Kd.int .i64) W A1 x.f1.length x.f1 → Calls Try.prog F (#[.agg #[.string x.f0, .slice A1 x.f1.length c1]] ++ caps) W fun e w' => e = .returned (.bool (p x)) ∧ Below W.heap.size W w') :
  Calls Try.prog 28 #[.slice A l.length c, .func (.func F) #[] caps] w fun e w' => e = .returned (.bool (l.any p)) ∧ Below w.heap.size w w' := by
 have H := Aside0.mk (index_bind F fn caps p (idxI p l 0) A c l w hf hname hb hr0 hc0 rfl hF)
 obtain ⟨r, hr_⟩ : ∃ r, r = idxI p l 0 := ⟨_, rfl⟩
 have hany := idxI_any p l 0
 clear hf hname hb hF
 have hr : decide (0 ≤ idxI p l 0) = l.any p := hany
 rw [← hr_] at hr H
 clear hany hr0 hc0 hr_
 go_enter Try.func28, Try.ntmps28
 go_wp2_with (first | (go_at_call 44; refine (H.out).mono ?_; rintro e w1 ⟨rfl, hb⟩; have HB := Aside0.mk hb; clear hb))
 go_ret
 exact ⟨by rw [← hr]; rfl, HB.out⟩
def Hd.Is (w : World) (g : Nat) (h : List Bool) : Prop := h.length = 100 ∧ w.heap[g]? = some (.cells (h.map Value.bool).toArray 43 (0, 0))
theorem Hd.Is.keep {w w1 : World} {g : Nat} {h : List Bool} (hi : Hd.Is w g h) (hb : Below w.heap.size w w1) : Hd.Is w1 g h := ⟨hi.1, blk_below hi.2 hb⟩
theorem Hd.Is.cell {w : World} {g : Nat} {h : List Bool} (hi : Hd.Is w g h) (i : Nat) (hl : i < 100) : w.cell? ⟨g, i, none⟩ = some (.bool (h.getD i false)) := by
 refine (blk_cell hi.2 i).trans ?_
 have : i < h.length := by rw [hi.1]; exact hl
 simp [List.getD_eq_getElem?_getD, this]
theorem Hd.Is.set {w : World} {g : Nat} {h : List Bool} (hi : Hd.Is w g h) (i : Nat) (b : Bool) : Hd.Is (w.setCell ⟨g, i, none⟩ (.bool b)) g (h.set i b) := by
 refine ⟨by rw [List.length_set]; exact hi.1, ?_⟩
 have := blk_set hi.2 i (.bool b)
 rw [this]
 simp
def keyP (h : List Bool) (x : Int) : Bool := !(h.getD x.toNat false)
def allC (h : List Bool) (ch : List Int) : Bool := !(ch.any (keyP h))
set_option maxHeartbeats 8000000 in
set_option maxRecDepth 100000 in
theorem all_one (g gb : Nat) (h : List Bool) (x : Int) (w : World) (hi : Hd.Is w g h) (hk : w.heap[gb]? = some (.cells #[.pointer (some ⟨g, 0, none⟩)] 41 (0, 0))) (h0 : 0 ≤ x) (h1 : x < 100) :
  Calls Try.prog 47 #[.int .i64 x, .pointer (some ⟨gb, 0, none⟩)] w fun e w' => e = .returned (.bool (keyP h x)) ∧ Below w.heap.size w w' := by
 have hcz : w.cell? ⟨gb, 0, none⟩ = some (.pointer (some ⟨g, 0, none⟩)) := (blk_cell hk 0).trans rfl
 have hx := hi.cell x.toNat (by omega)
 have hxa : (if x.toNat = 0 then (⟨g, 0, none⟩ : Addr) else ⟨g, 0 + x.toNat, none⟩) = ⟨g, x.toNat, none⟩ := by
  split
  ·rename_i e; rw [e]
  ·rw [Nat.zero_add]
 clear hi hk
 go_enter Try.func47, Try.ntmps47
 go_wp2
 go_ret
 exact ⟨rfl, Below.refl _ _⟩
set_option maxHeartbeats 8000000 in
set_option maxRecDepth 100000 in
theorem all_calls (g : Nat) (h : List Bool) (A : Option Addr) (c : Nat) (ch : List Int) (w : World) (hi : Hd.Is w g h) (hr0 : Kd.C (Kd.int .i64) w A ch.length ch) (hc0 : ch.length ≤ c) (hb : ∀ x ∈ ch, 0 ≤ x ∧ x < 100) :
  Calls Try.prog 30 #[.pointer (some ⟨g, 0, none⟩), .slice A ch.length c] w fun e w' => e = .returned (.bool (allC h ch)) ∧ Below w.heap.size w w' := by
 obtain ⟨r, hr⟩ : ∃ r, r = ch.any (keyP h) := ⟨_, rfl⟩
 have hr2 : allC h ch = !r := by rw [hr]; rfl
 rw [hr2]
 have HRr := Aside0.mk hr.symm
 have HI := Aside0.mk hi
 have HR0 := Aside0.mk hr0
 have HC0 := Aside0.mk hc0
 have HBd := Aside0.mk hb
 clear hr hr2 hi hr0 hc0 hb
 go_enter Try.func30, Try.ntmps30
 go_wp2_with (first
  | ((with_reducible refine gate_dst (N := 2) rfl ?_); refine box_event rfl (N := 2) rfl (cs := #[.pointer (some ⟨g, 0, none⟩)]) (t := 41) sE ?_; intro gb hg w1 hbox hb; have HB := Aside0.mk hb; have BK := Aside0.mk hbox; clear hb hbox hg)
  | (go_at_call 31; refine (contains_int 47 Try.f47 #[.pointer (some ⟨gb, 0, none⟩)] (keyP h) A c ch w1 Try.func47 (by kernel_rfl) rfl (Kd.C_below HR0.out HB.out) HC0.out (fun x hx W hW => (all_one g gb h x W ((HI.out.keep HB.out).keep hW) (blk_below BK.out hW) (HBd.out x hx).1 (HBd.out x hx).2))).mono ?_; rintro e w2 ⟨rfl, hb⟩; rw [HRr.out]; have HB2 := Aside0.mk (below_step HB.out hb); clear hb))
 go_ret
 exact ⟨rfl, HB2.out⟩
set_option maxHeartbeats 8000000 in
set_option maxRecDepth 100000 in
theorem index_val (v r : Int) (A : Option Addr) (c : Nat) (l : List Int) (w : World) (hr0 : Kd.C (Kd.int .i64) w A l.length l) (hc0 : l.length ≤ c) (hr : idxI (fun x => v == x) l 0 = r) :
  Calls Try.prog 49 #[.slice A l.length c, .int .i64 v] w fun e w' => e = .returned (.int .i64 r) ∧ Below w.heap.size w w' := by
 have HR0 := Aside0.mk hr0
 have HRr := Aside0.mk hr
 have HC0 := Aside0.mk hc0
 have hmx := hr0.2.1
 clear hr hr0 hc0
 go_enter Try.func49, Try.ntmps49
 go_wp2
 go_loopg [8] l.length (fun gk v8 wx => ∃ i : Nat, i + gk = l.length ∧ v8 = .int .i64 (i : Nat) ∧ Aside0 (idxI (fun x => v == x) (l.drop i) i = r) ∧ w = wx)
 case atStart => exact ⟨0, by omega, rfl, HRr, rfl⟩
 case round =>
  obtain ⟨i, hig, rfl, HI, rfl⟩ := hrel
  cases gk with
  | zero =>
   obtain rfl : i = l.length := by omega
   have hn : ¬ ((l.length : Int) < (l.length : Int)) := by omega
   have hI := HI.out
   rw [List.drop_length] at hI
   have hI2 : -1 = r := hI
   subst hI2
   clear hI HI HRr
   go_wp2
   go_ret
   exact ⟨rfl, Below.refl _ _⟩
  | succ gk =>
   have hil : i < l.length := by omega
   have hlt : (i : Int) < (l.length : Int) := by omega
   have h0 : (0 : Int) ≤ (i : Int) := by omega
   obtain ⟨x, hx⟩ : ∃ x, x = l[i] := ⟨_, rfl⟩
   have hI := HI.out
   rw [List.drop_eq_getElem_cons hil, ← hx] at hI
   unfold idxI at hI
   have hrd : rd l (i : Int) = x := by rw [hx]; simp [rd, List.getD_eq_getElem?_getD, hil]
   obtain ⟨a, rfl, hxi⟩ := Kd.at_int HR0.out (i : Int) h0 hlt
   rw [hrd, Int.toNat_natCast] at hxi
   have HI2 := Aside0.mk hI
   clear hx hI hrd HI
   by_cases hc : (v == x) = true
   ·have hI := HI2.out
    rw [if_pos hc] at hI
    subst hI
    clear HI2 HRr
    go_wp2
    go_ret
    exact ⟨rfl, Below.refl _ _⟩
   ·have hcf : (v == x) = false := Bool.eq_false_iff.mpr hc
    have hI := HI2.out
    rw [if_neg hc] at hI
    have HI3 := Aside0.mk hI
    clear hI HI2 hc
    go_wp2
    go_roundg gk
    case measure => omega
    case rel => exact ⟨i + 1, by omega, by go_num, HI3, rfl⟩
set_option maxHeartbeats 8000000 in
set_option maxRecDepth 100000 in
theorem contains_val (v : Int) (A : Option Addr) (c : Nat) (l : List Int) (w : World) (hr0 : Kd.C (Kd.int .i64) w A l.length l) (hc0 : l.length ≤ c) :
  Calls Try.prog 33 #[.slice A l.length c, .int .i64 v] w fun e w' => e = .returned (.bool (l.any (fun x => v == x))) ∧ Below w.heap.size w w' := by
 have H := Aside0.mk (index_val v (idxI (fun x => v == x) l 0) A c l w hr0 hc0 rfl)
 obtain ⟨r, hr_⟩ : ∃ r, r = idxI (fun x => v == x) l 0 := ⟨_, rfl⟩
 have hr : decide (0 ≤ idxI (fun x => v == x) l 0) = l.any (fun x => v == x) := idxI_any _ l 0
 rw [← hr_] at hr H
 clear hr0 hc0 hr_
 go_enter Try.func33, Try.ntmps33
 go_wp2_with (first | (go_at_call 49; refine (H.out).mono ?_; rintro e w1 ⟨rfl, hb⟩; have HB := Aside0.mk hb; clear hb))
 go_ret
 exact ⟨by rw [← hr]; rfl, HB.out⟩
def notIn (ch : List Int) (k : Int) : Bool := !(ch.any fun x => k == x)
set_option maxHeartbeats 8000000 in
set_option maxRecDepth 100000 in
theorem not_in (gO : Nat) (n : ByteArray) (A : Option Addr) (c : Nat) (ch : List Int) (x : Int) (w : World) (hk : w.heap[gO]? = some (.cells #[.string n, .slice A ch.length c] 50 (0, 0))) (hr0 : Kd.C (Kd.int .i64) w A ch.length ch) (hc0 : ch.length ≤ c) :
  Calls Try.prog 32 #[.int .i64 x, .pointer (some ⟨gO, 0, none⟩)] w fun e w' => e = .returned (.bool (notIn ch x)) ∧ Below w.heap.size w w' := by
 have hcz : w.cell? ⟨gO, 1, none⟩ = some (.slice A ch.length c) := (blk_cell hk 1).trans rfl
 obtain ⟨r, hr⟩ : ∃ r, r = ch.any fun y => x == y := ⟨_, rfl⟩
 have hr2 : notIn ch x = !r := by rw [hr]; rfl
 rw [hr2]
 have HC := Aside0.mk (contains_val x A c ch w hr0 hc0)
 rw [← hr] at HC
 clear hk hr hr2 hr0 hc0
 go_enter Try.func32, Try.ntmps32
 go_wp2_with (first | (go_at_call 33; refine (HC.out).mono ?_; rintro e w1 ⟨rfl, hb⟩; have HB := Aside0.mk hb; clear hb))
 go_ret
 exact ⟨rfl, HB.out⟩
def longer (h : List Bool) (b o : S50) : Bool := decide (o.f1.length > b.f1.length) && (allC h o.f1 && !(b.f1.any (notIn o.f1)))
set_option maxHeartbeats 8000000 in
set_option maxRecDepth 100000 in
theorem longer_calls (g gB gH : Nat) (h : List Bool) (b o : S50) (AB A1 : Option Addr) (cB c1 : Nat) (w : World) (hi : Hd.Is w g h) (hkH : w.heap[gH]? = some (.cells #[.pointer (some ⟨g, 0, none⟩)] 41 (0, 0))) (hkB : w.heap[gB]? = some (.cells #[.string b.f0, .slice AB b.f1.length cB] 50 (0, 0)))
  (hrB : Kd.C (Kd.int .i64) w AB b.f1.length b.f1) (hcB : b.f1.length ≤ cB) (hr1 : Kd.C (Kd.int .i64) w A1 o.f1.length o.f1) (hc1 : o.f1.length ≤ c1) (ho : ∀ x ∈ o.f1, 0 ≤ x ∧ x < 100) :
  Calls Try.prog 29 #[.agg #[.string o.f0, .slice A1 o.f1.length c1], .pointer (some ⟨gB, 0, none⟩), .pointer (some ⟨gH, 0, none⟩)] w fun e w' => e = .returned (.bool (longer h b o)) ∧ Below w.heap.size w w' := by
 have hu50 := Try.underlying50
 have HI := Aside0.mk hi
 have HKH := Aside0.mk hkH
 have HKB := Aside0.mk hkB
 have HRB := Aside0.mk hrB
 have HCB := Aside0.mk hcB
 have HR1 := Aside0.mk hr1
 have HC1 := Aside0.mk hc1
 have HO := Aside0.mk ho
 clear hi hkH hkB hrB hcB hr1 hc1 ho
 by_cases hl : o.f1.length > b.f1.length
 ·have hlt : (o.f1.length : Int) > (b.f1.length : Int) := by omega
  obtain ⟨r1, hr1⟩ : ∃ r, r = allC h o.f1 := ⟨_, rfl⟩
  have HRr1 := Aside0.mk hr1.symm
  cases r1 with
  | false =>
   have hres : longer h b o = false := by unfold longer; rw [← hr1]; simp
   rw [hres]
   clear hres hr1
   go_enter Try.func29, Try.ntmps29
   go_wp2_with (first
    | ((with_reducible refine gate_dst (N := 3) rfl ?_); refine box_event rfl (N := 3) rfl (cs := #[.string o.f0, .slice A1 o.f1.length c1]) (t := 50) sE ?_; intro gO hg w1 hbox hb; have HB := Aside0.mk hb; have HKO := Aside0.mk hbox; have hcO : w1.cell? ⟨gO, 1, none⟩ = some (.slice A1 o.f1.length c1) := (blk_cell hbox 1).trans rfl; have hcB : w1.cell? ⟨gB, 1, none⟩ = some (.slice AB b.f1.length cB) := (blk_cell (blk_below HKB.out hb) 1).trans rfl; have hcH : w1.cell? ⟨gH, 0, none⟩ = some (.pointer (some ⟨g, 0, none⟩)) := (blk_cell (blk_below HKH.out hb) 0).trans rfl; clear hb hbox hg)
    | (go_at_call 30; refine (all_calls g h A1 c1 o.f1 w1 (HI.out.keep HB.out) (Kd.C_below HR1.out HB.out) HC1.out HO.out).mono ?_; rintro e w2 ⟨rfl, hb⟩; rw [HRr1.out]; have HB2 := Aside0.mk (below_step HB.out hb); clear hb))
   go_ret
   exact ⟨rfl, HB2.out⟩
  | true =>
   obtain ⟨r2, hr2⟩ : ∃ r, r = b.f1.any (notIn o.f1) := ⟨_, rfl⟩
   have HRr2 := Aside0.mk hr2.symm
   have hres : longer h b o = !r2 := by unfold longer; rw [← hr1, ← hr2, decide_eq_true hl]; simp
   rw [hres]
   clear hres hr1 hr2
   go_enter Try.func29, Try.ntmps29
   go_wp2_with (first
    | ((with_reducible refine gate_dst (N := 3) rfl ?_); refine box_event rfl (N := 3) rfl (cs := #[.string o.f0, .slice A1 o.f1.length c1]) (t := 50) sE ?_; intro gO hg w1 hbox hb; have HB := Aside0.mk hb; have HKO := Aside0.mk hbox; have hcO : w1.cell? ⟨gO, 1, none⟩ = some (.slice A1 o.f1.length c1) := (blk_cell hbox 1).trans rfl; have hcB : w1.cell? ⟨gB, 1, none⟩ = some (.slice AB b.f1.length cB) := (blk_cell (blk_below HKB.out hb) 1).trans rfl; have hcH : w1.cell? ⟨gH, 0, none⟩ = some (.pointer (some ⟨g, 0, none⟩)) := (blk_cell (blk_below HKH.out hb) 0).trans rfl; clear hb hbox hg)
    | (go_at_call 30; refine (all_calls g h A1 c1 o.f1 w1 (HI.out.keep HB.out) (Kd.C_below HR1.out HB.out) HC1.out HO.out).mono ?_; rintro e w2 ⟨rfl, hb⟩; rw [HRr1.out]; have HB2 := Aside0.mk (below_step HB.out hb); have HKO2 := Aside0.mk (blk_below HKO.out hb); have hcB2 : w2.cell? ⟨gB, 1, none⟩ = some (.slice AB b.f1.length cB) := (blk_cell (blk_below HKB.out HB2.out) 1).trans rfl; clear hb)
    | (go_at_call 31; refine (contains_int 32 Try.f32 #[.pointer (some ⟨gO, 0, none⟩)] (notIn o.f1) AB cB b.f1 w2 Try.func32 (by kernel_rfl) rfl (Kd.C_below HRB.out HB2.out) HCB.out (fun x hx W hW => not_in gO o.f0 A1 c1 o.f1 x W (blk_below HKO2.out hW) (Kd.C_below (Kd.C_below HR1.out HB2.out) hW) HC1.out)).mono ?_; rintro e w3 ⟨rfl, hb⟩; rw [HRr2.out]; have HB3 := Aside0.mk (below_step HB2.out hb); clear hb))
   go_ret
   exact ⟨rfl, HB3.out⟩
 ·have hlt : ¬ ((o.f1.length : Int) > (b.f1.length : Int)) := by omega
  have hres : longer h b o = false := by unfold longer; rw [decide_eq_false hl]; rfl
  rw [hres]
  clear hres
  go_enter Try.func29, Try.ntmps29
  go_wp2_with (first
   | ((with_reducible refine gate_dst (N := 3) rfl ?_); refine box_event rfl (N := 3) rfl (cs := #[.string o.f0, .slice A1 o.f1.length c1]) (t := 50) sE ?_; intro gO hg w1 hbox hb; have HB := Aside0.mk hb; have HKO := Aside0.mk hbox; have hcO : w1.cell? ⟨gO, 1, none⟩ = some (.slice A1 o.f1.length c1) := (blk_cell hbox 1).trans rfl; have hcB : w1.cell? ⟨gB, 1, none⟩ = some (.slice AB b.f1.length cB) := (blk_cell (blk_below HKB.out hb) 1).trans rfl; clear hb hbox hg))
  go_ret
  exact ⟨rfl, HB.out⟩
def holdsOf (h : List Bool) (l : List S50) (b : S50) : Bool := allC h b.f1 && !(l.any (longer h b))
def holdsL (h : List Bool) (l : List S50) : List Bool := l.map (holdsOf h l)
set_option maxHeartbeats 8000000 in
set_option maxRecDepth 100000 in
theorem holds_calls (g : Nat) (h : List Bool) (A : Option Addr) (c : Nat) (l : List S50) (w : World) (hi : Hd.Is w g h) (hr0 : Kd.C k50 w A l.length l) (hc0 : l.length ≤ c) (hl : l.length ≤ 1000) (hk : ∀ b ∈ l, ∀ x ∈ b.f1, 0 ≤ x ∧ x < 100) :
  Calls Try.prog 11 #[.pointer (some ⟨g, 0, none⟩), .slice A l.length c] w fun e w' => ∃ v0_ : Value, e = .returned v0_ ∧ Kd.R Kd.bool 4 w' w.heap.size (fun _ => True) v0_ (holdsL h l) ∧ Below w.heap.size w w' := by
 have hu50 := Try.underlying50
 have HI := Aside0.mk hi
 have HR0 := Aside0.mk hr0
 have HC0 := Aside0.mk hc0
 have HK := Aside0.mk hk
 clear hi hr0 hc0 hk
 go_enter Try.func11, Try.ntmps11
 go_wp2_with (first
  | ((with_reducible refine gate_dst (N := 2) rfl ?_); refine box_event rfl (N := 2) rfl (cs := #[.pointer (some ⟨g, 0, none⟩)]) (t := 41) sE ?_; intro gH hg w1 hbox hb; have HB := Aside0.mk hb; have BK := Aside0.mk hbox; have HGH := Aside0.mk (show w.heap.size ≤ gH by omega); clear hb hbox hg)
  | ((with_reducible refine gate_dst (N := 9) rfl ?_); have hgl_ := blk_lt BK.out; refine Kd.R_lit Kd.bool _ 4 ?hg (N := 9) ?hd (xs := ([] : List Bool)) (inner := []) (ok := fun k => gH < k) (okp := fun _ => False) ?hr ?hp (fun _ hk => hk.elim) (by omega) (Below.refl _ _) (Nat.le_refl _) (by simp) ?_; (case hd => rfl); (case hg => rfl); (case hr => exact sE); (case hp => exact (Reps.none _ _)); intro v0 w2 ho hb hg_ hnew_; have HO := Aside0.mk (show Kd.R Kd.bool 4 w2 w.heap.size (fun k => gH < k) v0 [] from Kd.R_lower ho (below_size HB.out)); replace BK := Aside0.mk (blk_below BK.out hb); replace HB := Aside0.mk (below_step HB.out hb); clear ho hb hg_ hnew_ hgl_))
 go_loopg [5, 12] l.length (fun gk v5 v12 wx => ∃ i : Nat, i + gk = l.length ∧ v12 = .int .i64 (i : Nat) ∧ Aside0 (Kd.R Kd.bool 4 wx w.heap.size (fun k => gH < k) v5 ((l.take i).map (holdsOf h l))) ∧ Aside0 (wx.heap[gH]? = some (.cells #[.pointer (some ⟨g, 0, none⟩)] 41 (0, 0))) ∧ Aside0 (Below w.heap.size w wx))
 case atStart => exact ⟨0, by omega, rfl, HO, BK, HB⟩
 case round =>
  clear HO BK HB
  obtain ⟨i, hig, rfl, HO, BK, HB⟩ := hrel
  obtain ⟨wo, rfl⟩ : ∃ x, x = wr := ⟨_, rfl⟩
  cases gk with
  | zero =>
   obtain rfl : i = l.length := by omega
   have hn : ¬ ((l.length : Int) < (l.length : Int)) := by omega
   have hO := HO.out
   rw [List.take_length] at hO
   have HO2 := Aside0.mk hO
   clear hO HO
   go_wp2
   go_ret
   exact ⟨_, rfl, Kd.R_mono HO2.out (fun _ _ => trivial), HB.out⟩
  | succ go =>
   have hil : i < l.length := by omega
   have hlt : (i : Int) < (l.length : Int) := by omega
   have h0 : (0 : Int) ≤ (i : Int) := by omega
   obtain ⟨b, hbx⟩ : ∃ b, b = l[i] := ⟨_, rfl⟩
   have hmem : b ∈ l := by rw [hbx]; exact List.getElem_mem hil
   have htk : (l.take (i + 1)).map (holdsOf h l) = (l.take i).map (holdsOf h l) ++ [holdsOf h l b] := by
    rw [List.take_succ_eq_append_getElem hil, List.map_append, ← hbx]; rfl
   have hrd : rd_T50 l (i : Int) = b := by rw [hbx]; simp [rd_T50, List.getD_eq_getElem?_getD, hil]
   obtain ⟨a, A1, c1, e1, hx0, hx1, hl1, hC1⟩ := at_T50 HR0.out (i : Int) h0 hlt
   cases e1
   rw [hrd] at hx0 hx1 hl1 hC1
   rw [Int.toNat_natCast] at hx0 hx1
   replace hx0 := (HB.out.cell (World.block_lt_of_cell? _ _ hx0)).trans hx0
   replace hx1 := (HB.out.cell (World.block_lt_of_cell? _ _ hx1)).trans hx1
   have HTK := Aside0.mk htk
   have HM := Aside0.mk hmem
   have HL1 := Aside0.mk hl1
   have HR0' := Aside0.mk hC1
   obtain ⟨vb, hvb⟩ : ∃ v, v = holdsOf h l b := ⟨_, rfl⟩
   obtain ⟨va, hva⟩ : ∃ v, v = allC h b.f1 := ⟨_, rfl⟩
   obtain ⟨vl, hvl⟩ : ∃ v, v = l.any (longer h b) := ⟨_, rfl⟩
   have hv : vb = (va && !vl) := by rw [hvb, hva, hvl]; rfl
   have HVA := Aside0.mk hva.symm
   have HVL := Aside0.mk hvl.symm
   have HVB := Aside0.mk hvb.symm
   have hlenO : ((l.take i).map (holdsOf h l)).length = i := by simp; omega
   have HLO := Aside0.mk hlenO
   obtain ⟨d, hd⟩ : ∃ d, d = (l.take i).map (holdsOf h l) := ⟨_, rfl⟩
   rw [← hd] at HO HTK HLO
   clear hd
   obtain ⟨Ao, co, rfl⟩ := Kd.R_slice HO.out
   clear hbx hmem htk hrd hl1 hC1 hvb hva hvl hlenO
   cases va with
   | false =>
    obtain rfl : vb = false := by rw [hv]; rfl
    clear hv
    go_wp2_with (first
    | ((with_reducible refine gate_dst (N := 7) rfl ?_); refine box_event rfl (N := 7) rfl (cs := #[.string ⟨#[]⟩, .slice none 0 0]) (t := 50) sE ?_; intro gV hg w3 hbox hb; have hgl_ := blk_lt BK.out; have HVR := Aside0.mk (show gH < gV by omega); have HGV := Aside0.mk (show w.heap.size ≤ gV by rw [hg]; exact HB.out.size); have HO2 := Aside0.mk (show Kd.R Kd.bool 4 w3 w.heap.size (fun k => gH < k ∧ k ≠ gV) (.slice Ao d.length co) d from Kd.R_below (Kd.R_elderB HO.out gV (by omega)) hb); have HB2 := Aside0.mk (below_step HB.out hb); have BK2 := Aside0.mk (blk_below BK.out hb); have BV := Aside0.mk hbox; have hcz0 : w3.cell? ⟨gV, 0, none⟩ = some (.string ⟨#[]⟩) := (blk_cell hbox 0).trans rfl; have hcz1 : w3.cell? ⟨gV, 1, none⟩ = some (.slice none 0 0) := (blk_cell hbox 1).trans rfl; have hfz0 := blk_frozen hbox 0; have hfz1 := blk_frozen hbox 1; clear hbox hb hg hgl_ HO HB BK)
    | ((with_reducible refine gate_store (t := 50) (p := 7) rfl ?_); refine store_event (t := 50) (p := 7) (v := ?vo) (w1 := ((w3.setCell ⟨gV, 0, none⟩ (.string b.f0)).setCell ⟨gV, 1, none⟩ (.slice A1 b.f1.length c1))) ?hg ?ho ?hn ?hr ?_; (case ho => rfl); (case hg => rfl); (case hn => rfl); (case hr => exact sE); intro w4 hw; have hne_ := HVR.out; have HO3 := Aside0.mk (show Kd.R Kd.bool 4 w4 w.heap.size (fun k => gH < k ∧ k ≠ gV) (.slice Ao d.length co) d by rw [hw]; exact Kd.R_far (Kd.R_far HO2.out (fun k hk => hk.2) _) (fun k hk => hk.2) _); have HB3 := Aside0.mk (show Below w.heap.size w w4 by rw [hw]; exact below_set (below_set HB2.out HGV.out) HGV.out); have BK3 := Aside0.mk (show w4.heap[gH]? = some (.cells #[.pointer (some ⟨g, 0, none⟩)] 41 (0, 0)) by rw [hw]; exact (Below.heap_setCell _ _ _ gH (by show gH ≠ gV; omega)).trans ((Below.heap_setCell _ _ _ gH (by show gH ≠ gV; omega)).trans BK2.out)); have BV3 := Aside0.mk (show w4.heap[gV]? = some (.cells #[.string b.f0, .slice A1 b.f1.length c1] 50 (0, 0)) by rw [hw]; exact blk_put (cs := #[.string b.f0, .slice none 0 0]) (blk_put (cs := #[.string ⟨#[]⟩, .slice none 0 0]) BV.out 0 _ rfl) 1 _ rfl); clear hw hne_ HO2 HB2 BK2 BV hcz0 hcz1 hfz0 hfz1)
    | (go_at_call 28; refine (contains_bind 29 Try.f29 #[.pointer (some ⟨gV, 0, none⟩), .pointer (some ⟨gH, 0, none⟩)] (longer h b) (some a) c l w4 Try.func29 (by kernel_rfl) rfl (Kd.C_below HR0.out HB3.out) HC0.out (fun x hx W hW A2 c2 hc2 hC2 => longer_calls g gV gH h b x A1 A2 c1 c2 W (HI.out.keep (below_step HB3.out hW)) (blk_below BK3.out hW) (blk_below BV3.out hW) (Kd.C_below HR0'.out (below_step HB3.out hW)) HL1.out hC2 hc2 (HK.out x hx))).mono ?_; rintro e w5 ⟨rfl, hb⟩; rw [HVL.out]; have HO4 := Aside0.mk (Kd.R_below HO3.out hb); have HB4 := Aside0.mk (below_step HB3.out hb); have BK4 := Aside0.mk (blk_below BK3.out hb); have hv1 : w5.cell? ⟨gV, 1, none⟩ = some (.slice A1 b.f1.length c1) := (blk_cell (blk_below BV3.out hb) 1).trans rfl; have hh0 : w5.cell? ⟨gH, 0, none⟩ = some (.pointer (some ⟨g, 0, none⟩)) := (blk_cell BK4.out 0).trans rfl; clear hb HO3 HB3 BK3 BV3)
    | (go_at_call 30; refine (all_calls g h A1 c1 b.f1 w5 (HI.out.keep HB4.out) (Kd.C_below HR0'.out HB4.out) HL1.out (HK.out b HM.out)).mono ?_; rintro e w6 ⟨rfl, hb⟩; rw [HVA.out]; have HO5 := Aside0.mk (Kd.R_below HO4.out hb); have HB5 := Aside0.mk (below_step HB4.out hb); have BK5 := Aside0.mk (blk_below BK4.out hb); clear hb HO4 HB4 BK4)
    | ((with_reducible refine gate_builtin (b := .append) (xs := #[.tmp 19, .tmp 28]) rfl ?_); at_builtin; have hgl_ := blk_lt BK5.out; refine Kd.R_append Kd.bool (w0 := w) w.heap.size rfl (.tmp 19) (.tmp 28) 44 4 (.bool false) 1 rfl Try.underlying44 info4 rfl (by decide) (by omega) (.slice Ao d.length co) d false [.bool false] (fun k => gH < k) (fun _ => False) rfl ?aX ?aP (fun _ hk => hk.elim) ?aF ?aO ?aB ?aS ?aL ?_; (case aX => first | rfl | (go_simp; done) | (go_simp; rfl)); (case aP => exact rfl); (case aB => exact HB5.out); (case aF => intro k_ hk_; omega); (case aO => exact Kd.R_mono HO5.out (fun _ h => h.1)); (case aS => exact below_size HB5.out); (case aL => have := HLO.out; omega); intro v1 w7 ho hb hg hat; have HO6 := Aside0.mk ho; have HB6 := Aside0.mk hb; have BK6 := Aside0.mk (blk_grown BK5.out hg (fun e_ => by have ho_ := (HO5.out.1 gH e_.symm).1; omega)); clear ho hb hg hat hgl_))
    go_roundg go
    case measure => omega
    case rel => exact ⟨i + 1, by omega, by go_num, ⟨by rw [HTK.out, HVB.out]; exact HO6.out⟩, BK6, HB6⟩
   | true =>
    obtain rfl : vb = !vl := by rw [hv]; rfl
    clear hv
    go_wp2_with (first
    | ((with_reducible refine gate_dst (N := 7) rfl ?_); refine box_event rfl (N := 7) rfl (cs := #[.string ⟨#[]⟩, .slice none 0 0]) (t := 50) sE ?_; intro gV hg w3 hbox hb; have hgl_ := blk_lt BK.out; have HVR := Aside0.mk (show gH < gV by omega); have HGV := Aside0.mk (show w.heap.size ≤ gV by rw [hg]; exact HB.out.size); have HO2 := Aside0.mk (show Kd.R Kd.bool 4 w3 w.heap.size (fun k => gH < k ∧ k ≠ gV) (.slice Ao d.length co) d from Kd.R_below (Kd.R_elderB HO.out gV (by omega)) hb); have HB2 := Aside0.mk (below_step HB.out hb); have BK2 := Aside0.mk (blk_below BK.out hb); have BV := Aside0.mk hbox; have hcz0 : w3.cell? ⟨gV, 0, none⟩ = some (.string ⟨#[]⟩) := (blk_cell hbox 0).trans rfl; have hcz1 : w3.cell? ⟨gV, 1, none⟩ = some (.slice none 0 0) := (blk_cell hbox 1).trans rfl; have hfz0 := blk_frozen hbox 0; have hfz1 := blk_frozen hbox 1; clear hbox hb hg hgl_ HO HB BK)
    | ((with_reducible refine gate_store (t := 50) (p := 7) rfl ?_); refine store_event (t := 50) (p := 7) (v := ?vo) (w1 := ((w3.setCell ⟨gV, 0, none⟩ (.string b.f0)).setCell ⟨gV, 1, none⟩ (.slice A1 b.f1.length c1))) ?hg ?ho ?hn ?hr ?_; (case ho => rfl); (case hg => rfl); (case hn => rfl); (case hr => exact sE); intro w4 hw; have hne_ := HVR.out; have HO3 := Aside0.mk (show Kd.R Kd.bool 4 w4 w.heap.size (fun k => gH < k ∧ k ≠ gV) (.slice Ao d.length co) d by rw [hw]; exact Kd.R_far (Kd.R_far HO2.out (fun k hk => hk.2) _) (fun k hk => hk.2) _); have HB3 := Aside0.mk (show Below w.heap.size w w4 by rw [hw]; exact below_set (below_set HB2.out HGV.out) HGV.out); have BK3 := Aside0.mk (show w4.heap[gH]? = some (.cells #[.pointer (some ⟨g, 0, none⟩)] 41 (0, 0)) by rw [hw]; exact (Below.heap_setCell _ _ _ gH (by show gH ≠ gV; omega)).trans ((Below.heap_setCell _ _ _ gH (by show gH ≠ gV; omega)).trans BK2.out)); have BV3 := Aside0.mk (show w4.heap[gV]? = some (.cells #[.string b.f0, .slice A1 b.f1.length c1] 50 (0, 0)) by rw [hw]; exact blk_put (cs := #[.string b.f0, .slice none 0 0]) (blk_put (cs := #[.string ⟨#[]⟩, .slice none 0 0]) BV.out 0 _ rfl) 1 _ rfl); clear hw hne_ HO2 HB2 BK2 BV hcz0 hcz1 hfz0 hfz1)
    | (go_at_call 28; refine (contains_bind 29 Try.f29 #[.pointer (some ⟨gV, 0, none⟩), .pointer (some ⟨gH, 0, none⟩)] (longer h b) (some a) c l w4 Try.func29 (by kernel_rfl) rfl (Kd.C_below HR0.out HB3.out) HC0.out (fun x hx W hW A2 c2 hc2 hC2 => longer_calls g gV gH h b x A1 A2 c1 c2 W (HI.out.keep (below_step HB3.out hW)) (blk_below BK3.out hW) (blk_below BV3.out hW) (Kd.C_below HR0'.out (below_step HB3.out hW)) HL1.out hC2 hc2 (HK.out x hx))).mono ?_; rintro e w5 ⟨rfl, hb⟩; rw [HVL.out]; have HO4 := Aside0.mk (Kd.R_below HO3.out hb); have HB4 := Aside0.mk (below_step HB3.out hb); have BK4 := Aside0.mk (blk_below BK3.out hb); have hv1 : w5.cell? ⟨gV, 1, none⟩ = some (.slice A1 b.f1.length c1) := (blk_cell (blk_below BV3.out hb) 1).trans rfl; have hh0 : w5.cell? ⟨gH, 0, none⟩ = some (.pointer (some ⟨g, 0, none⟩)) := (blk_cell BK4.out 0).trans rfl; clear hb HO3 HB3 BK3 BV3)
    | (go_at_call 30; refine (all_calls g h A1 c1 b.f1 w5 (HI.out.keep HB4.out) (Kd.C_below HR0'.out HB4.out) HL1.out (HK.out b HM.out)).mono ?_; rintro e w6 ⟨rfl, hb⟩; rw [HVA.out]; have HO5 := Aside0.mk (Kd.R_below HO4.out hb); have HB5 := Aside0.mk (below_step HB4.out hb); have BK5 := Aside0.mk (blk_below BK4.out hb); clear hb HO4 HB4 BK4)
    | ((with_reducible refine gate_builtin (b := .append) (xs := #[.tmp 19, .tmp 28]) rfl ?_); at_builtin; have hgl_ := blk_lt BK5.out; refine Kd.R_append Kd.bool (w0 := w) w.heap.size rfl (.tmp 19) (.tmp 28) 44 4 (.bool false) 1 rfl Try.underlying44 info4 rfl (by decide) (by omega) (.slice Ao d.length co) d (!vl) [.bool (!vl)] (fun k => gH < k) (fun _ => False) rfl ?aX ?aP (fun _ hk => hk.elim) ?aF ?aO ?aB ?aS ?aL ?_; (case aX => first | rfl | (go_simp; done) | (go_simp; rfl)); (case aP => exact rfl); (case aB => exact HB5.out); (case aF => intro k_ hk_; omega); (case aO => exact Kd.R_mono HO5.out (fun _ h => h.1)); (case aS => exact below_size HB5.out); (case aL => have := HLO.out; omega); intro v1 w7 ho hb hg hat; have HO6 := Aside0.mk ho; have HB6 := Aside0.mk hb; have BK6 := Aside0.mk (blk_grown BK5.out hg (fun e_ => by have ho_ := (HO5.out.1 gH e_.symm).1; omega)); clear ho hb hg hat hgl_))
    go_roundg go
    case measure => omega
    case rel => exact ⟨i + 1, by omega, by go_num, ⟨by rw [HTK.out, HVB.out]; exact HO6.out⟩, BK6, HB6⟩
def newsOf (t : Int) : List S50 → List Bool → List Bool → List S31
 | b :: l, n :: ns, a :: os => if (n == a) = true then newsOf t l ns os else ⟨t, b.f0, n⟩ :: newsOf t l ns os
 | _, _, _ => []
def meantGo (l : List S50) : List Bool → List Bool → List S47 → List S31 → List S31
 | _, _, [], out => out
 | h, ahead, e :: r, out => meantGo l (h.set e.f1.toNat e.f2) (holdsL (h.set e.f1.toNat e.f2) l) r (out ++ newsOf e.f0 l (holdsL (h.set e.f1.toNat e.f2) l) ahead)
def impl_MeantBy.f (k : Nat) (l0 : List S50) (l1 : List S47) : Option (List S31 × Bool) :=
 (impl_GoodBinds.f k l0).bind fun g => if g = true then (impl_areEvents.f k l1).bind fun a => if a = true then
  (if l0.length ≤ 1000 ∧ l1.length ≤ 1000 ∧ (∀ b ∈ l0, ∀ x ∈ b.f1, 0 ≤ x ∧ x < 100) ∧ (∀ e ∈ l1, 0 ≤ e.f1 ∧ e.f1 < 100) then some (meantGo l0 (List.replicate 100 false) (holdsL (List.replicate 100 false) l0) l1 [], true) else none) else some ([], false) else some ([], false)
theorem impl_MeantBy.mono : ∀ a0 a1 k, LeO (impl_MeantBy.f k a0 a1) (impl_MeantBy.f (k + 1) a0 a1) := by
 intro a0 a1 k
 exact LeO.bind (impl_GoodBinds.mono _ _) (fun g => LeO.ite (LeO.bind (impl_areEvents.mono _ _) (fun a => LeO.refl _)) (LeO.refl _))
def impl_MeantBy.T8 : Bool × List (List Nat × List Nat) := (true, [([], []), ([], []), ([1], [1]), ([], []), ([3], [3]), ([0], [0]), ([5, 2, 0, 1, 2, 3, 4], [2, 5]), ([6, 4, 0, 1, 2, 3, 4], [4, 6])])
def impl_MeantBy.B8 : List Nat := [0, 0, 2, 0, 8, 1, 63, 127]
theorem impl_MeantBy.tab8 : rtab .any (opsOf Try.f5 8) = impl_MeantBy.T8 := by kernel_rfl
theorem impl_MeantBy.bits8 : waitsOk impl_MeantBy.T8.2 impl_MeantBy.B8 = true := by kernel_rfl
def impl_MeantBy.T13 : Bool × List (List Nat × List Nat) := (true, [([], []), ([], []), ([0, 1], [0, 1]), ([2], [2]), ([], []), ([], []), ([4, 5], [4, 5]), ([6], [6]), ([3, 7], [3, 7])])
def impl_MeantBy.B13 : List Nat := [0, 0, 3, 7, 0, 0, 48, 112, 255]
theorem impl_MeantBy.tab13 : rtab .any (opsOf Try.f5 13) = impl_MeantBy.T13 := by kernel_rfl
theorem impl_MeantBy.bits13 : waitsOk impl_MeantBy.T13.2 impl_MeantBy.B13 = true := by kernel_rfl
def impl_MeantBy.T14 : Bool × List (List Nat × List Nat) := (true, [([], []), ([], []), ([1], [1]), ([], []), ([3], [3]), ([], []), ([], []), ([5, 6], [5, 6]), ([7], [7]), ([2, 4, 8], [2, 4, 8]), ([9], [9]), ([0, 10], [0, 10]), ([11, 11, 0, 1, 2, 3, 4, 5, 6, 7, 8, 9, 10, 11], [0, 11])])
def impl_MeantBy.B14 : List Nat := [0, 0, 2, 0, 8, 0, 0, 96, 224, 510, 1022, 2047, 4095]
theorem impl_MeantBy.tab14 : rtab .any (opsOf Try.f5 14) = impl_MeantBy.T14 := by kernel_rfl
theorem impl_MeantBy.bits14 : waitsOk impl_MeantBy.T14.2 impl_MeantBy.B14 = true := by kernel_rfl
theorem infoHeld : (Try.prog.info? 43).map (fun i => i.zero) = some (some (.agg ((List.replicate 100 false).map Value.bool).toArray)) := by kernel_rfl
theorem zeroHeld : ∀ W : World, (zeroValue 43).run Try.prog W = .ok (.agg ((List.replicate 100 false).map Value.bool).toArray) W := fun W => by
 obtain ⟨i0, hi, hz⟩ := Option.map_eq_some_iff.1 infoHeld
 unfold zeroValue
 simp [typeInfo, hi, hz]
set_option maxHeartbeats 16000000 in
set_option maxRecDepth 100000 in
theorem impl_MeantBy.calls (k : Nat) (A0 : Option Addr) (c0 : Nat) (l0 : List (S50)) (A1 : Option Addr) (c1 : Nat) (l1 : List (S47)) (r1 : List S31) (r2 : Bool) (w : World) (hr0 : Kd.C k50 w A0 l0.length l0) (hc0 : l0.length ≤ c0) (hr1 : Kd.C k47 w A1 l1.length l1) (hc1 : l1.length ≤ c1) (h : impl_MeantBy.f k l0 l1 = some (r1, r2)) :
  Calls Try.prog 5 #[.slice A0 l0.length c0, .slice A1 l1.length c1] w fun e w' => ∃ v0_ : Value, e = .returned (.tuple #[v0_, .bool r2]) ∧ Kd.R k31 31 w' w.heap.size (fun _ => True) v0_ r1 ∧ Below w.heap.size w w' := by
 have hu50 := Try.underlying50
 have hu47 := Try.underlying47
 obtain ⟨g, hg, h⟩ := Option.bind_eq_some_iff.mp h
 have HGd := Aside0.mk hg
 have HR0 := Aside0.mk hr0
 have HC0 := Aside0.mk hc0
 have HR1 := Aside0.mk hr1
 have HC1 := Aside0.mk hc1
 clear hg hr0 hc0 hr1 hc1
 cases g with
 | false =>
  obtain ⟨rfl, rfl⟩ := Prod.mk.inj (Option.some.inj h)
  clear h
  go_enter Try.func5, Try.ntmps5
  go_wp2_with (first | (go_at_call 9; refine (impl_GoodBinds.calls k _ c0 l0 false _ HR0.out HC0.out HGd.out).mono ?_; rintro e w1 ⟨rfl, hb⟩; have HB := Aside0.mk hb; clear hb))
  go_ret2
  exact ⟨_, rfl, Kd.R_nil _ _ _ _ _, HB.out⟩
 | true =>
  obtain ⟨a, ha, h⟩ := Option.bind_eq_some_iff.mp h
  have HEv := Aside0.mk ha
  clear ha
  cases a with
  | false =>
   obtain ⟨rfl, rfl⟩ := Prod.mk.inj (Option.some.inj h)
   clear h
   go_enter Try.func5, Try.ntmps5
   go_wp2_with (first
    | (go_at_call 9; refine (impl_GoodBinds.calls k _ c0 l0 true _ HR0.out HC0.out HGd.out).mono ?_; rintro e w1 ⟨rfl, hb⟩; have HB := Aside0.mk hb; clear hb HGd)
    | (go_at_call 10; refine (impl_areEvents.calls k _ c1 l1 false _ (Kd.C_below HR1.out HB.out) HC1.out HEv.out).mono ?_; rintro e w2 ⟨rfl, hb⟩; have HB2 := Aside0.mk (below_step HB.out hb); clear hb HB))
   go_ret2
   exact ⟨_, rfl, Kd.R_nil _ _ _ _ _, HB2.out⟩
  | true =>
   rw [if_pos rfl] at h
   split at h
   case isFalse => cases h
   rename_i hall
   obtain ⟨rres, hres⟩ : ∃ r, r = meantGo l0 (List.replicate 100 false) (holdsL (List.replicate 100 false) l0) l1 [] := ⟨_, rfl⟩
   rw [← hres] at h
   obtain ⟨rfl, rfl⟩ := Prod.mk.inj (Option.some.inj h)
   have HAll := Aside0.mk hall
   have HRes := Aside0.mk hres.symm
   have hmx : l0.length ≤ 1000 := hall.1
   have hmx1 : l1.length ≤ 1000 := hall.2.1
   clear h hall hres
   have hz : ∀ W : World, (zeroValue 43).run Try.prog W = .ok (.agg ((List.replicate 100 false).map Value.bool).toArray) W := zeroHeld
   go_enter Try.func5, Try.ntmps5
   go_wp2_with (first
    | (go_at_call 9; refine (impl_GoodBinds.calls k _ c0 l0 true _ HR0.out HC0.out HGd.out).mono ?_; rintro e w1 ⟨rfl, hb⟩; have HB := Aside0.mk hb; clear hb HGd)
    | (go_at_call 10; refine (impl_areEvents.calls k _ c1 l1 true _ (Kd.C_below HR1.out HB.out) HC1.out HEv.out).mono ?_; rintro e w2 ⟨rfl, hb⟩; have HB2 := Aside0.mk (below_step HB.out hb); clear hb HB)
    | ((with_reducible refine gate_dst (N := 23) rfl ?_); refine box_event rfl (N := 23) rfl (cs := ((List.replicate 100 false).map Value.bool).toArray) (t := 43) sE ?_; intro gA hg w3 hbox hb; have HA := Aside0.mk (show Hd.Is w3 gA (List.replicate 100 false) from ⟨rfl, hbox⟩); have HGA := Aside0.mk (show w.heap.size ≤ gA by rw [hg]; exact HB2.out.size); have HB3 := Aside0.mk (below_step HB2.out hb); clear hb hbox hg HB2)
    | ((with_reducible refine gate_dst (N := 24) rfl ?_); refine Kd.R_lit k31 _ 31 ?hg (N := 24) ?hd (xs := ([] : List S31)) (inner := []) (ok := fun _ => True) (okp := fun _ => False) ?hr ?hp (fun _ hk => hk.elim) trivial (Below.refl _ _) (Nat.le_refl _) (by simp) ?_; (case hd => rfl); (case hg => rfl); (case hr => exact sE); (case hp => exact (Reps.none _ _)); intro v0 w4 ho hb hg_ hnew_; have HO := Aside0.mk (show Kd.R k31 31 w4 w.heap.size (fun _ => True) v0 [] from Kd.R_lower ho (below_size HB3.out)); have HA4 := Aside0.mk (HA.out.keep hb); have HB4 := Aside0.mk (below_step HB3.out hb); clear ho hb hg_ hnew_ HA HB3)
    | (go_at_call 11; refine (holds_calls gA (List.replicate 100 false) A0 c0 l0 w4 HA4.out (Kd.C_below HR0.out HB4.out) HC0.out HAll.out.1 HAll.out.2.2.1).mono ?_; rintro e w5 ⟨v8, rfl, ho, hb⟩; have HH := Aside0.mk (Kd.R_lower ho (below_size HB4.out)); have HO5 := Aside0.mk (Kd.R_below HO.out hb); have HA5 := Aside0.mk (HA4.out.keep hb); have HB5 := Aside0.mk (below_step HB4.out hb); clear ho hb HO HA4 HB4))
   have HL := Aside0.mk (show (holdsL (List.replicate 100 false) l0).length = l0.length by unfold holdsL; rw [List.length_map])
   go_loopg [7, 8, 30] l1.length (fun gk v7 v8 v30 wx => ∃ (i : Nat) (h ahead : List Bool) (out : List S31), i + gk = l1.length ∧ v30 = .int .i64 (i : Nat) ∧ Aside0 (ahead.length = l0.length) ∧ Aside0 (out.length ≤ i * 1000) ∧ Aside0 (Hd.Is wx gA h) ∧ Aside0 (Kd.R Kd.bool 4 wx w.heap.size (fun _ => True) v8 ahead) ∧ Aside0 (Kd.R k31 31 wx w.heap.size (fun _ => True) v7 out) ∧ Aside0 (Below w.heap.size w wx) ∧ Aside0 (meantGo l0 h ahead (l1.drop i) out = rres))
   case atStart => exact ⟨0, _, _, [], by omega, rfl, HL, ⟨by simp⟩, HA5, HH, HO5, HB5, HRes⟩
   case round =>
    clear HL HA5 HH HO5 HB5 HRes
    obtain ⟨i, h, ahead, out, hig, rfl, HL, HOL, HA, HH, HO, HB, HRes⟩ := hrel
    obtain ⟨wo, rfl⟩ : ∃ x, x = wr := ⟨_, rfl⟩
    cases gk with
    | zero =>
     obtain rfl : i = l1.length := by omega
     have hn : ¬ ((l1.length : Int) < (l1.length : Int)) := by omega
     have hR := HRes.out
     rw [List.drop_length] at hR
     have hR2 : out = rres := hR
     subst hR2
     clear hR HRes
     go_wp2
     go_ret2
     exact ⟨_, rfl, HO.out, HB.out⟩
    | succ go =>
     have hil : i < l1.length := by omega
     have hlt : (i : Int) < (l1.length : Int) := by omega
     have h0 : (0 : Int) ≤ (i : Int) := by omega
     obtain ⟨e, he⟩ : ∃ e, e = l1[i] := ⟨_, rfl⟩
     have hmem : e ∈ l1 := by rw [he]; exact List.getElem_mem hil
     have hke := HAll.out.2.2.2 e hmem
     have hR := HRes.out
     rw [List.drop_eq_getElem_cons hil, ← he] at hR
     unfold meantGo at hR
     have hrd : rd_T47 l1 (i : Int) = e := by rw [he]; simp [rd_T47, List.getD_eq_getElem?_getD, hil]
     obtain ⟨a1, e1, hx0, hx1, hx2⟩ := at_T47 HR1.out (i : Int) h0 hlt
     cases e1
     rw [hrd] at hx0 hx1 hx2
     rw [Int.toNat_natCast] at hx0 hx1 hx2
     replace hx0 := (HB.out.cell (World.block_lt_of_cell? _ _ hx0)).trans hx0
     replace hx1 := (HB.out.cell (World.block_lt_of_cell? _ _ hx1)).trans hx1
     replace hx2 := (HB.out.cell (World.block_lt_of_cell? _ _ hx2)).trans hx2
     obtain ⟨kn, hkn⟩ : ∃ n, n = e.f1.toNat := ⟨_, rfl⟩
     have hke2 : e.f1 = (kn : Int) := by omega
     have hkb : kn < 100 := by omega
     obtain ⟨h', hh'⟩ : ∃ x, x = h.set kn e.f2 := ⟨_, rfl⟩
     obtain ⟨now, hnow⟩ : ∃ x, x = holdsL h' l0 := ⟨_, rfl⟩
     obtain ⟨out2, hout2⟩ : ∃ x, x = out ++ newsOf e.f0 l0 now ahead := ⟨_, rfl⟩
     rw [← hkn, ← hh', ← hnow, ← hout2] at hR
     rw [hke2] at hx1
     have HR2 := Aside0.mk hR
     have HH' := Aside0.mk hh'
     have HNow := Aside0.mk hnow
     have HOut2 := Aside0.mk hout2
     have HAc := Aside0.mk (HA.out.cell kn hkb)
     clear hR HRes hmem hke he hrd hkn hh' hnow hout2 hke2
     obtain ⟨Ad, cd, rfl⟩ := Kd.R_slice HO.out
     obtain ⟨A8, c8, rfl⟩ := Kd.R_slice HH.out
     go_wp2_with (first
      | ((with_reducible refine gate_dst (N := 10) rfl ?_); refine box_event rfl (N := 10) rfl (cs := #[.int .i64 0, .int .i64 0, .bool false]) (t := 47) sE ?_; intro gE hg w6 hbox hb; have HGE := Aside0.mk (show w.heap.size ≤ gE by rw [hg]; exact HB.out.size); have HO2 := Aside0.mk (Kd.R_below HO.out hb); have HH2 := Aside0.mk (Kd.R_below HH.out hb); have HA2 := Aside0.mk (HA.out.keep hb); have HB2 := Aside0.mk (below_step HB.out hb); have BE := Aside0.mk hbox; have HNE := Aside0.mk (show gA ≠ gE by have h_ := blk_lt HA.out.2; omega); have hcz0 : w6.cell? ⟨gE, 0, none⟩ = some (.int .i64 0) := (blk_cell hbox 0).trans rfl; have hcz1 : w6.cell? ⟨gE, 1, none⟩ = some (.int .i64 0) := (blk_cell hbox 1).trans rfl; have hcz2 : w6.cell? ⟨gE, 2, none⟩ = some (.bool false) := (blk_cell hbox 2).trans rfl; have hfz0 := blk_frozen hbox 0; have hfz1 := blk_frozen hbox 1; have hfz2 := blk_frozen hbox 2; clear hbox hb hg HO HH HA HB)
      | ((with_reducible refine gate_store (t := 47) (p := 10) rfl ?_); refine store_event (t := 47) (p := 10) (v := ?vo) (w1 := (((w6.setCell ⟨gE, 0, none⟩ (.int .i64 e.f0)).setCell ⟨gE, 1, none⟩ (.int .i64 (kn : Nat))).setCell ⟨gE, 2, none⟩ (.bool e.f2))) ?hg ?ho ?hn ?hr ?_; (case ho => rfl); (case hg => rfl); (case hn => rfl); (case hr => exact sE); intro w7 hw; have HO3 := Aside0.mk (show Kd.R k31 31 w7 w.heap.size (fun _ => True) (.slice Ad out.length cd) out by rw [hw]; exact Kd.R_set (Kd.R_set (Kd.R_set HO2.out BE.out (by decide) 0 _) (blk_set BE.out 0 _) (by decide) 1 _) (blk_set (blk_set BE.out 0 _) 1 _) (by decide) 2 _); have HH3 := Aside0.mk (show Kd.R Kd.bool 4 w7 w.heap.size (fun _ => True) (.slice A8 ahead.length c8) ahead by rw [hw]; exact Kd.R_set (Kd.R_set (Kd.R_set HH2.out BE.out (by decide) 0 _) (blk_set BE.out 0 _) (by decide) 1 _) (blk_set (blk_set BE.out 0 _) 1 _) (by decide) 2 _); have HA3 := Aside0.mk (show Hd.Is w7 gA h from ⟨HA2.out.1, by rw [hw]; exact (Below.heap_setCell _ _ _ gA HNE.out).trans ((Below.heap_setCell _ _ _ gA HNE.out).trans ((Below.heap_setCell _ _ _ gA HNE.out).trans HA2.out.2))⟩); have HB3 := Aside0.mk (show Below w.heap.size w w7 by rw [hw]; exact below_set (below_set (below_set HB2.out HGE.out) HGE.out) HGE.out); have BE3 := Aside0.mk (show w7.heap[gE]? = some (.cells #[.int .i64 e.f0, .int .i64 (kn : Nat), .bool e.f2] 47 (0, 0)) by rw [hw]; exact blk_put (cs := #[.int .i64 e.f0, .int .i64 (kn : Nat), .bool false]) (blk_put (cs := #[.int .i64 e.f0, .int .i64 0, .bool false]) (blk_put (cs := #[.int .i64 0, .int .i64 0, .bool false]) BE.out 0 _ rfl) 1 _ rfl) 2 _ rfl); clear hw HO2 HH2 HA2 HB2 BE hcz0 hcz1 hcz2 hfz0 hfz1 hfz2))
     have hk0 : (0 : Int) ≤ (kn : Int) := by omega
     have hk1 : (kn : Int) < 100 := by omega
     refine start_ (n := 8) (S := fun w' => w'.cell? ⟨gE, 1, none⟩ = some (.int .i64 (kn : Nat)) ∧ w'.cell? ⟨gE, 2, none⟩ = some (.bool e.f2)) (ds := [7]) #[false, false, false, false, false, false, false, false] (by kernel_rfl) rfl rfl ⟨(blk_cell BE3.out 1).trans rfl, (blk_cell BE3.out 2).trans rfl⟩ (fun hHeld => ?_); refine with_tabW impl_MeantBy.tab8 impl_MeantBy.bits8 (fun HT_ HW_ => ?_)
     have HO4 := Aside0.mk (Kd.R_drew HO3.out)
     have HH4 := Aside0.mk (Kd.R_drew HH3.out)
     have HA4 := Aside0.mk (show Hd.Is w7.drew gA h from ⟨HA3.out.1, blk_drew HA3.out.2⟩)
     have BE4 := Aside0.mk (blk_drew BE3.out)
     have HB4 := Aside0.mk (below_drew1 HB3.out)
     clear HO3 HH3 HA3 HB3 BE3
     generalize w7.drew = w8 at HO4 HH4 HA4 HB4 BE4 hHeld ⊢
     have hcA := HA4.out.cell kn hkb
     have hfA := blk_frozen HA4.out.2 kn
     refine pureA 0 34 (bz 8 1) rfl rfl (any_of HT_.out (by kernel_rfl)) ?_
     refine pureA 1 35 (bz 8 3) rfl rfl (any_of HT_.out (by kernel_rfl)) ?_
     refine pureA 3 37 (bz 8 11) rfl rfl (any_of HT_.out (by kernel_rfl)) ?_
     refine pureA 5 39 (bz 8 43) rfl rfl (any_of HT_.out (by kernel_rfl)) ?_
     refine takeA 2 36 (bz 8 47) rfl rfl (take_ofW HT_.out HW_.out (by kernel_rfl)) hHeld (by rintro w' ⟨s0, s1⟩; go_simp; with_reducible rfl) ?_
     refine takeA 4 38 (bz 8 63) rfl rfl (take_ofW HT_.out HW_.out (by kernel_rfl)) hHeld (by rintro w' ⟨s0, s1⟩; go_simp; with_reducible rfl) ?_
     refine pureA 6 40 (bz 8 127) rfl rfl (any_of HT_.out (by kernel_rfl)) ?_
     refine last_ (i := 7) (N := none) (bz 8 255) rfl rfl (one_of HT_.out (by kernel_rfl)) (by decide) (fun K hK => ?_)
     refine skip_ (w1 := ?_) (by rfl) rfl ?_ ?_
     rotate_left
     ·go_simp
      rfl
     refine hK.out _ _ ?_
     clear hK K
     refine done_ (done_of HT_.out (by kernel_rfl)) ?_
     have HA5 := Aside0.mk (show Hd.Is (w8.setCell ⟨gA, kn, none⟩ (.bool e.f2)) gA h' by rw [HH'.out]; exact HA4.out.set kn e.f2)
     have HO5 := Aside0.mk (Kd.R_set HO4.out HA4.out.2 (by decide) kn (.bool e.f2))
     have HH5 := Aside0.mk (Kd.R_set HH4.out HA4.out.2 (by decide) kn (.bool e.f2))
     have HB5 := Aside0.mk (below_set (j := kn) (v := .bool e.f2) HB4.out HGA.out)
     have BE5 := Aside0.mk (show (w8.setCell ⟨gA, kn, none⟩ (.bool e.f2)).heap[gE]? = _ from (Below.heap_setCell w8 ⟨gA, kn, none⟩ (.bool e.f2) gE (fun h_ => HNE.out h_.symm)).trans BE4.out)
     clear HO4 HH4 HA4 HB4 BE4 hHeld HT_ HW_ hcA hfA
     generalize w8.setCell ⟨gA, kn, none⟩ (.bool e.f2) = w9 at HA5 HO5 HH5 HB5 BE5 ⊢
     go_wp2_with (first
      | (go_at_call 11; refine (holds_calls gA h' A0 c0 l0 w9 HA5.out (Kd.C_below HR0.out HB5.out) HC0.out HAll.out.1 HAll.out.2.2.1).mono ?_; rintro e_ w10 ⟨v11, rfl, ho, hb⟩; rw [← HNow.out] at ho; have HN6 := Aside0.mk (Kd.R_lower ho (below_size HB5.out)); have HO6 := Aside0.mk (Kd.R_below HO5.out hb); have HH6 := Aside0.mk (Kd.R_below HH5.out hb); have HA6 := Aside0.mk (HA5.out.keep hb); have BE6 := Aside0.mk (blk_below BE5.out hb); have HB6 := Aside0.mk (below_step HB5.out hb); clear ho hb HO5 HH5 HA5 BE5 HB5))
     have HLN := Aside0.mk (show now.length = l0.length by rw [HNow.out]; unfold holdsL; rw [List.length_map])
     obtain ⟨An, cn, rfl⟩ := Kd.R_slice HN6.out
     go_loopg [7, 46] l0.length (fun gk v7 v46 wx => ∃ (j : Nat) (o2 : List S31), j + gk = l0.length ∧ v46 = .int .i64 (j : Nat) ∧ Aside0 (o2.length ≤ i * 1000 + j) ∧ Aside0 (Hd.Is wx gA h') ∧ Aside0 (Kd.R Kd.bool 4 wx w.heap.size (fun _ => True) (.slice A8 ahead.length c8) ahead) ∧ Aside0 (Kd.R Kd.bool 4 wx w.heap.size (fun _ => True) (.slice An now.length cn) now) ∧ Aside0 (Kd.R k31 31 wx w.heap.size (fun _ => True) v7 o2) ∧ Aside0 (wx.heap[gE]? = some (.cells #[.int .i64 e.f0, .int .i64 (kn : Nat), .bool e.f2] 47 (0, 0))) ∧ Aside0 (Below w.heap.size w wx) ∧ Aside0 (o2 ++ newsOf e.f0 (l0.drop j) (now.drop j) (ahead.drop j) = out2))
     case atStart => exact ⟨0, out, by omega, rfl, ⟨by have := HOL.out; omega⟩, HA6, HH6, HN6, HO6, BE6, HB6, ⟨HOut2.out.symm⟩⟩
     case round =>
      clear HA6 HH6 HN6 HO6 BE6 HB6
      obtain ⟨j, o2, hjg, rfl, HOL2, HA, HH, HN, HO, BE, HB, HE⟩ := hrel
      obtain ⟨wp, rfl⟩ : ∃ x, x = wr := ⟨_, rfl⟩
      cases gk with
      | zero =>
       obtain rfl : j = l0.length := by omega
       have hn : ¬ ((l0.length : Int) < (l0.length : Int)) := by omega
       have hE := HE.out
       rw [List.drop_length] at hE
       have hE2 : o2 = out2 := by rw [← hE]; unfold newsOf; simp
       subst hE2
       clear hE HE
       go_wp2
       go_roundg go
       case measure => omega
       case rel => exact ⟨i + 1, h', now, o2, by omega, by go_num, HLN, ⟨by have := HOL2.out; omega⟩, HA, HN, HO, HB, HR2⟩
      | succ go2 =>
       have hjl : j < l0.length := by omega
       have hjlt : (j : Int) < (l0.length : Int) := by omega
       have hj0 : (0 : Int) ≤ (j : Int) := by omega
       have hjn : (j : Int) < (now.length : Int) := by rw [HLN.out]; exact hjlt
       have hja : (j : Int) < (ahead.length : Int) := by rw [HL.out]; exact hjlt
       obtain ⟨b, hb_⟩ : ∃ b, b = l0[j] := ⟨_, rfl⟩
       obtain ⟨n, hn_⟩ : ∃ n, n = now[j]'(by rw [HLN.out]; exact hjl) := ⟨_, rfl⟩
       obtain ⟨a, ha_⟩ : ∃ a, a = ahead[j]'(by rw [HL.out]; exact hjl) := ⟨_, rfl⟩
       have hE := HE.out
       rw [List.drop_eq_getElem_cons hjl, List.drop_eq_getElem_cons (show j < now.length by rw [HLN.out]; exact hjl), List.drop_eq_getElem_cons (show j < ahead.length by rw [HL.out]; exact hjl), ← hb_, ← hn_, ← ha_] at hE
       unfold newsOf at hE
       have HE2 := Aside0.mk hE
       have hrdb : rd_T50 l0 (j : Int) = b := by rw [hb_]; simp [rd_T50, List.getD_eq_getElem?_getD, hjl]
       have hrdn : rdOf false now (j : Int) = n := by rw [hn_]; simp [rdOf, List.getD_eq_getElem?_getD, HLN.out, hjl]
       have hrda : rdOf false ahead (j : Int) = a := by rw [ha_]; simp [rdOf, List.getD_eq_getElem?_getD, HL.out, hjl]
       obtain ⟨ab, Ab1, cb1, eb, hx0, hx1, hlb, hCb⟩ := at_T50 HR0.out (j : Int) hj0 hjlt
       cases eb
       rw [hrdb] at hx0 hx1
       rw [Int.toNat_natCast] at hx0 hx1
       replace hx0 := (HB.out.cell (World.block_lt_of_cell? _ _ hx0)).trans hx0
       replace hx1 := (HB.out.cell (World.block_lt_of_cell? _ _ hx1)).trans hx1
       obtain ⟨lb, hlb_⟩ : ∃ x, x = (rd_T50 l0 (j : Int)).f1.length := ⟨_, rfl⟩
       rw [hrdb] at hlb_
       rw [← hlb_] at hx1
       clear hb_ hn_ ha_ hE HE hrdb hlb hCb hlb_
       obtain ⟨Ad2, cd2, rfl⟩ := Kd.R_slice HO.out
       go_wp2_with (first
        | ((with_reducible refine gate_dst (N := 13) rfl ?_); refine box_event rfl (N := 13) rfl (cs := #[.string ⟨#[]⟩, .slice none 0 0]) (t := 50) sE ?_; intro gB hg w11 hbox hb; have HGB := Aside0.mk (show w.heap.size ≤ gB by rw [hg]; exact HB.out.size); have HO2 := Aside0.mk (Kd.R_below HO.out hb); have HH2 := Aside0.mk (Kd.R_below HH.out hb); have HN2 := Aside0.mk (Kd.R_below HN.out hb); have HA2 := Aside0.mk (HA.out.keep hb); have BE2 := Aside0.mk (blk_below BE.out hb); have HB2 := Aside0.mk (below_step HB.out hb); have BV := Aside0.mk hbox; have HNB := Aside0.mk (show gA ≠ gB ∧ gE ≠ gB by have h1_ := blk_lt HA.out.2; have h2_ := blk_lt BE.out; omega); have hcz0 : w11.cell? ⟨gB, 0, none⟩ = some (.string ⟨#[]⟩) := (blk_cell hbox 0).trans rfl; have hcz1 : w11.cell? ⟨gB, 1, none⟩ = some (.slice none 0 0) := (blk_cell hbox 1).trans rfl; have hfz0 := blk_frozen hbox 0; have hfz1 := blk_frozen hbox 1; clear hbox hb hg HO HH HN HA BE HB)
        | ((with_reducible refine gate_store (t := 50) (p := 13) rfl ?_); refine store_event (t := 50) (p := 13) (v := ?vo2) (w1 := ((w11.setCell ⟨gB, 0, none⟩ (.string b.f0)).setCell ⟨gB, 1, none⟩ (.slice Ab1 lb cb1))) ?hg ?ho ?hn ?hr ?_; (case ho => rfl); (case hg => rfl); (case hn => rfl); (case hr => exact sE); intro w12 hw; have HO3 := Aside0.mk (show Kd.R k31 31 w12 w.heap.size (fun _ => True) (.slice Ad2 o2.length cd2) o2 by rw [hw]; exact Kd.R_set (Kd.R_set HO2.out BV.out (by decide) 0 _) (blk_set BV.out 0 _) (by decide) 1 _); have HH3 := Aside0.mk (show Kd.R Kd.bool 4 w12 w.heap.size (fun _ => True) (.slice A8 ahead.length c8) ahead by rw [hw]; exact Kd.R_set (Kd.R_set HH2.out BV.out (by decide) 0 _) (blk_set BV.out 0 _) (by decide) 1 _); have HN3 := Aside0.mk (show Kd.R Kd.bool 4 w12 w.heap.size (fun _ => True) (.slice An now.length cn) now by rw [hw]; exact Kd.R_set (Kd.R_set HN2.out BV.out (by decide) 0 _) (blk_set BV.out 0 _) (by decide) 1 _); have HA3 := Aside0.mk (show Hd.Is w12 gA h' from ⟨HA2.out.1, by rw [hw]; exact (Below.heap_setCell _ _ _ gA HNB.out.1).trans ((Below.heap_setCell _ _ _ gA HNB.out.1).trans HA2.out.2)⟩); have BE3 := Aside0.mk (show w12.heap[gE]? = some (.cells #[.int .i64 e.f0, .int .i64 (kn : Nat), .bool e.f2] 47 (0, 0)) by rw [hw]; exact (Below.heap_setCell _ _ _ gE HNB.out.2).trans ((Below.heap_setCell _ _ _ gE HNB.out.2).trans BE2.out)); have HB3 := Aside0.mk (show Below w.heap.size w w12 by rw [hw]; exact below_set (below_set HB2.out HGB.out) HGB.out); have BV3 := Aside0.mk (show w12.heap[gB]? = some (.cells #[.string b.f0, .slice Ab1 lb cb1] 50 (0, 0)) by rw [hw]; exact blk_put (cs := #[.string b.f0, .slice none 0 0]) (blk_put (cs := #[.string ⟨#[]⟩, .slice none 0 0]) BV.out 0 _ rfl) 1 _ rfl); clear hw HO2 HH2 HN2 HA2 BE2 HB2 BV hcz0 hcz1 hfz0 hfz1))
       obtain ⟨ad1, e1_, hq1⟩ := Kd.at_bool (Kd.R_reads' HN3.out).2.2 (j : Int) hj0 hjn
       cases e1_
       obtain ⟨ad2, e2_, hq2⟩ := Kd.at_bool (Kd.R_reads' HH3.out).2.2 (j : Int) hj0 hja
       cases e2_
       rw [hrdn, Int.toNat_natCast] at hq1
       rw [hrda, Int.toNat_natCast] at hq2
       clear hrdn hrda
       by_cases hc : (n == a) = true
       ·have hE := HE2.out
        rw [if_pos hc] at hE
        have HE3 := Aside0.mk hE
        have hcn : (!(n == a)) = false := by rw [hc]; rfl
        have hcn2 : (n != a) = false := hcn
        clear hE HE2
        refine start_ (n := 9) (S := fun w' => w'.cell? (ad1.add j) = some (.bool n) ∧ w'.cell? (ad2.add j) = some (.bool a)) (ds := []) #[false, false, false, false, false, false, false, false, false] (by kernel_rfl) rfl rfl ⟨hq1, hq2⟩ (fun hHeld => ?_); refine with_tabW impl_MeantBy.tab13 impl_MeantBy.bits13 (fun HT_ HW_ => ?_)
        replace HO3 := Aside0.mk (Kd.R_drew HO3.out)
        replace HH3 := Aside0.mk (Kd.R_drew HH3.out)
        replace HN3 := Aside0.mk (Kd.R_drew HN3.out)
        replace HA3 := Aside0.mk (show Hd.Is w12.drew gA h' from ⟨HA3.out.1, blk_drew HA3.out.2⟩)
        replace BE3 := Aside0.mk (blk_drew BE3.out)
        replace BV3 := Aside0.mk (blk_drew BV3.out)
        replace HB3 := Aside0.mk (below_drew1 HB3.out)
        replace hq1 : w12.drew.cell? (ad1.add j) = some (.bool n) := hq1
        generalize w12.drew = w13 at HO3 HH3 HN3 HA3 BE3 BV3 HB3 hq1 hHeld ⊢
        refine pureA 0 51 (bz 9 1) rfl rfl (any_of HT_.out (by kernel_rfl)) ?_
        refine pureA 1 52 (bz 9 3) rfl rfl (any_of HT_.out (by kernel_rfl)) ?_
        refine pureA 2 53 (bz 9 7) rfl rfl (any_of HT_.out (by kernel_rfl)) ?_
        refine pureA 4 55 (bz 9 23) rfl rfl (any_of HT_.out (by kernel_rfl)) ?_
        refine pureA 5 56 (bz 9 55) rfl rfl (any_of HT_.out (by kernel_rfl)) ?_
        refine pureA 6 57 (bz 9 119) rfl rfl (any_of HT_.out (by kernel_rfl)) ?_
        refine takeA 3 54 (bz 9 127) rfl rfl (take_ofW HT_.out HW_.out (by kernel_rfl)) hHeld (by rintro w' ⟨s0, s1⟩; go_simp; with_reducible rfl) ?_
        refine takeA 7 58 (bz 9 255) rfl rfl (take_ofW HT_.out HW_.out (by kernel_rfl)) hHeld (by rintro w' ⟨s0, s1⟩; go_simp; with_reducible rfl) ?_
        refine pureA 8 59 (bz 9 511) rfl rfl (any_of HT_.out (by kernel_rfl)) ?_
        refine done_ (done_of HT_.out (by kernel_rfl)) ?_
        clear hHeld HT_ HW_
        go_wp2
        go_roundg go2
        case measure => omega
        case rel => exact ⟨j + 1, o2, by omega, by go_num, ⟨by have := HOL2.out; omega⟩, HA3, HH3, HN3, HO3, BE3, HB3, HE3⟩
       ·have hcf : (n == a) = false := Bool.eq_false_iff.mpr hc
        have hE := HE2.out
        rw [if_neg hc] at hE
        have HE3 := Aside0.mk hE
        have hcn : (!(n == a)) = true := by rw [hcf]; rfl
        have hcn2 : (n != a) = true := hcn
        clear hE HE2 hc
        refine start_ (n := 9) (S := fun w' => w'.cell? (ad1.add j) = some (.bool n) ∧ w'.cell? (ad2.add j) = some (.bool a)) (ds := []) #[false, false, false, false, false, false, false, false, false] (by kernel_rfl) rfl rfl ⟨hq1, hq2⟩ (fun hHeld => ?_); refine with_tabW impl_MeantBy.tab13 impl_MeantBy.bits13 (fun HT_ HW_ => ?_)
        replace HO3 := Aside0.mk (Kd.R_drew HO3.out)
        replace HH3 := Aside0.mk (Kd.R_drew HH3.out)
        replace HN3 := Aside0.mk (Kd.R_drew HN3.out)
        replace HA3 := Aside0.mk (show Hd.Is w12.drew gA h' from ⟨HA3.out.1, blk_drew HA3.out.2⟩)
        replace BE3 := Aside0.mk (blk_drew BE3.out)
        replace BV3 := Aside0.mk (blk_drew BV3.out)
        replace HB3 := Aside0.mk (below_drew1 HB3.out)
        replace hq1 : w12.drew.cell? (ad1.add j) = some (.bool n) := hq1
        generalize w12.drew = w13 at HO3 HH3 HN3 HA3 BE3 BV3 HB3 hq1 hHeld ⊢
        refine pureA 0 51 (bz 9 1) rfl rfl (any_of HT_.out (by kernel_rfl)) ?_
        refine pureA 1 52 (bz 9 3) rfl rfl (any_of HT_.out (by kernel_rfl)) ?_
        refine pureA 2 53 (bz 9 7) rfl rfl (any_of HT_.out (by kernel_rfl)) ?_
        refine pureA 4 55 (bz 9 23) rfl rfl (any_of HT_.out (by kernel_rfl)) ?_
        refine pureA 5 56 (bz 9 55) rfl rfl (any_of HT_.out (by kernel_rfl)) ?_
        refine pureA 6 57 (bz 9 119) rfl rfl (any_of HT_.out (by kernel_rfl)) ?_
        refine takeA 3 54 (bz 9 127) rfl rfl (take_ofW HT_.out HW_.out (by kernel_rfl)) hHeld (by rintro w' ⟨s0, s1⟩; go_simp; with_reducible rfl) ?_
        refine takeA 7 58 (bz 9 255) rfl rfl (take_ofW HT_.out HW_.out (by kernel_rfl)) hHeld (by rintro w' ⟨s0, s1⟩; go_simp; with_reducible rfl) ?_
        refine pureA 8 59 (bz 9 511) rfl rfl (any_of HT_.out (by kernel_rfl)) ?_
        refine done_ (done_of HT_.out (by kernel_rfl)) ?_
        clear hHeld HT_ HW_
        go_wp2
        refine start_ (n := 13) (S := fun w' => w'.cell? ⟨gE, 0, none⟩ = some (.int .i64 e.f0) ∧ w'.cell? ⟨gB, 0, none⟩ = some (.string b.f0) ∧ w'.cell? (ad1.add j) = some (.bool n)) (ds := [10, 11]) #[false, false, false, false, false, false, false, false, false, false, false, false, false] (by kernel_rfl) rfl rfl ⟨(blk_cell BE3.out 0).trans rfl, (blk_cell BV3.out 0).trans rfl, hq1⟩ (fun hHeld => ?_); refine with_tabW impl_MeantBy.tab14 impl_MeantBy.bits14 (fun HT_ HW_ => ?_)
        replace HO3 := Aside0.mk (Kd.R_drew HO3.out)
        replace HH3 := Aside0.mk (Kd.R_drew HH3.out)
        replace HN3 := Aside0.mk (Kd.R_drew HN3.out)
        replace HA3 := Aside0.mk (show Hd.Is w13.drew gA h' from ⟨HA3.out.1, blk_drew HA3.out.2⟩)
        replace BE3 := Aside0.mk (blk_drew BE3.out)
        replace HB3 := Aside0.mk (below_drew1 HB3.out)
        clear hq1 BV3
        generalize w13.drew = w14 at HO3 HH3 HN3 HA3 BE3 HB3 hHeld ⊢
        refine pureA 0 60 (bz 13 1) rfl rfl (any_of HT_.out (by kernel_rfl)) ?_
        refine pureA 1 61 (bz 13 3) rfl rfl (any_of HT_.out (by kernel_rfl)) ?_
        refine pureA 3 63 (bz 13 11) rfl rfl (any_of HT_.out (by kernel_rfl)) ?_
        refine pureA 5 65 (bz 13 43) rfl rfl (any_of HT_.out (by kernel_rfl)) ?_
        refine pureA 6 66 (bz 13 107) rfl rfl (any_of HT_.out (by kernel_rfl)) ?_
        refine pureA 7 67 (bz 13 235) rfl rfl (any_of HT_.out (by kernel_rfl)) ?_
        refine takeA 2 62 (bz 13 239) rfl rfl (take_ofW HT_.out HW_.out (by kernel_rfl)) hHeld (by rintro w' ⟨s0, s1, s2⟩; go_simp; with_reducible rfl) ?_
        refine takeA 4 64 (bz 13 255) rfl rfl (take_ofW HT_.out HW_.out (by kernel_rfl)) hHeld (by rintro w' ⟨s0, s1, s2⟩; go_simp; with_reducible rfl) ?_
        refine takeA 8 68 (bz 13 511) rfl rfl (take_ofW HT_.out HW_.out (by kernel_rfl)) hHeld (by rintro w' ⟨s0, s1, s2⟩; go_simp; with_reducible rfl) ?_
        refine pureA 9 69 (bz 13 1023) rfl rfl (any_of HT_.out (by kernel_rfl)) ?_
        refine last_ (i := 10) (N := some 70) (bz 13 2047) rfl rfl (one_of HT_.out (by kernel_rfl)) (by decide) (fun K hK => ?_)
        refine value_ (w1 := ?_) (v := ?_) (by rfl) rfl ?_ ?_
        rotate_left 2
        ·go_simp
         constructor
         ·rfl
         ·rfl
        refine hK.out _ _ ?_
        clear hK K
        refine norm_ (a' := ?_) ?_ ?_
        rotate_left
        ·show Act.put _ (some 70) _ = _
         simp only [Act.put, List.setIfInBounds_toArray, List.set_cons_zero, List.set_cons_succ, i64_w, i32_w]
         rfl
        refine last_ (i := 11) (N := some 71) (bz 13 4095) rfl rfl (one_of HT_.out (by kernel_rfl)) (by decide) (fun K hK => ?_)
        refine Kd.R_append_step k31 (w0 := w) w.heap.size (by rfl) (.tmp 60) (.tmp 70) 27 31 (.agg #[(.int .i64 0), (.string ⟨#[]⟩), (.bool false)]) 32 rfl Try.underlying27 info31 rfl (by decide) (by omega) (.slice Ad2 o2.length cd2) o2 (⟨e.f0, b.f0, n⟩ : S31) [.int .i64 e.f0, .string b.f0, .bool n] (fun _ => True) (fun _ => False) rfl rfl ?aP (fun _ hk => hk.elim) ?aF ?aO ?aB ?aS ?aL ?_
        (case aP => exact k31_mkM _ _ _ (⟨e.f0, b.f0, n⟩ : S31))
        (case aB => exact HB3.out)
        (case aF => exact (fun _ _ => trivial))
        (case aO => exact HO3.out)
        (case aS => exact (below_size HB3.out))
        (case aL => have := HOL2.out; omega)
        intro v1_ w15 ho hb hg hat
        have HO7 := Aside0.mk ho
        have HH7 := Aside0.mk (Kd.R_over' HH3.out (Kd.R_typed HO3.out) (by decide) hg)
        have HN7 := Aside0.mk (Kd.R_over' HN3.out (Kd.R_typed HO3.out) (by decide) hg)
        have HA7 := Aside0.mk (show Hd.Is w15 gA h' from ⟨HA3.out.1, blk_grown HA3.out.2 hg (Kd.R_ne HO3.out HA3.out.2 (by decide))⟩)
        have BE7 := Aside0.mk (blk_grown BE3.out hg (Kd.R_ne HO3.out BE3.out (by decide)))
        have HB7 := Aside0.mk hb
        clear ho hb hg hat HO3 HH3 HN3 HA3 BE3 HB3
        refine hK.out _ _ ?_
        clear hK K
        refine norm_ (a' := ?_) ?_ ?_
        rotate_left
        ·show Act.put _ (some 71) _ = _
         simp only [Act.put, List.setIfInBounds_toArray, List.set_cons_zero, List.set_cons_succ, i64_w, i32_w]
         rfl
        refine pureA 12 7 (bz 13 8191) rfl rfl (any_of HT_.out (by kernel_rfl)) ?_
        refine done_ (done_of HT_.out (by kernel_rfl)) ?_
        clear hHeld HT_ HW_
        try go_wp2
        go_roundg go2
        case measure => omega
        case rel => exact ⟨j + 1, _, by omega, by go_num, ⟨by rw [List.length_append]; have := HOL2.out; simp; omega⟩, HA7, HH7, HN7, HO7, BE7, HB7, ⟨by rw [List.append_assoc]; exact HE3.out⟩⟩
end Go.Proofs.Ytndgkdnbacoenab.PFnMeant
