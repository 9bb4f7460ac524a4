/- Texts of a row. -/
import Derived.Test.YtehkpnnidbghhabZFnExactStaleBetween1
import Derived.Test.YtehkpnnidbghhabZFnExactStaleBetween2
namespace Go.Proofs.Ytehkpnnidbghhab.PFnExactStaleBetween
open Go.RowKit Go.Proofs.YtehkpnnidbghhabW.PrintWords Go.Proofs.YtehkpnnidbghhabW.PrintLast Go.Proofs.YtehkpnnidbghhabW.PrintMore
attribute [local go_sem] max2_int min2_int max_two min_two max_three min_three max_four min_four   -- for this text's walks alone
set_option linter.unusedVariables false
set_option linter.unusedSimpArgs false
def slices_IndexFunc_w50.l0 : Nat → List (S41) → Int → Int → List ByteArray → Option (Int)
 | 0, _, _, _, _ => none
 | k + 1, x0, x7, x8, x29000 => if x8 < x7 then (if 0 ≤ x8 then (if x8 < (x0.length : Int) then ((impl_makeOrder_1.f k ((rd_T41 x0 x8).f0) ((rd_T41 x0 x8).f1) ((rd_T41 x0 x8).f2) x29000).bind fun t241 => (if t241 = true then (some x8) else (slices_IndexFunc_w50.l0 k x0 x7 (wrap64 (x8 + 1)) x29000))) else (none)) else (none)) else (some (-1))
def slices_IndexFunc_w50.f (k : Nat) (l0 : List (S41)) (l1_0_0 : List ByteArray) : Option (Int) := slices_IndexFunc_w50.l0 k l0 (l0.length : Int) 0 l1_0_0
theorem slices_IndexFunc_w50.mono_l : ∀ k, (∀ y0 y1 y2 y3, LeO (slices_IndexFunc_w50.l0 k y0 y1 y2 y3) (slices_IndexFunc_w50.l0 (k + 1) y0 y1 y2 y3))
 | 0 => fun _ _ _ _ r h => by simp [slices_IndexFunc_w50.l0] at h
 | k + 1 => by
  have ih0 := slices_IndexFunc_w50.mono_l k
  ·intro y0 y1 y2 y3
   unfold slices_IndexFunc_w50.l0
   repeat' first
   | (with_reducible exact ih0 _ _ _ _)
   | (with_reducible exact impl_makeOrder_1.mono _ _ _ _ _)
   | (with_reducible first | exact LeO.refl _ | exact LeO.none _ | refine LeO.ite ?_ ?_ | refine LeO.bind ?_ (fun _ => ?_))
   | exact ih0 _ _ _ _
   | exact impl_makeOrder_1.mono _ _ _ _ _ | exact LeO.none _ | refine LeO.ite ?_ ?_ | refine LeO.bind ?_ (fun _ => ?_)
theorem slices_IndexFunc_w50.mono : ∀ a0 a1 k, LeO (slices_IndexFunc_w50.f k a0 a1) (slices_IndexFunc_w50.f (k + 1) a0 a1) := by
 intro a0 a1 k
 have ih0 := slices_IndexFunc_w50.mono_l k
 unfold slices_IndexFunc_w50.f
 repeat' first
   | (with_reducible exact ih0 _ _ _ _)
   | (with_reducible exact impl_makeOrder_1.mono _ _ _ _ _)
   | (with_reducible first | exact LeO.refl _ | exact LeO.none _ | refine LeO.ite ?_ ?_ | refine LeO.bind ?_ (fun _ => ?_))
   | exact ih0 _ _ _ _
   | exact impl_makeOrder_1.mono _ _ _ _ _ | exact LeO.none _ | refine LeO.ite ?_ ?_ | refine LeO.bind ?_ (fun _ => ?_)
set_option maxHeartbeats 8000000 in
set_option maxRecDepth 100000 in
theorem slices_IndexFunc_w50.calls (k : Nat) (A0 : Option Addr) (c0 : Nat) (l0 : List (S41)) (gb28 : Nat) (A1_0_0 : Option Addr) (c1_0_0 : Nat) (l1_0_0 : List ByteArray) (r : Int) (w : World) (hr0 : Kd.C k41 w A0 l0.length l0) (hc0 : l0.length ≤ c0) (hr1_0_0 : Kd.C Kd.string w A1_0_0 l1_0_0.length l1_0_0) (hc1_0_0 : l1_0_0.length ≤ c1_0_0) (hk28 : w.heap[gb28]? = some (.cells #[.slice A1_0_0 l1_0_0.length c1_0_0] 24 (0, 0))) (h : slices_IndexFunc_w50.f k l0 l1_0_0 = some r) :
  Calls Try.prog 48 #[.slice A0 l0.length c0, .func (.func 50) #[] #[.pointer (some ⟨gb28, 0, none⟩)]] w fun e w' => e = .returned (.int .i64 r) ∧ Below w.heap.size w w' := by
 have hu41 := Try.underlying41
 have HR0 := Aside0.mk hr0
 have HC0 := Aside0.mk hc0
 clear hr0 hc0
 have HR1_0_0 := Aside0.mk hr1_0_0
 have HC1_0_0 := Aside0.mk hc1_0_0
 clear hr1_0_0 hc1_0_0
 have BK28 := Aside0.mk hk28
 clear hk28
 have HB := Aside0.mk (Below.refl w.heap.size w)
 have H : (slices_IndexFunc_w50.l0 k l0 (l0.length : Int) 0 l1_0_0) = some r := h
 clear h
 have H' := Aside0.mk H
 clear H
 go_enter Try.func48, Try.ntmps48
 go_wp2
 go_loopg [8] k (fun kq v8 w' => ∃ (x8_1 : Int), v8 = .int .i64 x8_1 ∧ Aside0 (slices_IndexFunc_w50.l0 kq l0 (l0.length : Int) x8_1 l1_0_0 = some r) ∧ Aside0 (kq ≤ k) ∧ Aside0 (w'.heap[gb28]? = some (.cells #[(.slice A1_0_0 l1_0_0.length c1_0_0)] 24 (0, 0))) ∧ Aside0 (Below w.heap.size w w'))
 case atStart => exact ⟨(0), tE, H', ⟨Nat.le_refl _⟩, ⟨by refine bU ?_; exact BK28.out⟩, ⟨by repeat (first | (with_reducible first | exact HB.out | apply below_alloc | apply pw_below_drewN | apply below_drew1) | exact HB.out)⟩⟩
 case round =>
  clear H'
  try clear c1
  try clear p2
  obtain ⟨x8_1, rfl, HA, HK1, BK28, HB⟩ := hrel
  cases gk with
  | zero => exact absurd HA.out (by simp [slices_IndexFunc_w50.l0])
  | succ k1 =>
   have H := HA.out
   clear HA
   simp only [slices_IndexFunc_w50.l0] at H
   by_cases c3 : x8_1 < (l0.length : Int)
   ·rw [if_pos c3] at H
    have c3b0 : decide (x8_1 < (l0.length : Int)) = true := decide_eq_true c3
    clear c3
    by_cases c4 : 0 ≤ x8_1
    ·rw [if_pos c4] at H
     have c4b0 : decide (0 ≤ x8_1) = true := decide_eq_true c4
     clear c4
     by_cases c5 : x8_1 < (l0.length : Int)
     ·rw [if_pos c5] at H
      have c5b0 : decide (x8_1 < (l0.length : Int)) = true := decide_eq_true c5
      clear c5
      replace H := Option.bind_eq_some_iff.mp H
      obtain ⟨t241, A60, H⟩ := H
      replace H : (if t241 = true then (some x8_1) else (slices_IndexFunc_w50.l0 k1 l0 (l0.length : Int) (wrap64 (x8_1 + 1)) l1_0_0)) = some r := H
      have A6 := Aside0.mk A60
      clear A60
      by_cases c7 : t241 = true
      ·subst c7
       have H1 : (some x8_1) = some r := by rw [if_pos rfl] at H; exact H
       clear H
       have H := H1
       clear H1
       obtain rfl := Option.some.inj H
       have p240 : 0 ≤ (x8_1 : Int) := of_decide_eq_true hE
       have q240 : x8_1 < (l0.length : Int) := of_decide_eq_true hE
       obtain ⟨ad240, A240_1, c240_1, A240_2, c240_2, e240, hx240_0, hx240_1, hx240_2, hl240_1, hi240_1, hl240_2, hi240_2⟩ := at_T41 HR0.out x8_1 p240 q240
       cases e240
       replace hx240_0 := (HB.out.cell (World.block_lt_of_cell? w _ hx240_0)).trans hx240_0
       replace hx240_1 := (HB.out.cell (World.block_lt_of_cell? w _ hx240_1)).trans hx240_1
       replace hx240_2 := (HB.out.cell (World.block_lt_of_cell? w _ hx240_2)).trans hx240_2
       have HR240_1 := Aside0.mk hi240_1
       have HC240_1 := Aside0.mk hl240_1
       clear hi240_1 hl240_1
       have HR240_2 := Aside0.mk hi240_2
       have HC240_2 := Aside0.mk hl240_2
       clear hi240_2 hl240_2
       replace p240 := eq_true p240
       replace q240 := eq_true q240
       go_wp2_with (first | ((with_reducible refine gateD_ rfl ?_); refine goesC_ (some 16) rfl rfl Try.func50 (by kernel_rfl) rfl rfl rfl #[.agg #[.string ((rd_T41 l0 x8_1).f0), .slice A240_1 ((rd_T41 l0 x8_1).f1).length c240_1, .slice A240_2 ((rd_T41 l0 x8_1).f2).length c240_2], .pointer (some ⟨gb28, 0, none⟩)] aE ?_; (with_reducible refine (impl_makeOrder_1.calls k1 ((rd_T41 l0 x8_1).f0) _ _ ((rd_T41 l0 x8_1).f1) _ _ ((rd_T41 l0 x8_1).f2) gb28 A1_0_0 c1_0_0 l1_0_0 true _ ?side1 ?side2 ?side3 ?side4 ?side5 ?side6 ?side7 A6.out).mono ?_); (case side1 => exact cU (Kd.C_below HR240_1.out HB.out)); (case side2 => exact HC240_1.out); (case side3 => exact cU (Kd.C_below HR240_2.out HB.out)); (case side4 => exact HC240_2.out); (case side5 => exact cU (Kd.C_below HR1_0_0.out HB.out)); (case side6 => exact HC1_0_0.out); (case side7 => refine bU ?_; exact BK28.out); rintro e w8 ⟨rfl, hb⟩; refine ⟨_, rfl, ?_⟩; replace BK28 := bB (bV BK28) hb; replace HB := bH (lU) hb; (try clear hb)))
       go_ret
       exact ⟨eE, lU⟩
      ·replace c7 := Bool.eq_false_iff.mpr c7
       subst c7
       have H1 : (slices_IndexFunc_w50.l0 k1 l0 (l0.length : Int) (wrap64 (x8_1 + 1)) l1_0_0) = some r := by rw [if_neg (show ¬ (false = true) by decide)] at H; exact H
       clear H
       have H := H1
       clear H1
       have H' := Aside0.mk H
       clear H
       have p240 : 0 ≤ (x8_1 : Int) := of_decide_eq_true hE
       have q240 : x8_1 < (l0.length : Int) := of_decide_eq_true hE
       obtain ⟨ad240, A240_1, c240_1, A240_2, c240_2, e240, hx240_0, hx240_1, hx240_2, hl240_1, hi240_1, hl240_2, hi240_2⟩ := at_T41 HR0.out x8_1 p240 q240
       cases e240
       replace hx240_0 := (HB.out.cell (World.block_lt_of_cell? w _ hx240_0)).trans hx240_0
       replace hx240_1 := (HB.out.cell (World.block_lt_of_cell? w _ hx240_1)).trans hx240_1
       replace hx240_2 := (HB.out.cell (World.block_lt_of_cell? w _ hx240_2)).trans hx240_2
       have HR240_1 := Aside0.mk hi240_1
       have HC240_1 := Aside0.mk hl240_1
       clear hi240_1 hl240_1
       have HR240_2 := Aside0.mk hi240_2
       have HC240_2 := Aside0.mk hl240_2
       clear hi240_2 hl240_2
       replace p240 := eq_true p240
       replace q240 := eq_true q240
       go_wp2_with (first | ((with_reducible refine gateD_ rfl ?_); refine goesC_ (some 16) rfl rfl Try.func50 (by kernel_rfl) rfl rfl rfl #[.agg #[.string ((rd_T41 l0 x8_1).f0), .slice A240_1 ((rd_T41 l0 x8_1).f1).length c240_1, .slice A240_2 ((rd_T41 l0 x8_1).f2).length c240_2], .pointer (some ⟨gb28, 0, none⟩)] aE ?_; (with_reducible refine (impl_makeOrder_1.calls k1 ((rd_T41 l0 x8_1).f0) _ _ ((rd_T41 l0 x8_1).f1) _ _ ((rd_T41 l0 x8_1).f2) gb28 A1_0_0 c1_0_0 l1_0_0 false _ ?side1 ?side2 ?side3 ?side4 ?side5 ?side6 ?side7 A6.out).mono ?_); (case side1 => exact cU (Kd.C_below HR240_1.out HB.out)); (case side2 => exact HC240_1.out); (case side3 => exact cU (Kd.C_below HR240_2.out HB.out)); (case side4 => exact HC240_2.out); (case side5 => exact cU (Kd.C_below HR1_0_0.out HB.out)); (case side6 => exact HC1_0_0.out); (case side7 => refine bU ?_; exact BK28.out); rintro e w9 ⟨rfl, hb⟩; refine ⟨_, rfl, ?_⟩; replace BK28 := bB (bV BK28) hb; replace HB := bH (lU) hb; (try clear hb)))
       go_roundg k1
       case measure => have := HK1.out; omega
       case rel => exact ⟨(wrap64 (x8_1 + 1)), tE, H', ⟨by have := HK1.out; omega⟩, ⟨by refine bU ?_; exact BK28.out⟩, ⟨by repeat (first | (with_reducible first | exact HB.out | apply below_alloc | apply pw_below_drewN | apply below_drew1) | exact HB.out)⟩⟩
     ·rw [if_neg c5] at H
      exact absurd H (by simp)
    ·rw [if_neg c4] at H
     exact absurd H (by simp)
   ·rw [if_neg c3] at H
    have c3b0 : decide (x8_1 < (l0.length : Int)) = false := decide_eq_false c3
    clear c3
    obtain rfl := Option.some.inj H
    go_wp2
    go_ret
    exact ⟨eE, lU⟩
def impl_makeOrder.l0 : Nat → List (S41) → List ByteArray → Option (List ByteArray)
 | 0, _, _ => none
 | k + 1, x0, x246000 => (slices_IndexFunc_w50.f k x0 x246000).bind fun t246 => (if t246 < 0 then (some x246000) else (if 0 ≤ t246 then (if t246 < (x0.length : Int) then (if x246000.length < 8796093022208 then (impl_makeOrder.l0 k x0 (x246000 ++ [(rd_T41 x0 t246).f0])) else (none)) else (none)) else (none)))
def impl_makeOrder.f (k : Nat) (l0 : List (S41)) : Option (List ByteArray) := impl_makeOrder.l0 k l0 (([] : List ByteArray))
theorem impl_makeOrder.mono_l : ∀ k, (∀ y0 y1, LeO (impl_makeOrder.l0 k y0 y1) (impl_makeOrder.l0 (k + 1) y0 y1))
 | 0 => fun _ _ r h => by simp [impl_makeOrder.l0] at h
 | k + 1 => by
  have ih0 := impl_makeOrder.mono_l k
  ·intro y0 y1
   unfold impl_makeOrder.l0
   repeat' first
   | (with_reducible exact ih0 _ _)
   | (with_reducible exact slices_IndexFunc_w50.mono _ _ _)
   | (with_reducible first | exact LeO.refl _ | exact LeO.none _ | refine LeO.ite ?_ ?_ | refine LeO.bind ?_ (fun _ => ?_))
   | exact ih0 _ _
   | exact slices_IndexFunc_w50.mono _ _ _ | exact LeO.none _ | refine LeO.ite ?_ ?_ | refine LeO.bind ?_ (fun _ => ?_)
theorem impl_makeOrder.mono : ∀ a0 k, LeO (impl_makeOrder.f k a0) (impl_makeOrder.f (k + 1) a0) := by
 intro a0 k
 have ih0 := impl_makeOrder.mono_l k
 unfold impl_makeOrder.f
 repeat' first
   | (with_reducible exact ih0 _ _)
   | (with_reducible exact slices_IndexFunc_w50.mono _ _ _)
   | (with_reducible first | exact LeO.refl _ | exact LeO.none _ | refine LeO.ite ?_ ?_ | refine LeO.bind ?_ (fun _ => ?_))
   | exact ih0 _ _
   | exact slices_IndexFunc_w50.mono _ _ _ | exact LeO.none _ | refine LeO.ite ?_ ?_ | refine LeO.bind ?_ (fun _ => ?_)
def impl_makeOrder.T5 : Bool × List (List Nat × List Nat) := (true, [([], []), ([], []), ([], []), ([1, 2], [1, 2]), ([3], [3]), ([4], [4]), ([5], [5]), ([0, 6], [0, 6]), ([7, 7, 0, 1, 2, 3, 4, 5, 6, 7], [7])])
def impl_makeOrder.B5 : List Nat := [0, 0, 0, 6, 14, 30, 62, 127, 255]
theorem impl_makeOrder.tab5 : rtab .any (opsOf Try.f36 5) = impl_makeOrder.T5 := by kernel_rfl
theorem impl_makeOrder.bits5 : waitsOk impl_makeOrder.T5.2 impl_makeOrder.B5 = true := by kernel_rfl
set_option maxHeartbeats 8000000 in
set_option maxRecDepth 100000 in
theorem impl_makeOrder.calls (k : Nat) (A0 : Option Addr) (c0 : Nat) (l0 : List (S41)) (r : List ByteArray) (w : World) (hr0 : Kd.C k41 w A0 l0.length l0) (hc0 : l0.length ≤ c0) (h : impl_makeOrder.f k l0 = some r) :
  Calls Try.prog 36 #[.slice A0 l0.length c0] w fun e w' => ∃ v0_ : Value, e = .returned (v0_) ∧ Kd.R Kd.string 9 w' w.heap.size (fun _ => True) v0_ r ∧ Below w.heap.size w w' := by
 have hu24 := Try.underlying24
 have HR0 := Aside0.mk hr0
 have HC0 := Aside0.mk hc0
 clear hr0 hc0
 have HB := Aside0.mk (Below.refl w.heap.size w)
 have H : (impl_makeOrder.l0 k l0 (([] : List ByteArray))) = some r := h
 clear h
 obtain ⟨y242, hy242⟩ : ∃ y_ : List ByteArray, y_ = (([] : List ByteArray)) := ⟨_, rfl⟩
 replace H : (impl_makeOrder.l0 k l0 y242) = some r := by first | (rw [hy242]; with_reducible exact H) | (have H2_ := (Option.bind_some _ _).symm.trans H; rw [hy242]; with_reducible exact H2_) | (have H2_ := (Option.bind_some _ _).symm.trans H; with_reducible exact H2_) | with_reducible exact H | (rw [hy242]; exact H) | exact H
 have Ny242 := Aside0.mk hy242
 clear hy242
 have H' := Aside0.mk H
 clear H
 go_enter Try.func36, Try.ntmps36
 go_wp2_with (first | ((with_reducible refine gate_dst (N := 5) rfl ?_); refine Kd.R_lit Kd.string _ 9 ?hg (N := 5) ?hd (xs := ([] : List ByteArray)) (inner := []) (ok := fun _ => True) (okp := fun _ => True) ?hr ?hp (fun _ hk => hk) trivial (Below.refl _ _) (Nat.le_refl _) (by simp) ?_; (case hd => rfl); (case hg => rfl); (case hr => exact sE); (case hp => exact (Reps.none _ _)); intro v243 w2 ho3 hb hg_ hnew_; clear hg_ hnew_; (first | rw [← Ny242.out] at ho3 | (simp only [Int.reduceToNat] at ho3; rw [← Ny242.out] at ho3)); have HO244 := Aside0.mk (Kd.R_lower ho3 (below_size (lU))); replace HB := bH (lU) hb; clear hb ho3) | ((with_reducible refine gate_dst (N := 3) rfl ?_); refine box_event rfl (N := 3) rfl (cs := #[.slice none 0 0]) (t := 24) sE ?_; intro gb245 hg w4 hbox hb; replace HO244 := Aside0.mk (Kd.R_below (rU HO244.out) hb); have BK245 := Aside0.mk hbox; have GW245 := gS w hg (lU); have GE245 := gS w hg (lU); replace HB := bH (lU) hb; clear hb hbox hg; obtain ⟨Ao5, co5, eo5⟩ := Kd.R_slice HO244.out; subst eo5; have hcz6_0 := cz BK245 0 (.slice none 0 0); have hfz6_0 := fz BK245 0) | ((with_reducible refine gate_store (t := 24) (p := 3) rfl ?_); refine store_event (t := 24) (p := 3) (v := ?vo_w7) (w1 := (w4.setCell ⟨gb245, 0, none⟩ (.slice Ao5 y242.length co5))) ?hg ?ho ?hn ?hr ?_; (case ho => rfl); (case hg => rfl); (case hn => rfl); (case hr => first | (go_simp; done) | (go_simp; rfl) | (have hq0_ := (blk_cell BK245.out 0).trans (show _ = some _ from rfl); have hf0_ := blk_frozen BK245.out 0; first | (go_simp; done) | (go_simp; rfl))); intro w7 hw; replace HO244 : Aside0 (Kd.R Kd.string 9 w7 w.heap.size (fun _ => True) (.slice Ao5 y242.length co5) y242) := ⟨(by rw [hw]; exact (by (with_reducible repeat (first | apply Kd.R_alloc | apply Kd.R_drewN | apply Kd.R_drew)); exact Kd.R_mono (Kd.R_far (p := ⟨gb245, 0, none⟩) (Kd.R_types HO244.out BK245.out (by decide)) (fun _ hk => hk.2) (.slice Ao5 y242.length co5)) (fun _ hk => trivial)))⟩; replace BK245 : Aside0 (w7.heap[gb245]? = some (.cells #[.slice Ao5 y242.length co5] 24 (0, 0))) := ⟨(by rw [hw]; exact (by refine bU ?_; refine blk_put (cs := #[.slice none 0 0]) ?_ 0 _ rfl; refine bU ?_; exact BK245.out))⟩; replace HB : Aside0 (Below w.heap.size w w7) := ⟨(by rw [hw]; exact (lV1 GE245))⟩; clear hw))
 (try simp only [Act.put, List.setIfInBounds_toArray, List.set_cons_zero, List.set_cons_succ])
 go_loopg [] k (fun kq w' => ∃ (x246000_1 : List ByteArray) (u246000 : Value), Aside0 (impl_makeOrder.l0 kq l0 x246000_1 = some r) ∧ Aside0 (kq ≤ k) ∧ Aside0 (Kd.R Kd.string 9 w' w.heap.size (fun _ => True) u246000 x246000_1) ∧ Aside0 (w'.heap[gb245]? = some (.cells #[u246000] 24 (0, 0))) ∧ Aside0 (Below w.heap.size w w'))
 case atStart => exact ⟨(y242), (.slice Ao5 y242.length co5), H', ⟨Nat.le_refl _⟩, ⟨by (with_reducible repeat (first | apply Kd.R_alloc | apply Kd.R_drewN | apply Kd.R_drew)); exact HO244.out⟩, ⟨by refine bU ?_; exact BK245.out⟩, ⟨by repeat (first | (with_reducible first | exact HB.out | apply below_alloc | apply pw_below_drewN | apply below_drew1 | refine below_set ?_ GE245.out) | exact HB.out)⟩⟩
 case round =>
  clear H'
  try clear p2
  try clear c3
  try clear hcz6_0
  try clear hfz6_0
  obtain ⟨x246000_1, u246000, HA, HK1, HO_246000, BK245, HB⟩ := hrel
  cases gk with
  | zero => exact absurd HA.out (by simp [impl_makeOrder.l0])
  | succ k1 =>
   have H := HA.out
   clear HA
   simp only [impl_makeOrder.l0] at H
   replace H := Option.bind_eq_some_iff.mp H
   obtain ⟨t246, A80, H⟩ := H
   replace H : (if t246 < 0 then (some x246000_1) else (if 0 ≤ t246 then (if t246 < (l0.length : Int) then (if x246000_1.length < 8796093022208 then (impl_makeOrder.l0 k1 l0 (x246000_1 ++ [(rd_T41 l0 t246).f0])) else (none)) else (none)) else (none))) = some r := H
   have A8 := Aside0.mk A80
   clear A80
   by_cases c9 : t246 < 0
   ·rw [if_pos c9] at H
    have c9b0 : decide (t246 < 0) = true := decide_eq_true c9
    clear c9
    obtain rfl := Option.some.inj H
    obtain ⟨Ao10, co10, eo10⟩ := Kd.R_slice HO_246000.out
    subst eo10
    go_wp2_with (first | ((with_reducible refine gate_callee (f := 48) rfl ?_); refine goesL_ (some 8) rfl rfl Try.func48 (by kernel_rfl) rfl #[.slice A0 l0.length c0, .func (.func 50) #[] #[.pointer (some ⟨gb245, 0, none⟩)]] rfl aE ?_; (with_reducible refine (slices_IndexFunc_w50.calls k1 _ _ l0 gb245 Ao10 co10 x246000_1 t246 _ ?side1 ?side2 ?side3 ?side4 ?side5 A8.out).mono ?_); (case side1 => exact cU (Kd.C_below HR0.out HB.out)); (case side2 => exact HC0.out); (case side3 => exact cU (Kd.R_reads' HO_246000.out).2.2); (case side4 => exact (Kd.R_reads' HO_246000.out).2.1); (case side5 => refine bU ?_; exact BK245.out); rintro e w11 ⟨rfl, hb⟩; refine ⟨_, rfl, ?_⟩; replace HO_246000 := Aside0.mk (Kd.R_below (rU HO_246000.out) hb); replace BK245 := bB (bV BK245) hb; replace HB := bH (lV1 GE245) hb; (try clear hb); have hcz12_0 := cz BK245 0 (.slice Ao10 x246000_1.length co10); have hfz12_0 := fz BK245 0))
    go_ret
    exact ⟨_, eE, by (with_reducible repeat (first | apply Kd.R_alloc | apply Kd.R_drewN | apply Kd.R_drew)); exact HO_246000.out, lV1 GE245⟩
   ·rw [if_neg c9] at H
    have c9b0 : decide (t246 < 0) = false := decide_eq_false c9
    clear c9
    by_cases c13 : 0 ≤ t246
    ·rw [if_pos c13] at H
     have c13b0 : decide (0 ≤ t246) = true := decide_eq_true c13
     clear c13
     by_cases c14 : t246 < (l0.length : Int)
     ·rw [if_pos c14] at H
      have c14b0 : decide (t246 < (l0.length : Int)) = true := decide_eq_true c14
      clear c14
      by_cases c15 : x246000_1.length < 8796093022208
      ·rw [if_pos c15] at H
       have LMc15 := Aside0.mk c15
       clear c15
       obtain ⟨y248, hy248⟩ : ∃ y_ : List ByteArray, y_ = (x246000_1 ++ [(rd_T41 l0 t246).f0]) := ⟨_, rfl⟩
       replace H : (impl_makeOrder.l0 k1 l0 y248) = some r := by first | (rw [hy248]; with_reducible exact H) | (have H2_ := (Option.bind_some _ _).symm.trans H; rw [hy248]; with_reducible exact H2_) | (have H2_ := (Option.bind_some _ _).symm.trans H; with_reducible exact H2_) | with_reducible exact H | (rw [hy248]; exact H) | exact H
       have Ny248 := Aside0.mk hy248
       clear hy248
       have H' := Aside0.mk H
       clear H
       obtain ⟨Ao16, co16, eo16⟩ := Kd.R_slice HO_246000.out
       subst eo16
       try go_wp2_with (first | ((with_reducible refine gate_callee (f := 48) rfl ?_); refine goesL_ (some 8) rfl rfl Try.func48 (by kernel_rfl) rfl #[.slice A0 l0.length c0, .func (.func 50) #[] #[.pointer (some ⟨gb245, 0, none⟩)]] rfl aE ?_; (with_reducible refine (slices_IndexFunc_w50.calls k1 _ _ l0 gb245 Ao16 co16 x246000_1 t246 _ ?side1 ?side2 ?side3 ?side4 ?side5 A8.out).mono ?_); (case side1 => exact cU (Kd.C_below HR0.out HB.out)); (case side2 => exact HC0.out); (case side3 => exact cU (Kd.R_reads' HO_246000.out).2.2); (case side4 => exact (Kd.R_reads' HO_246000.out).2.1); (case side5 => refine bU ?_; exact BK245.out); rintro e w17 ⟨rfl, hb⟩; refine ⟨_, rfl, ?_⟩; replace HO_246000 := Aside0.mk (Kd.R_below (rU HO_246000.out) hb); replace BK245 := bB (bV BK245) hb; replace HB := bH (lV1 GE245) hb; (try clear hb)))
       replace HO_246000 := Aside0.mk (Kd.R_drew HO_246000.out)
       replace BK245 := Aside0.mk (blk_drew BK245.out)
       replace HB := Aside0.mk (below_drew1 HB.out)
       have p247 : 0 ≤ (t246 : Int) := of_decide_eq_true hE
       have q247 : t246 < (l0.length : Int) := of_decide_eq_true hE
       obtain ⟨ad247, A247_1, c247_1, A247_2, c247_2, e247, hx247_0, hx247_1, hx247_2, hl247_1, hi247_1, hl247_2, hi247_2⟩ := at_T41 HR0.out t246 p247 q247
       have hw247_2 := hx247_2
       have hw247_1 := hx247_1
       have hw247_0 := hx247_0
       cases e247
       replace hx247_0 := (HB.out.cell (World.block_lt_of_cell? w _ hx247_0)).trans hx247_0
       replace hx247_1 := (HB.out.cell (World.block_lt_of_cell? w _ hx247_1)).trans hx247_1
       replace hx247_2 := (HB.out.cell (World.block_lt_of_cell? w _ hx247_2)).trans hx247_2
       have HR247_1 := Aside0.mk hi247_1
       have HC247_1 := Aside0.mk hl247_1
       clear hi247_1 hl247_1
       have HR247_2 := Aside0.mk hi247_2
       have HC247_2 := Aside0.mk hl247_2
       clear hi247_2 hl247_2
       replace p247 := eq_true p247
       replace q247 := eq_true q247
       refine start_ (n := 9) (S := fun w' => w'.cell? ⟨gb245, 0, none⟩ = some (.slice Ao16 x246000_1.length co16) ∧ w'.cell? (ad247.add ((t246).toNat * 3)) = some (.string ((rd_T41 l0 t246).f0)) ∧ w'.cell? ⟨(ad247.add ((t246).toNat * 3)).block, (ad247.add ((t246).toNat * 3)).off + 1, none⟩ = some (.slice A247_1 ((rd_T41 l0 t246).f1).length c247_1) ∧ w'.cell? ⟨(ad247.add ((t246).toNat * 3)).block, (ad247.add ((t246).toNat * 3)).off + 2, none⟩ = some (.slice A247_2 ((rd_T41 l0 t246).f2).length c247_2)) (ds := [8]) #[false, false, false, false, false, false, false, false, false] (by kernel_rfl) rfl rfl ⟨cz BK245 0 _, ((HB.out.cell (World.block_lt_of_cell? w _ hw247_0)).trans hw247_0), ((HB.out.cell (World.block_lt_of_cell? w _ hw247_1)).trans hw247_1), ((HB.out.cell (World.block_lt_of_cell? w _ hw247_2)).trans hw247_2)⟩ (fun hHeld => ?_); refine with_tabW impl_makeOrder.tab5 impl_makeOrder.bits5 (fun HT_ HW_ => ?_)
       generalize w17.drew = w18 at HO_246000 BK245 HB HR247_1 HR247_2 hx247_0 hx247_1 hx247_2 hHeld ⊢
       refine pureA 1 13 (bz 9 2) rfl rfl (any_of HT_.out (by kernel_rfl)) ?_
       refine pureA 2 14 (bz 9 6) rfl rfl (any_of HT_.out (by kernel_rfl)) ?_
       refine pureA 3 15 (bz 9 14) rfl rfl (any_of HT_.out (by kernel_rfl)) ?_
       refine pureA 4 16 (bz 9 30) rfl rfl (any_of HT_.out (by kernel_rfl)) ?_
       refine takeA 0 12 (bz 9 31) rfl rfl (take_ofW HT_.out HW_.out (by kernel_rfl)) hHeld (by rintro w' ⟨s0, s1, s2, s3⟩; go_simp; with_reducible rfl) ?_
       refine takeA 5 17 (bz 9 63) rfl rfl (take_ofW HT_.out HW_.out (by kernel_rfl)) hHeld (by rintro w' ⟨s0, s1, s2, s3⟩; go_simp; with_reducible rfl) ?_
       refine one_ (i := 6) (N := some 18) (bz 9 127) rfl rfl (one_of HT_.out (by kernel_rfl)) (by decide) (fun K hK => ?_)
       refine value_ (w1 := ?_) (v := ?_) (by rfl) rfl ?_ ?_
       rotate_left 2
       ·go_simp
        constructor
        ·rfl
        ·rfl
       refine hK.out _ _ ⟨(blk_cell (blk_alloc BK245.out _) 0).trans rfl, (World.cell?_alloc_lt _ _ _ (World.block_lt_of_cell? _ _ (((HB.out.cell (World.block_lt_of_cell? w _ hw247_0)).trans hw247_0)))).trans (((HB.out.cell (World.block_lt_of_cell? w _ hw247_0)).trans hw247_0)), (World.cell?_alloc_lt _ _ _ (World.block_lt_of_cell? _ _ (((HB.out.cell (World.block_lt_of_cell? w _ hw247_1)).trans hw247_1)))).trans (((HB.out.cell (World.block_lt_of_cell? w _ hw247_1)).trans hw247_1)), (World.cell?_alloc_lt _ _ _ (World.block_lt_of_cell? _ _ (((HB.out.cell (World.block_lt_of_cell? w _ hw247_2)).trans hw247_2)))).trans (((HB.out.cell (World.block_lt_of_cell? w _ hw247_2)).trans hw247_2))⟩ (fun hHeld => ?_)
       clear hK K
       refine norm_ (a' := ?_) ?_ ?_
       rotate_left
       ·show Act.put _ (some 18) _ = _
        simp only [Act.put, List.setIfInBounds_toArray, List.set_cons_zero, List.set_cons_succ, i64_w, i32_w]
        rfl
       refine one_ (i := 7) (N := some 19) (bz 9 255) rfl rfl (one_of HT_.out (by kernel_rfl)) (by decide) (fun K hK => ?_)
       refine Kd.R_append_step Kd.string (w0 := w) w.heap.size (by rfl) (.tmp 12) (.tmp 18) 24 9 (.string ⟨#[]⟩) 16 rfl Try.underlying24 info9 rfl (by decide) (by omega) (.slice Ao16 x246000_1.length co16) x246000_1 ((rd_T41 l0 t246).f0) [.string ((rd_T41 l0 t246).f0)] (fun _ => True) (fun _ => False) rfl rfl ?aP (fun _ hk => hk.elim) ?aF ?aO ?aB ?aS ?aL ?_
       (case aP => exact rfl)
       (case aB => exact (lV1 GE245))
       (case aF => exact (fun _ _ => trivial))
       (case aO => exact (rU HO_246000.out))
       (case aS => exact (below_size (lV1 GE245)))
       (case aL => have := LMc15.out; omega)
       intro v249 w19 ho hb hg hat
       rw [← Ny248.out] at ho
       replace BK245 := Aside0.mk (blk_grown (g := gb245) (o := .cells #[.slice Ao16 x246000_1.length co16] 24 (0, 0)) (bV BK245) hg (Kd.R_ne HO_246000.out BK245.out (by decide)))
       replace HB := Aside0.mk hb
       have HO250 := Aside0.mk ho
       clear HO_246000
       clear ho hb hg hat
       obtain ⟨Ao20, co20, eo20⟩ := Kd.R_slice HO250.out
       (first | subst eo20 | (injection eo20 with f1_ f2_ f3_; have f4_ := f1_.symm; have f5_ := f3_.symm; clear f1_ f2_ f3_; subst f4_; subst f5_))
       refine hK.out _ _ ⟨cz BK245 0 _, ((HB.out.cell (World.block_lt_of_cell? w _ hw247_0)).trans hw247_0), ((HB.out.cell (World.block_lt_of_cell? w _ hw247_1)).trans hw247_1), ((HB.out.cell (World.block_lt_of_cell? w _ hw247_2)).trans hw247_2)⟩ (fun hHeld => ?_)
       clear hK K
       refine norm_ (a' := ?_) ?_ ?_
       rotate_left
       ·show Act.put _ (some 19) _ = _
        simp only [Act.put, List.setIfInBounds_toArray, List.set_cons_zero, List.set_cons_succ, i64_w, i32_w]
        rfl
       refine last_ (i := 8) (N := none) (bz 9 511) rfl rfl (one_of HT_.out (by kernel_rfl)) (by decide) (fun K hK => ?_)
       have hs21 : w19.cell? ⟨gb245, 0, none⟩ = some (.slice Ao16 x246000_1.length co16) := (blk_cell BK245.out 0).trans rfl
       have hfs21 := blk_frozen BK245.out 0
       refine skip_ (w1 := ?_) (by rfl) rfl ?_ ?_
       rotate_left
       ·go_simp
        rfl
       refine hK.out _ _ ?_
       clear hK K
       refine done_ (done_of HT_.out (by kernel_rfl)) ?_
       try go_wp2
       go_roundg k1
       case measure => have := HK1.out; omega
       case rel => exact ⟨(y248), (.slice Ao20 y248.length co20), H', ⟨by have := HK1.out; omega⟩, ⟨by (with_reducible repeat (first | apply Kd.R_alloc | apply Kd.R_drewN | apply Kd.R_drew)); exact Kd.R_mono (Kd.R_far (p := ⟨gb245, 0, none⟩) (Kd.R_types HO250.out BK245.out (by decide)) (fun _ hk => hk.2) (.slice Ao20 y248.length co20)) (fun _ hk => trivial)⟩, ⟨by refine bU ?_; refine blk_put (cs := #[.slice Ao16 x246000_1.length co16]) ?_ 0 _ rfl; refine bU ?_; exact BK245.out⟩, ⟨by repeat (first | (with_reducible first | exact HB.out | apply below_alloc | apply pw_below_drewN | apply below_drew1 | refine below_set ?_ GE245.out) | exact HB.out)⟩⟩
      ·rw [if_neg c15] at H
       exact absurd H (by simp)
     ·rw [if_neg c14] at H
      exact absurd H (by simp)
    ·rw [if_neg c13] at H
     exact absurd H (by simp)
def slices_IndexFunc_w34.l0 : Nat → List ByteArray → Int → Int → List (S41) → Option (Int)
 | 0, _, _, _, _ => none
 | k + 1, x0, x7, x8, x29000 => if x8 < x7 then (if 0 ≤ x8 then (if x8 < (x0.length : Int) then ((impl_GoodAssets_1.f k (rdOf ByteArray.empty x0 x8) x29000).bind fun t252 => (if t252 = true then (some x8) else (slices_IndexFunc_w34.l0 k x0 x7 (wrap64 (x8 + 1)) x29000))) else (none)) else (none)) else (some (-1))
def slices_IndexFunc_w34.f (k : Nat) (l0 : List ByteArray) (l1_0_0 : List (S41)) : Option (Int) := slices_IndexFunc_w34.l0 k l0 (l0.length : Int) 0 l1_0_0
theorem slices_IndexFunc_w34.mono_l : ∀ k, (∀ y0 y1 y2 y3, LeO (slices_IndexFunc_w34.l0 k y0 y1 y2 y3) (slices_IndexFunc_w34.l0 (k + 1) y0 y1 y2 y3))
 | 0 => fun _ _ _ _ r h => by simp [slices_IndexFunc_w34.l0] at h
 | k + 1 => by
  have ih0 := slices_IndexFunc_w34.mono_l k
  ·intro y0 y1 y2 y3
   unfold slices_IndexFunc_w34.l0
   repeat' first
   | (with_reducible exact ih0 _ _ _ _)
   | (with_reducible exact impl_GoodAssets_1.mono _ _ _)
   | (with_reducible first | exact LeO.refl _ | exact LeO.none _ | refine LeO.ite ?_ ?_ | refine LeO.bind ?_ (fun _ => ?_))
   | exact ih0 _ _ _ _
   | exact impl_GoodAssets_1.mono _ _ _ | exact LeO.none _ | refine LeO.ite ?_ ?_ | refine LeO.bind ?_ (fun _ => ?_)
theorem slices_IndexFunc_w34.mono : ∀ a0 a1 k, LeO (slices_IndexFunc_w34.f k a0 a1) (slices_IndexFunc_w34.f (k + 1) a0 a1) := by
 intro a0 a1 k
 have ih0 := slices_IndexFunc_w34.mono_l k
 unfold slices_IndexFunc_w34.f
 repeat' first
   | (with_reducible exact ih0 _ _ _ _)
   | (with_reducible exact impl_GoodAssets_1.mono _ _ _)
   | (with_reducible first | exact LeO.refl _ | exact LeO.none _ | refine LeO.ite ?_ ?_ | refine LeO.bind ?_ (fun _ => ?_))
   | exact ih0 _ _ _ _
   | exact impl_GoodAssets_1.mono _ _ _ | exact LeO.none _ | refine LeO.ite ?_ ?_ | refine LeO.bind ?_ (fun _ => ?_)
set_option maxHeartbeats 8000000 in
set_option maxRecDepth 100000 in
theorem slices_IndexFunc_w34.calls (k : Nat) (A0 : Option Addr) (c0 : Nat) (l0 : List ByteArray) (gb28 : Nat) (A1_0_0 : Option Addr) (c1_0_0 : Nat) (l1_0_0 : List (S41)) (r : Int) (w : World) (hr0 : Kd.C Kd.string w A0 l0.length l0) (hc0 : l0.length ≤ c0) (hr1_0_0 : Kd.C k41 w A1_0_0 l1_0_0.length l1_0_0) (hc1_0_0 : l1_0_0.length ≤ c1_0_0) (hk28 : w.heap[gb28]? = some (.cells #[.slice A1_0_0 l1_0_0.length c1_0_0] 27 (0, 0))) (h : slices_IndexFunc_w34.f k l0 l1_0_0 = some r) :
  Calls Try.prog 47 #[.slice A0 l0.length c0, .func (.func 34) #[] #[.pointer (some ⟨gb28, 0, none⟩)]] w fun e w' => e = .returned (.int .i64 r) ∧ Below w.heap.size w w' := by
 have HR0 := Aside0.mk hr0
 have HC0 := Aside0.mk hc0
 clear hr0 hc0
 have HR1_0_0 := Aside0.mk hr1_0_0
 have HC1_0_0 := Aside0.mk hc1_0_0
 clear hr1_0_0 hc1_0_0
 have BK28 := Aside0.mk hk28
 clear hk28
 have HB := Aside0.mk (Below.refl w.heap.size w)
 have H : (slices_IndexFunc_w34.l0 k l0 (l0.length : Int) 0 l1_0_0) = some r := h
 clear h
 have H' := Aside0.mk H
 clear H
 go_enter Try.func47, Try.ntmps47
 go_wp2
 go_loopg [8] k (fun kq v8 w' => ∃ (x8_1 : Int), v8 = .int .i64 x8_1 ∧ Aside0 (slices_IndexFunc_w34.l0 kq l0 (l0.length : Int) x8_1 l1_0_0 = some r) ∧ Aside0 (kq ≤ k) ∧ Aside0 (w'.heap[gb28]? = some (.cells #[(.slice A1_0_0 l1_0_0.length c1_0_0)] 27 (0, 0))) ∧ Aside0 (Below w.heap.size w w'))
 case atStart => exact ⟨(0), tE, H', ⟨Nat.le_refl _⟩, ⟨by refine bU ?_; exact BK28.out⟩, ⟨by repeat (first | (with_reducible first | exact HB.out | apply below_alloc | apply pw_below_drewN | apply below_drew1) | exact HB.out)⟩⟩
 case round =>
  clear H'
  try clear c1
  try clear p2
  obtain ⟨x8_1, rfl, HA, HK1, BK28, HB⟩ := hrel
  cases gk with
  | zero => exact absurd HA.out (by simp [slices_IndexFunc_w34.l0])
  | succ k1 =>
   have H := HA.out
   clear HA
   simp only [slices_IndexFunc_w34.l0] at H
   by_cases c3 : x8_1 < (l0.length : Int)
   ·rw [if_pos c3] at H
    have c3b0 : decide (x8_1 < (l0.length : Int)) = true := decide_eq_true c3
    clear c3
    by_cases c4 : 0 ≤ x8_1
    ·rw [if_pos c4] at H
     have c4b0 : decide (0 ≤ x8_1) = true := decide_eq_true c4
     clear c4
     by_cases c5 : x8_1 < (l0.length : Int)
     ·rw [if_pos c5] at H
      have c5b0 : decide (x8_1 < (l0.length : Int)) = true := decide_eq_true c5
      clear c5
      replace H := Option.bind_eq_some_iff.mp H
      obtain ⟨t252, A60, H⟩ := H
      replace H : (if t252 = true then (some x8_1) else (slices_IndexFunc_w34.l0 k1 l0 (l0.length : Int) (wrap64 (x8_1 + 1)) l1_0_0)) = some r := H
      have A6 := Aside0.mk A60
      clear A60
      by_cases c7 : t252 = true
      ·subst c7
       have H1 : (some x8_1) = some r := by rw [if_pos rfl] at H; exact H
       clear H
       have H := H1
       clear H1
       obtain rfl := Option.some.inj H
       have p251 : 0 ≤ (x8_1 : Int) := of_decide_eq_true hE
       have q251 : x8_1 < (l0.length : Int) := of_decide_eq_true hE
       obtain ⟨ad251, e251, hx251_0⟩ := Kd.at_string HR0.out x8_1 p251 q251
       cases e251
       replace hx251_0 := (HB.out.cell (World.block_lt_of_cell? w _ hx251_0)).trans hx251_0
       replace p251 := eq_true p251
       replace q251 := eq_true q251
       go_wp2_with (first | ((with_reducible refine gateD_ rfl ?_); refine goesC_ (some 16) rfl rfl Try.func34 (by kernel_rfl) rfl rfl rfl #[.string (rdOf ByteArray.empty l0 x8_1), .pointer (some ⟨gb28, 0, none⟩)] aE ?_; (with_reducible refine (impl_GoodAssets_1.calls k1 (rdOf ByteArray.empty l0 x8_1) gb28 A1_0_0 c1_0_0 l1_0_0 true _ ?side1 ?side2 ?side3 A6.out).mono ?_); (case side1 => exact cU (Kd.C_below HR1_0_0.out HB.out)); (case side2 => exact HC1_0_0.out); (case side3 => refine bU ?_; exact BK28.out); rintro e w8 ⟨rfl, hb⟩; refine ⟨_, rfl, ?_⟩; replace BK28 := bB (bV BK28) hb; replace HB := bH (lU) hb; (try clear hb)))
       go_ret
       exact ⟨eE, lU⟩
      ·replace c7 := Bool.eq_false_iff.mpr c7
       subst c7
       have H1 : (slices_IndexFunc_w34.l0 k1 l0 (l0.length : Int) (wrap64 (x8_1 + 1)) l1_0_0) = some r := by rw [if_neg (show ¬ (false = true) by decide)] at H; exact H
       clear H
       have H := H1
       clear H1
       have H' := Aside0.mk H
       clear H
       have p251 : 0 ≤ (x8_1 : Int) := of_decide_eq_true hE
       have q251 : x8_1 < (l0.length : Int) := of_decide_eq_true hE
       obtain ⟨ad251, e251, hx251_0⟩ := Kd.at_string HR0.out x8_1 p251 q251
       cases e251
       replace hx251_0 := (HB.out.cell (World.block_lt_of_cell? w _ hx251_0)).trans hx251_0
       replace p251 := eq_true p251
       replace q251 := eq_true q251
       go_wp2_with (first | ((with_reducible refine gateD_ rfl ?_); refine goesC_ (some 16) rfl rfl Try.func34 (by kernel_rfl) rfl rfl rfl #[.string (rdOf ByteArray.empty l0 x8_1), .pointer (some ⟨gb28, 0, none⟩)] aE ?_; (with_reducible refine (impl_GoodAssets_1.calls k1 (rdOf ByteArray.empty l0 x8_1) gb28 A1_0_0 c1_0_0 l1_0_0 false _ ?side1 ?side2 ?side3 A6.out).mono ?_); (case side1 => exact cU (Kd.C_below HR1_0_0.out HB.out)); (case side2 => exact HC1_0_0.out); (case side3 => refine bU ?_; exact BK28.out); rintro e w9 ⟨rfl, hb⟩; refine ⟨_, rfl, ?_⟩; replace BK28 := bB (bV BK28) hb; replace HB := bH (lU) hb; (try clear hb)))
       go_roundg k1
       case measure => have := HK1.out; omega
       case rel => exact ⟨(wrap64 (x8_1 + 1)), tE, H', ⟨by have := HK1.out; omega⟩, ⟨by refine bU ?_; exact BK28.out⟩, ⟨by repeat (first | (with_reducible first | exact HB.out | apply below_alloc | apply pw_below_drewN | apply below_drew1) | exact HB.out)⟩⟩
     ·rw [if_neg c5] at H
      exact absurd H (by simp)
    ·rw [if_neg c4] at H
     exact absurd H (by simp)
   ·rw [if_neg c3] at H
    have c3b0 : decide (x8_1 < (l0.length : Int)) = false := decide_eq_false c3
    clear c3
    obtain rfl := Option.some.inj H
    go_wp2
    go_ret
    exact ⟨eE, lU⟩
def slices_ContainsFunc_w34.f (k : Nat) (l0 : List ByteArray) (l1_0_0 : List (S41)) : Option (Bool) := (slices_IndexFunc_w34.f k l0 l1_0_0).bind fun t253 => (some (decide (t253 ≥ 0)))
theorem slices_ContainsFunc_w34.mono : ∀ a0 a1 k, LeO (slices_ContainsFunc_w34.f k a0 a1) (slices_ContainsFunc_w34.f (k + 1) a0 a1) := by
 intro a0 a1 k
 unfold slices_ContainsFunc_w34.f
 repeat' first
   | (with_reducible exact slices_IndexFunc_w34.mono _ _ _)
   | (with_reducible first | exact LeO.refl _ | exact LeO.none _ | refine LeO.ite ?_ ?_ | refine LeO.bind ?_ (fun _ => ?_))
   | exact slices_IndexFunc_w34.mono _ _ _ | exact LeO.none _ | refine LeO.ite ?_ ?_ | refine LeO.bind ?_ (fun _ => ?_)
set_option maxHeartbeats 8000000 in
set_option maxRecDepth 100000 in
theorem slices_ContainsFunc_w34.calls (k : Nat) (A0 : Option Addr) (c0 : Nat) (l0 : List ByteArray) (gb28 : Nat) (A1_0_0 : Option Addr) (c1_0_0 : Nat) (l1_0_0 : List (S41)) (r : Bool) (w : World) (hr0 : Kd.C Kd.string w A0 l0.length l0) (hc0 : l0.length ≤ c0) (hr1_0_0 : Kd.C k41 w A1_0_0 l1_0_0.length l1_0_0) (hc1_0_0 : l1_0_0.length ≤ c1_0_0) (hk28 : w.heap[gb28]? = some (.cells #[.slice A1_0_0 l1_0_0.length c1_0_0] 27 (0, 0))) (h : slices_ContainsFunc_w34.f k l0 l1_0_0 = some r) :
  Calls Try.prog 33 #[.slice A0 l0.length c0, .func (.func 34) #[] #[.pointer (some ⟨gb28, 0, none⟩)]] w fun e w' => e = .returned (.bool r) ∧ Below w.heap.size w w' := by
 have HR0 := Aside0.mk hr0
 have HC0 := Aside0.mk hc0
 clear hr0 hc0
 have HR1_0_0 := Aside0.mk hr1_0_0
 have HC1_0_0 := Aside0.mk hc1_0_0
 clear hr1_0_0 hc1_0_0
 have BK28 := Aside0.mk hk28
 clear hk28
 have HB := Aside0.mk (Below.refl w.heap.size w)
 have H : ((slices_IndexFunc_w34.f k l0 l1_0_0).bind fun t253 => (some (decide (t253 ≥ 0)))) = some r := h
 clear h
 replace H := Option.bind_eq_some_iff.mp H
 obtain ⟨t253, A30, H⟩ := H
 replace H : (some (decide (t253 ≥ 0))) = some r := H
 have A3 := Aside0.mk A30
 clear A30
 obtain rfl := Option.some.inj H
 go_enter Try.func33, Try.ntmps33
 go_wp2_with (first | ((with_reducible refine gate_callee (f := 47) rfl ?_); refine goesL_ (some 7) rfl rfl Try.func47 (by kernel_rfl) rfl #[.slice A0 l0.length c0, .func (.func 34) #[] #[.pointer (some ⟨gb28, 0, none⟩)]] rfl aE ?_; (with_reducible refine (slices_IndexFunc_w34.calls k _ _ l0 gb28 A1_0_0 c1_0_0 l1_0_0 t253 _ ?side1 ?side2 ?side3 ?side4 ?side5 A3.out).mono ?_); (case side1 => repeat (first | exact HR0.out | (with_reducible refine Kd.C_alloc ?_ _) | (with_reducible refine Kd.C_drewN ?_ _) | (with_reducible refine Kd.C_drew ?_))); (case side2 => exact HC0.out); (case side3 => repeat (first | exact HR1_0_0.out | (with_reducible refine Kd.C_alloc ?_ _) | (with_reducible refine Kd.C_drewN ?_ _) | (with_reducible refine Kd.C_drew ?_))); (case side4 => exact HC1_0_0.out); (case side5 => refine bU ?_; exact BK28.out); rintro e w4 ⟨rfl, hb⟩; refine ⟨_, rfl, ?_⟩; replace BK28 := bB (bV BK28) hb; replace HB := bH (lU) hb; (try clear hb)))
 go_ret
 exact ⟨eE, lU⟩
end Go.Proofs.Ytehkpnnidbghhab.PFnExactStaleBetween
namespace Go.Proofs.Ytehkpnnidbghhab.PFnExactStaleBetween
open Go.RowKit Go.Proofs.YtehkpnnidbghhabW.PrintWords Go.Proofs.YtehkpnnidbghhabW.PrintLast Go.Proofs.YtehkpnnidbghhabW.PrintMore
attribute [local go_sem] max2_int min2_int max_two min_two max_three min_three max_four min_four   -- for this text's walks alone
set_option linter.unusedVariables false
set_option linter.unusedSimpArgs false
mutual
def impl_GoodAssets.l0 : Nat → List (S41) → Int → Int → List (S41) → Option (Bool)
 | 0, _, _, _, _ => none
 | k + 1, x5, x6, x7, x255000 => if x7 < x6 then (if 0 ≤ x7 then (if x7 < (x5.length : Int) then ((impl_GoodName.f k ((rd_T41 x5 x7).f0)).bind fun t260 => (if t260 = true then (if x7 > 0 then (if 0 ≤ (wrap64 (x7 - 1)) then (if (wrap64 (x7 - 1)) < (x255000.length : Int) then (if ((Op.bytesLess (((rd_T41 x255000 (wrap64 (x7 - 1))).f0).toList) (((rd_T41 x5 x7).f0).toList)) = true) then ((impl_areNames.f k ((rd_T41 x5 x7).f1)).bind fun t262 => (if t262 = true then (if (((rd_T41 x5 x7).f1).length : Int) > 10 then (impl_GoodAssets.j1 k x5 x6 x7 true x255000 ((rd_T41 x5 x7).f0) ((rd_T41 x5 x7).f1) ((rd_T41 x5 x7).f2)) else (impl_GoodAssets.j1 k x5 x6 x7 (decide ((((rd_T41 x5 x7).f2).length : Int) > 400)) x255000 ((rd_T41 x5 x7).f0) ((rd_T41 x5 x7).f1) ((rd_T41 x5 x7).f2))) else (impl_GoodAssets.j1 k x5 x6 x7 true x255000 ((rd_T41 x5 x7).f0) ((rd_T41 x5 x7).f1) ((rd_T41 x5 x7).f2)))) else (impl_GoodAssets.j1 k x5 x6 x7 true x255000 ((rd_T41 x5 x7).f0) ((rd_T41 x5 x7).f1) ((rd_T41 x5 x7).f2))) else (none)) else (none)) else ((impl_areNames.f k ((rd_T41 x5 x7).f1)).bind fun t263 => (if t263 = true then (if (((rd_T41 x5 x7).f1).length : Int) > 10 then (impl_GoodAssets.j1 k x5 x6 x7 true x255000 ((rd_T41 x5 x7).f0) ((rd_T41 x5 x7).f1) ((rd_T41 x5 x7).f2)) else (impl_GoodAssets.j1 k x5 x6 x7 (decide ((((rd_T41 x5 x7).f2).length : Int) > 400)) x255000 ((rd_T41 x5 x7).f0) ((rd_T41 x5 x7).f1) ((rd_T41 x5 x7).f2))) else (impl_GoodAssets.j1 k x5 x6 x7 true x255000 ((rd_T41 x5 x7).f0) ((rd_T41 x5 x7).f1) ((rd_T41 x5 x7).f2))))) else (impl_GoodAssets.j1 k x5 x6 x7 true x255000 ((rd_T41 x5 x7).f0) ((rd_T41 x5 x7).f1) ((rd_T41 x5 x7).f2)))) else (none)) else (none)) else (if (x255000.length : Int) ≤ 30 then ((impl_makeOrder.f k x255000).bind fun t255 => (some ((t255.length : Int) == (x255000.length : Int)))) else (some false))
def impl_GoodAssets.j1 : Nat → List (S41) → Int → Int → Bool → List (S41) → ByteArray → List ByteArray → List Int → Option (Bool)
 | 0, _, _, _, _, _, _, _, _ => none
 | k + 1, x5, x6, x7, x48, x255000, x260000, x260001, x260002 => if x48 = true then (some false) else ((slices_ContainsFunc_w34.f k x260001 x255000).bind fun t264 => (if t264 = true then (some false) else (impl_GoodAssets.l0 k x5 x6 (wrap64 (x7 + 1)) x255000)))
end
def impl_GoodAssets.f (k : Nat) (l0 : List (S41)) : Option (Bool) := impl_GoodAssets.l0 k l0 (l0.length : Int) 0 l0
theorem impl_GoodAssets.mono_l : ∀ k, (∀ y0 y1 y2 y3, LeO (impl_GoodAssets.l0 k y0 y1 y2 y3) (impl_GoodAssets.l0 (k + 1) y0 y1 y2 y3)) ∧ (∀ y0 y1 y2 y3 y4 y5 y6 y7, LeO (impl_GoodAssets.j1 k y0 y1 y2 y3 y4 y5 y6 y7) (impl_GoodAssets.j1 (k + 1) y0 y1 y2 y3 y4 y5 y6 y7))
 | 0 => ⟨fun _ _ _ _ r h => by simp [impl_GoodAssets.l0] at h, fun _ _ _ _ _ _ _ _ r h => by simp [impl_GoodAssets.j1] at h⟩
 | k + 1 => by
  obtain ⟨ih0, ih1⟩ := impl_GoodAssets.mono_l k
  refine ⟨?_, ?_⟩
  ·intro y0 y1 y2 y3
   unfold impl_GoodAssets.l0
   repeat' first
   | (with_reducible exact ih0 _ _ _ _)
   | (with_reducible exact ih1 _ _ _ _ _ _ _ _)
   | (with_reducible exact impl_GoodName.mono _ _)
   | (with_reducible exact impl_areNames.mono _ _)
   | (with_reducible exact impl_makeOrder.mono _ _)
   | (with_reducible exact slices_ContainsFunc_w34.mono _ _ _)
   | (with_reducible first | exact LeO.refl _ | exact LeO.none _ | refine LeO.ite ?_ ?_ | refine LeO.bind ?_ (fun _ => ?_))
   | exact ih0 _ _ _ _
   | exact ih1 _ _ _ _ _ _ _ _
   | exact impl_GoodName.mono _ _
   | exact impl_areNames.mono _ _
   | exact impl_makeOrder.mono _ _
   | exact slices_ContainsFunc_w34.mono _ _ _ | exact LeO.none _ | refine LeO.ite ?_ ?_ | refine LeO.bind ?_ (fun _ => ?_)
  ·intro y0 y1 y2 y3 y4 y5 y6 y7
   unfold impl_GoodAssets.j1
   repeat' first
   | (with_reducible exact ih0 _ _ _ _)
   | (with_reducible exact ih1 _ _ _ _ _ _ _ _)
   | (with_reducible exact impl_GoodName.mono _ _)
   | (with_reducible exact impl_areNames.mono _ _)
   | (with_reducible exact impl_makeOrder.mono _ _)
   | (with_reducible exact slices_ContainsFunc_w34.mono _ _ _)
   | (with_reducible first | exact LeO.refl _ | exact LeO.none _ | refine LeO.ite ?_ ?_ | refine LeO.bind ?_ (fun _ => ?_))
   | exact ih0 _ _ _ _
   | exact ih1 _ _ _ _ _ _ _ _
   | exact impl_GoodName.mono _ _
   | exact impl_areNames.mono _ _
   | exact impl_makeOrder.mono _ _
   | exact slices_ContainsFunc_w34.mono _ _ _ | exact LeO.none _ | refine LeO.ite ?_ ?_ | refine LeO.bind ?_ (fun _ => ?_)
theorem impl_GoodAssets.mono : ∀ a0 k, LeO (impl_GoodAssets.f k a0) (impl_GoodAssets.f (k + 1) a0) := by
 intro a0 k
 obtain ⟨ih0, ih1⟩ := impl_GoodAssets.mono_l k
 unfold impl_GoodAssets.f
 repeat' first
   | (with_reducible exact ih0 _ _ _ _)
   | (with_reducible exact ih1 _ _ _ _ _ _ _ _)
   | (with_reducible exact impl_GoodName.mono _ _)
   | (with_reducible exact impl_areNames.mono _ _)
   | (with_reducible exact impl_makeOrder.mono _ _)
   | (with_reducible exact slices_ContainsFunc_w34.mono _ _ _)
   | (with_reducible first | exact LeO.refl _ | exact LeO.none _ | refine LeO.ite ?_ ?_ | refine LeO.bind ?_ (fun _ => ?_))
   | exact ih0 _ _ _ _
   | exact ih1 _ _ _ _ _ _ _ _
   | exact impl_GoodName.mono _ _
   | exact impl_areNames.mono _ _
   | exact impl_makeOrder.mono _ _
   | exact slices_ContainsFunc_w34.mono _ _ _ | exact LeO.none _ | refine LeO.ite ?_ ?_ | refine LeO.bind ?_ (fun _ => ?_)
def impl_GoodAssets.T4 : Bool × List (List Nat × List Nat) := (true, [([], []), ([0], [0]), ([1], [1]), ([2], [2]), ([3, 2], [3]), ([4], [4]), ([5, 4], [4, 5]), ([6, 4, 4], [4, 6]), ([7], [7]), ([7], [7]), ([9, 7], [7, 9]), ([8, 10, 7], [7, 8, 10]), ([11, 7], [7, 11]), ([12, 7], [7, 12]), ([7], [7]), ([14, 7], [7, 14]), ([13, 15, 7], [7, 13, 15]), ([7, 16, 4], [4, 7, 16]), ([4, 17], [4, 17]), ([18, 7], [18]), ([19], [19]), ([20, 19], [19, 20]), ([21, 19, 19], [19, 21]), ([22, 19], [19, 22]), ([19, 23], [19, 23]), ([24, 22], [24]), ([25], [25]), ([26, 25], [25, 26]), ([27, 25], [25, 27]), ([28, 25], [25, 28]), ([25, 29], [25, 29]), ([30, 25], [30]), ([31], [31]), ([32, 31], [31, 32]), ([33, 31], [31, 33]), ([34, 31], [31, 34]), ([31, 35], [31, 35])])
def impl_GoodAssets.B4 : List Nat := [0, 1, 3, 7, 15, 31, 63, 127, 255, 255, 767, 2047, 4095, 8191, 255, 16639, 65535, 131071, 262143, 524287, 1048575, 2097151, 4194303, 8388607, 16777215, 33554431, 67108863, 134217727, 268435455, 536870911, 1073741823, 2147483647, 4294967295, 8589934591, 17179869183, 34359738367, 68719476735]
theorem impl_GoodAssets.tab4 : rtab .any (opsOf Try.f18 4) = impl_GoodAssets.T4 := by kernel_rfl
theorem impl_GoodAssets.bits4 : waitsOk impl_GoodAssets.T4.2 impl_GoodAssets.B4 = true := by kernel_rfl
def impl_GoodAssets.T9 : Bool × List (List Nat × List Nat) := (true, [([], []), ([0], [0]), ([1], [1]), ([2], [2]), ([3], [3]), ([4, 3, 3], [3, 4]), ([5, 3], [3, 5]), ([3], [3]), ([7, 3], [3, 7]), ([6, 8, 3], [3, 6, 8]), ([3, 9], [3, 9]), ([10, 5, 0, 1, 2, 3, 4, 5, 6, 7, 8, 9, 10], [10])])
def impl_GoodAssets.B9 : List Nat := [0, 1, 3, 7, 15, 31, 63, 15, 143, 511, 1023, 2047]
theorem impl_GoodAssets.tab9 : rtab .any (opsOf Try.f18 9) = impl_GoodAssets.T9 := by kernel_rfl
theorem impl_GoodAssets.bits9 : waitsOk impl_GoodAssets.T9.2 impl_GoodAssets.B9 = true := by kernel_rfl
set_option maxHeartbeats 8000000 in
set_option maxRecDepth 100000 in
theorem impl_GoodAssets.calls (k : Nat) (A0 : Option Addr) (c0 : Nat) (l0 : List (S41)) (r : Bool) (w : World) (hr0 : Kd.C k41 w A0 l0.length l0) (hc0 : l0.length ≤ c0) (h : impl_GoodAssets.f k l0 = some r) :
  Calls Try.prog 18 #[.slice A0 l0.length c0] w fun e w' => e = .returned (.bool r) ∧ Below w.heap.size w w' := by
 have hu27 := Try.underlying27
 have hu41 := Try.underlying41
 have HR0 := Aside0.mk hr0
 have HC0 := Aside0.mk hc0
 clear hr0 hc0
 have HB := Aside0.mk (Below.refl w.heap.size w)
 have H : (impl_GoodAssets.l0 k l0 (l0.length : Int) 0 l0) = some r := h
 clear h
 have H' := Aside0.mk H
 clear H
 go_enter Try.func18, Try.ntmps18
 go_wp2_with (first | ((with_reducible refine gate_dst (N := 1) rfl ?_); (try (refine gate_guard (by rfl) ?_; dsimp only)); refine box_event rfl (N := 1) rfl (cs := #[.slice A0 l0.length c0]) (t := 27) sE ?_; intro gb254 hg w2 hbox hb; have BK254 := Aside0.mk hbox; have GW254 := gS w hg (lU); have GE254 := gS w hg (lU); replace HB := bH (lU) hb; clear hb hbox hg; have hcz3_0 := cz BK254 0 (.slice A0 l0.length c0); have hfz3_0 := fz BK254 0))
 (try simp only [Act.put, List.setIfInBounds_toArray, List.set_cons_zero, List.set_cons_succ])
 go_loopg [7] k (fun kq v7 w' => ∃ (x7_1 : Int), v7 = .int .i64 x7_1 ∧ Aside0 (impl_GoodAssets.l0 kq l0 (l0.length : Int) x7_1 l0 = some r) ∧ Aside0 (kq ≤ k) ∧ Aside0 (w'.heap[gb254]? = some (.cells #[(.slice A0 l0.length c0)] 27 (0, 0))) ∧ Aside0 (Below w.heap.size w w'))
 case atStart => exact ⟨(0), tE, H', ⟨Nat.le_refl _⟩, ⟨by refine bU ?_; exact BK254.out⟩, ⟨by repeat (first | (with_reducible first | exact HB.out | apply below_alloc | apply pw_below_drewN | apply below_drew1 | refine below_set ?_ GE254.out) | exact HB.out)⟩⟩
 case round =>
  clear H'
  try clear c1
  try clear p2
  try clear hcz3_0
  try clear hfz3_0
  obtain ⟨x7_1, rfl, HA, HK1, BK254, HB⟩ := hrel
  cases gk with
  | zero => exact absurd HA.out (by simp [impl_GoodAssets.l0])
  | succ k1 =>
   have H := HA.out
   clear HA
   simp only [impl_GoodAssets.l0] at H
   by_cases c4 : x7_1 < (l0.length : Int)
   ·rw [if_pos c4] at H
    have c4b0 : decide (x7_1 < (l0.length : Int)) = true := decide_eq_true c4
    clear c4
    by_cases c5 : 0 ≤ x7_1
    ·rw [if_pos c5] at H
     have c5b0 : decide (0 ≤ x7_1) = true := decide_eq_true c5
     clear c5
     by_cases c6 : x7_1 < (l0.length : Int)
     ·rw [if_pos c6] at H
      have c6b0 : decide (x7_1 < (l0.length : Int)) = true := decide_eq_true c6
      clear c6
      have HC7 := Aside0.mk H
      clear H
      have p258 : 0 ≤ (x7_1 : Int) := of_decide_eq_true hE
      have q258 : x7_1 < (l0.length : Int) := of_decide_eq_true hE
      obtain ⟨ad258, A258_1, c258_1, A258_2, c258_2, e258, hx258_0, hx258_1, hx258_2, hl258_1, hi258_1, hl258_2, hi258_2⟩ := at_T41 HR0.out x7_1 p258 q258
      cases e258
      replace hx258_0 := (HB.out.cell (World.block_lt_of_cell? w _ hx258_0)).trans hx258_0
      replace hx258_1 := (HB.out.cell (World.block_lt_of_cell? w _ hx258_1)).trans hx258_1
      replace hx258_2 := (HB.out.cell (World.block_lt_of_cell? w _ hx258_2)).trans hx258_2
      have HR258_1 := Aside0.mk hi258_1
      have HC258_1 := Aside0.mk hl258_1
      clear hi258_1 hl258_1
      have HR258_2 := Aside0.mk hi258_2
      have HC258_2 := Aside0.mk hl258_2
      clear hi258_2 hl258_2
      replace p258 := eq_true p258
      replace q258 := eq_true q258
      go_upto_region 4 with (first | ((with_reducible refine gate_dst (N := 4) rfl ?_); (try (refine gate_guard (by rfl) ?_; dsimp only)); refine box_event rfl (N := 4) rfl (cs := #[.string (⟨#[]⟩ : ByteArray), .slice none 0 0, .slice none 0 0]) (t := 41) sE ?_; intro gb259 hg w8 hbox hb; have BK259 := Aside0.mk hbox; have GW259 := gS w hg (lV1 GE254); have GE259 := gS w hg (lV1 GE254); replace HB := bH (lV1 GE254) hb; have NB254_259 := nL hg (bV BK254); have NB259_254 := nG hg (bV BK254); replace BK254 := bB (bV BK254) hb; clear hb hbox hg; have hnb9 := NB259_254.out; have hnc9 := NB254_259.out; have hcz10_0 := cz BK259 0 (.string (⟨#[]⟩ : ByteArray)); have hcz10_1 := cz BK259 1 (.slice none 0 0); have hcz10_2 := cz BK259 2 (.slice none 0 0); have hfz10_0 := fz BK259 0; have hfz10_1 := fz BK259 1; have hfz10_2 := fz BK259 2) | ((with_reducible refine gate_store (t := 41) (p := 4) rfl ?_); refine store_event (t := 41) (p := 4) (v := ?vo_w11) (w1 := (((w8.setCell ⟨gb259, 0, none⟩ (.string ((rd_T41 l0 x7_1).f0))).setCell ⟨gb259, 1, none⟩ (.slice A258_1 ((rd_T41 l0 x7_1).f1).length c258_1)).setCell ⟨gb259, 2, none⟩ (.slice A258_2 ((rd_T41 l0 x7_1).f2).length c258_2))) ?hg ?ho ?hn ?hr ?_; (case ho => rfl); (case hg => rfl); (case hn => rfl); (case hr => first | (go_simp; done) | (go_simp; rfl) | (have hq0_ := (blk_cell BK259.out 0).trans (show _ = some _ from rfl); have hf0_ := blk_frozen BK259.out 0; have hq1_ := (blk_cell BK259.out 1).trans (show _ = some _ from rfl); have hf1_ := blk_frozen BK259.out 1; have hq2_ := (blk_cell BK259.out 2).trans (show _ = some _ from rfl); have hf2_ := blk_frozen BK259.out 2; first | (go_simp; done) | (go_simp; rfl))); intro w11 hw; replace BK254 : Aside0 (w11.heap[gb254]? = some (.cells #[.slice (some ad258) l0.length c0] 27 (0, 0))) := ⟨(by rw [hw]; exact (bG NB254_259 BK254))⟩; replace BK259 : Aside0 (w11.heap[gb259]? = some (.cells #[.string ((rd_T41 l0 x7_1).f0), .slice A258_1 ((rd_T41 l0 x7_1).f1).length c258_1, .slice A258_2 ((rd_T41 l0 x7_1).f2).length c258_2] 41 (0, 0))) := ⟨(by rw [hw]; exact (by refine bU ?_; refine blk_put (cs := #[.string ((rd_T41 l0 x7_1).f0), .slice A258_1 ((rd_T41 l0 x7_1).f1).length c258_1, .slice none 0 0]) ?_ 2 _ rfl; refine bU ?_; refine blk_put (cs := #[.string ((rd_T41 l0 x7_1).f0), .slice none 0 0, .slice none 0 0]) ?_ 1 _ rfl; refine bU ?_; refine blk_put (cs := #[.string (⟨#[]⟩ : ByteArray), .slice none 0 0, .slice none 0 0]) ?_ 0 _ rfl; refine bU ?_; exact BK259.out))⟩; replace HB : Aside0 (Below w.heap.size w w11) := ⟨(by rw [hw]; exact (lV2 GE254 GE259))⟩; clear hw))
      (try simp only [Act.put, List.setIfInBounds_toArray, List.set_cons_zero, List.set_cons_succ])
      go_cut [48] (fun v48 wc => ∃ (kq : Nat) (x48_6 : Bool), v48 = .bool x48_6 ∧ Aside0 (impl_GoodAssets.j1 kq l0 (l0.length : Int) x7_1 x48_6 l0 ((rd_T41 l0 x7_1).f0) ((rd_T41 l0 x7_1).f1) ((rd_T41 l0 x7_1).f2) = some r) ∧ Aside0 (kq ≤ k1) ∧ Aside0 (wc.heap[gb254]? = some (.cells #[(.slice (some ad258) l0.length c0)] 27 (0, 0))) ∧ Aside0 (wc.heap[gb259]? = some (.cells #[.string ((rd_T41 l0 x7_1).f0), (.slice A258_1 ((rd_T41 l0 x7_1).f1).length c258_1), (.slice A258_2 ((rd_T41 l0 x7_1).f2).length c258_2)] 41 (0, 0))) ∧ Aside0 (Below w.heap.size w wc))
      case first =>
       have H := HC7.out
       clear HC7
       replace H := Option.bind_eq_some_iff.mp H
       obtain ⟨t260, A120, H⟩ := H
       replace H : (if t260 = true then (if x7_1 > 0 then (if 0 ≤ (wrap64 (x7_1 - 1)) then (if (wrap64 (x7_1 - 1)) < (l0.length : Int) then (if ((Op.bytesLess (((rd_T41 l0 (wrap64 (x7_1 - 1))).f0).toList) (((rd_T41 l0 x7_1).f0).toList)) = true) then ((impl_areNames.f k1 ((rd_T41 l0 x7_1).f1)).bind fun t262 => (if t262 = true then (if (((rd_T41 l0 x7_1).f1).length : Int) > 10 then (impl_GoodAssets.j1 k1 l0 (l0.length : Int) x7_1 true l0 ((rd_T41 l0 x7_1).f0) ((rd_T41 l0 x7_1).f1) ((rd_T41 l0 x7_1).f2)) else (impl_GoodAssets.j1 k1 l0 (l0.length : Int) x7_1 (decide ((((rd_T41 l0 x7_1).f2).length : Int) > 400)) l0 ((rd_T41 l0 x7_1).f0) ((rd_T41 l0 x7_1).f1) ((rd_T41 l0 x7_1).f2))) else (impl_GoodAssets.j1 k1 l0 (l0.length : Int) x7_1 true l0 ((rd_T41 l0 x7_1).f0) ((rd_T41 l0 x7_1).f1) ((rd_T41 l0 x7_1).f2)))) else (impl_GoodAssets.j1 k1 l0 (l0.length : Int) x7_1 true l0 ((rd_T41 l0 x7_1).f0) ((rd_T41 l0 x7_1).f1) ((rd_T41 l0 x7_1).f2))) else (none)) else (none)) else ((impl_areNames.f k1 ((rd_T41 l0 x7_1).f1)).bind fun t263 => (if t263 = true then (if (((rd_T41 l0 x7_1).f1).length : Int) > 10 then (impl_GoodAssets.j1 k1 l0 (l0.length : Int) x7_1 true l0 ((rd_T41 l0 x7_1).f0) ((rd_T41 l0 x7_1).f1) ((rd_T41 l0 x7_1).f2)) else (impl_GoodAssets.j1 k1 l0 (l0.length : Int) x7_1 (decide ((((rd_T41 l0 x7_1).f2).length : Int) > 400)) l0 ((rd_T41 l0 x7_1).f0) ((rd_T41 l0 x7_1).f1) ((rd_T41 l0 x7_1).f2))) else (impl_GoodAssets.j1 k1 l0 (l0.length : Int) x7_1 true l0 ((rd_T41 l0 x7_1).f0) ((rd_T41 l0 x7_1).f1) ((rd_T41 l0 x7_1).f2))))) else (impl_GoodAssets.j1 k1 l0 (l0.length : Int) x7_1 true l0 ((rd_T41 l0 x7_1).f0) ((rd_T41 l0 x7_1).f1) ((rd_T41 l0 x7_1).f2))) = some r := H
       have A12 := Aside0.mk A120
       clear A120
       by_cases c13 : t260 = true
       ·subst c13
        have H1 : (if x7_1 > 0 then (if 0 ≤ (wrap64 (x7_1 - 1)) then (if (wrap64 (x7_1 - 1)) < (l0.length : Int) then (if ((Op.bytesLess (((rd_T41 l0 (wrap64 (x7_1 - 1))).f0).toList) (((rd_T41 l0 x7_1).f0).toList)) = true) then ((impl_areNames.f k1 ((rd_T41 l0 x7_1).f1)).bind fun t262 => (if t262 = true then (if (((rd_T41 l0 x7_1).f1).length : Int) > 10 then (impl_GoodAssets.j1 k1 l0 (l0.length : Int) x7_1 true l0 ((rd_T41 l0 x7_1).f0) ((rd_T41 l0 x7_1).f1) ((rd_T41 l0 x7_1).f2)) else (impl_GoodAssets.j1 k1 l0 (l0.length : Int) x7_1 (decide ((((rd_T41 l0 x7_1).f2).length : Int) > 400)) l0 ((rd_T41 l0 x7_1).f0) ((rd_T41 l0 x7_1).f1) ((rd_T41 l0 x7_1).f2))) else (impl_GoodAssets.j1 k1 l0 (l0.length : Int) x7_1 true l0 ((rd_T41 l0 x7_1).f0) ((rd_T41 l0 x7_1).f1) ((rd_T41 l0 x7_1).f2)))) else (impl_GoodAssets.j1 k1 l0 (l0.length : Int) x7_1 true l0 ((rd_T41 l0 x7_1).f0) ((rd_T41 l0 x7_1).f1) ((rd_T41 l0 x7_1).f2))) else (none)) else (none)) else ((impl_areNames.f k1 ((rd_T41 l0 x7_1).f1)).bind fun t263 => (if t263 = true then (if (((rd_T41 l0 x7_1).f1).length : Int) > 10 then (impl_GoodAssets.j1 k1 l0 (l0.length : Int) x7_1 true l0 ((rd_T41 l0 x7_1).f0) ((rd_T41 l0 x7_1).f1) ((rd_T41 l0 x7_1).f2)) else (impl_GoodAssets.j1 k1 l0 (l0.length : Int) x7_1 (decide ((((rd_T41 l0 x7_1).f2).length : Int) > 400)) l0 ((rd_T41 l0 x7_1).f0) ((rd_T41 l0 x7_1).f1) ((rd_T41 l0 x7_1).f2))) else (impl_GoodAssets.j1 k1 l0 (l0.length : Int) x7_1 true l0 ((rd_T41 l0 x7_1).f0) ((rd_T41 l0 x7_1).f1) ((rd_T41 l0 x7_1).f2))))) = some r := by rw [if_pos rfl] at H; exact H
        clear H
        have H := H1
        clear H1
        by_cases c14 : x7_1 > 0
        ·rw [if_pos c14] at H
         have c14b0 : decide (0 < x7_1) = true := decide_eq_true c14
         clear c14
         (first | rw [c14b0] | (simp only [i64_w, i32_w]; rw [c14b0]) | (rw [c14b2]; simp only [Bool.not_false, Bool.not_true]) | skip)
         obtain ⟨ji15, hji15⟩ : ∃ j_ : Int, (wrap64 (x7_1 - 1)) = j_ := ⟨_, rfl⟩
         replace H : (if 0 ≤ (ji15) then (if (ji15) < (l0.length : Int) then (if ((Op.bytesLess (((rd_T41 l0 (ji15)).f0).toList) (((rd_T41 l0 x7_1).f0).toList)) = true) then ((impl_areNames.f k1 ((rd_T41 l0 x7_1).f1)).bind fun t262 => (if t262 = true then (if (((rd_T41 l0 x7_1).f1).length : Int) > 10 then (impl_GoodAssets.j1 k1 l0 (l0.length : Int) x7_1 true l0 ((rd_T41 l0 x7_1).f0) ((rd_T41 l0 x7_1).f1) ((rd_T41 l0 x7_1).f2)) else (impl_GoodAssets.j1 k1 l0 (l0.length : Int) x7_1 (decide ((((rd_T41 l0 x7_1).f2).length : Int) > 400)) l0 ((rd_T41 l0 x7_1).f0) ((rd_T41 l0 x7_1).f1) ((rd_T41 l0 x7_1).f2))) else (impl_GoodAssets.j1 k1 l0 (l0.length : Int) x7_1 true l0 ((rd_T41 l0 x7_1).f0) ((rd_T41 l0 x7_1).f1) ((rd_T41 l0 x7_1).f2)))) else (impl_GoodAssets.j1 k1 l0 (l0.length : Int) x7_1 true l0 ((rd_T41 l0 x7_1).f0) ((rd_T41 l0 x7_1).f1) ((rd_T41 l0 x7_1).f2))) else (none)) else (none)) = some r := by first | (rw [hji15] at H; exact H) | (simp only [hji15] at H ⊢; exact H)
         (try rw [hji15] at A12)
         have hji15w : (IntKind.i64.wrap (x7_1 - 1)) = ji15 := (i64_w _).trans hji15
         by_cases c16 : 0 ≤ (ji15)
         ·rw [if_pos c16] at H
          have c16b0 : decide (0 ≤ (ji15)) = true := decide_eq_true c16
          clear c16
          by_cases c17 : (ji15) < (l0.length : Int)
          ·rw [if_pos c17] at H
           have c17b0 : decide ((ji15) < (l0.length : Int)) = true := decide_eq_true c17
           clear c17
           by_cases c18 : ((Op.bytesLess (((rd_T41 l0 (ji15)).f0).toList) (((rd_T41 l0 x7_1).f0).toList)) = true)
           ·rw [if_pos c18] at H
            have c18b0 : (Op.bytesLess (((rd_T41 l0 (ji15)).f0).toList) (((rd_T41 l0 x7_1).f0).toList)) = true := c18
            clear c18
            replace H := Option.bind_eq_some_iff.mp H
            obtain ⟨t262, A190, H⟩ := H
            replace H : (if t262 = true then (if (((rd_T41 l0 x7_1).f1).length : Int) > 10 then (impl_GoodAssets.j1 k1 l0 (l0.length : Int) x7_1 true l0 ((rd_T41 l0 x7_1).f0) ((rd_T41 l0 x7_1).f1) ((rd_T41 l0 x7_1).f2)) else (impl_GoodAssets.j1 k1 l0 (l0.length : Int) x7_1 (decide ((((rd_T41 l0 x7_1).f2).length : Int) > 400)) l0 ((rd_T41 l0 x7_1).f0) ((rd_T41 l0 x7_1).f1) ((rd_T41 l0 x7_1).f2))) else (impl_GoodAssets.j1 k1 l0 (l0.length : Int) x7_1 true l0 ((rd_T41 l0 x7_1).f0) ((rd_T41 l0 x7_1).f1) ((rd_T41 l0 x7_1).f2))) = some r := H
            have A19 := Aside0.mk A190
            clear A190
            by_cases c20 : t262 = true
            ·subst c20
             have H1 : (if (((rd_T41 l0 x7_1).f1).length : Int) > 10 then (impl_GoodAssets.j1 k1 l0 (l0.length : Int) x7_1 true l0 ((rd_T41 l0 x7_1).f0) ((rd_T41 l0 x7_1).f1) ((rd_T41 l0 x7_1).f2)) else (impl_GoodAssets.j1 k1 l0 (l0.length : Int) x7_1 (decide ((((rd_T41 l0 x7_1).f2).length : Int) > 400)) l0 ((rd_T41 l0 x7_1).f0) ((rd_T41 l0 x7_1).f1) ((rd_T41 l0 x7_1).f2))) = some r := by rw [if_pos rfl] at H; exact H
             clear H
             have H := H1
             clear H1
             by_cases c21 : (((rd_T41 l0 x7_1).f1).length : Int) > 10
             ·rw [if_pos c21] at H
              have c21b0 : decide (10 < (((rd_T41 l0 x7_1).f1).length : Int)) = true := decide_eq_true c21
              have c21b1 : decide (10 < ((rd_T41 l0 x7_1).f1).length) = true := decide_eq_true (by omega)
              clear c21
              have H' := Aside0.mk H
              clear H
              try go_wp2
              replace BK254 := Aside0.mk (blk_drew BK254.out)
              replace BK259 := Aside0.mk (blk_drew BK259.out)
              replace HB := Aside0.mk (below_drew1 HB.out)
              have p261 : 0 ≤ ((ji15) : Int) := of_decide_eq_true hE
              have q261 : (ji15) < (l0.length : Int) := of_decide_eq_true hE
              obtain ⟨ad261, A261_1, c261_1, A261_2, c261_2, e261, hx261_0, hx261_1, hx261_2, hl261_1, hi261_1, hl261_2, hi261_2⟩ := at_T41 HR0.out (ji15) p261 q261
              have hw261_2 := hx261_2
              have hw261_1 := hx261_1
              have hw261_0 := hx261_0
              obtain rfl : ad258 = ad261 := (by injection e261)
              replace hx261_0 := (HB.out.cell (World.block_lt_of_cell? w _ hx261_0)).trans hx261_0
              replace hx261_1 := (HB.out.cell (World.block_lt_of_cell? w _ hx261_1)).trans hx261_1
              replace hx261_2 := (HB.out.cell (World.block_lt_of_cell? w _ hx261_2)).trans hx261_2
              have HR261_1 := Aside0.mk hi261_1
              have HC261_1 := Aside0.mk hl261_1
              clear hi261_1 hl261_1
              have HR261_2 := Aside0.mk hi261_2
              have HC261_2 := Aside0.mk hl261_2
              clear hi261_2 hl261_2
              replace p261 := eq_true p261
              replace q261 := eq_true q261
              refine start_ (n := 37) (S := fun w' => w'.cell? ⟨gb259, 0, none⟩ = some (.string ((rd_T41 l0 x7_1).f0)) ∧ w'.cell? ⟨gb259, 1, none⟩ = some (.slice A258_1 ((rd_T41 l0 x7_1).f1).length c258_1) ∧ w'.cell? ⟨gb259, 2, none⟩ = some (.slice A258_2 ((rd_T41 l0 x7_1).f2).length c258_2) ∧ w'.cell? ⟨gb254, 0, none⟩ = some (.slice (some ad258) l0.length c0) ∧ w'.cell? (ad258.add (((ji15)).toNat * 3)) = some (.string ((rd_T41 l0 (ji15)).f0)) ∧ w'.cell? ⟨(ad258.add (((ji15)).toNat * 3)).block, (ad258.add (((ji15)).toNat * 3)).off + 1, none⟩ = some (.slice A261_1 ((rd_T41 l0 (ji15)).f1).length c261_1) ∧ w'.cell? ⟨(ad258.add (((ji15)).toNat * 3)).block, (ad258.add (((ji15)).toNat * 3)).off + 2, none⟩ = some (.slice A261_2 ((rd_T41 l0 (ji15)).f2).length c261_2)) (ds := []) #[false, false, false, false, false, false, false, false, false, false, false, false, false, false, false, false, false, false, false, false, false, false, false, false, false, false, false, false, false, false, false, false, false, false, false, false, false] (by kernel_rfl) rfl rfl ⟨cz BK259 0 _, cz BK259 1 _, cz BK259 2 _, cz BK254 0 _, ((HB.out.cell (World.block_lt_of_cell? w _ hw261_0)).trans hw261_0), ((HB.out.cell (World.block_lt_of_cell? w _ hw261_1)).trans hw261_1), ((HB.out.cell (World.block_lt_of_cell? w _ hw261_2)).trans hw261_2)⟩ (fun hHeld => ?_); refine with_tabW impl_GoodAssets.tab4 impl_GoodAssets.bits4 (fun HT_ HW_ => ?_)
              generalize w11.drew = w22 at BK254 BK259 HB HR261_1 HR261_2 hx261_0 hx261_1 hx261_2 hHeld ⊢
              refine pureA 0 12 (bz 37 1) rfl rfl (any_of HT_.out (by kernel_rfl)) ?_
              refine takeA 1 13 (bz 37 3) rfl rfl (take_ofW HT_.out HW_.out (by kernel_rfl)) hHeld (by rintro w' ⟨s0, s1, s2, s3, s4, s5, s6⟩; go_simp; with_reducible rfl) ?_
              refine one_ (i := 2) (N := some 14) (bz 37 7) rfl rfl (one_of HT_.out (by kernel_rfl)) (by decide) (fun K hK => ?_)
              refine goes_ Try.func31 (by kernel_rfl) rfl #[.string ((rd_T41 l0 x7_1).f0)] (by rfl) rfl rfl aE ?_
              with_reducible refine (impl_GoodName.calls k1 ((rd_T41 l0 x7_1).f0) true _ A12.out).mono ?_
              rintro e w' ⟨rfl, ⟨nd, rfl⟩⟩
              refine ⟨_, rfl, ?_⟩
              refine hK.out _ _ ⟨cz BK259 0 _, cz BK259 1 _, cz BK259 2 _, cz BK254 0 _, ((HB.out.cell (World.block_lt_of_cell? w _ hw261_0)).trans hw261_0), ((HB.out.cell (World.block_lt_of_cell? w _ hw261_1)).trans hw261_1), ((HB.out.cell (World.block_lt_of_cell? w _ hw261_2)).trans hw261_2)⟩ (fun hHeld => ?_)
              clear hK K
              refine norm_ (a' := ?_) ?_ ?_
              rotate_left
              ·show Act.put _ (some 14) _ = _
               simp only [Act.put, List.setIfInBounds_toArray, List.set_cons_zero, List.set_cons_succ, i64_w, i32_w]
               rfl
              refine pureA 3 15 (bz 37 15) rfl rfl (any_of HT_.out (by kernel_rfl)) ?_
              refine pureA 4 16 (bz 37 31) rfl rfl (any_of HT_.out (by kernel_rfl)) ?_
              refine pureA 5 17 (bz 37 63) rfl rfl (any_of HT_.out (by kernel_rfl)) ?_
              refine pureA 6 18 (bz 37 127) rfl rfl (any_of HT_.out (by kernel_rfl)) ?_
              refine pureA 7 19 (bz 37 255) rfl rfl (any_of HT_.out (by kernel_rfl)) ?_
              refine pureA 9 21 (bz 37 767) rfl rfl (any_of HT_.out (by kernel_rfl)) ?_
              refine pureA 10 22 (bz 37 1791) rfl rfl (any_of HT_.out (by kernel_rfl)) ?_
              refine pureA 14 26 (bz 37 18175) rfl rfl (any_of HT_.out (by kernel_rfl)) ?_
              refine takeA 8 20 (bz 37 18431) rfl rfl (take_ofW HT_.out HW_.out (by kernel_rfl)) hHeld (by rintro w' ⟨s0, s1, s2, s3, s4, s5, s6⟩; go_simp; with_reducible rfl) ?_
              refine pureA 11 23 (bz 37 20479) rfl rfl (any_of HT_.out (by kernel_rfl)) ?_
              refine pureA 12 24 (bz 37 24575) rfl rfl (any_of HT_.out (by kernel_rfl)) ?_
              refine takeA 13 25 (bz 37 32767) rfl rfl (take_ofW HT_.out HW_.out (by kernel_rfl)) hHeld (by rintro w' ⟨s0, s1, s2, s3, s4, s5, s6⟩; go_simp; with_reducible rfl) ?_
              refine takeA 15 27 (bz 37 65535) rfl rfl (take_ofW HT_.out HW_.out (by kernel_rfl)) hHeld (by rintro w' ⟨s0, s1, s2, s3, s4, s5, s6⟩; go_simp; with_reducible rfl) ?_
              refine pureA 16 28 (bz 37 131071) rfl rfl (any_of HT_.out (by kernel_rfl)) ?_
              refine pureA 17 29 (bz 37 262143) rfl rfl (any_of HT_.out (by kernel_rfl)) ?_
              refine pureA 18 30 (bz 37 524287) rfl rfl (any_of HT_.out (by kernel_rfl)) ?_
              refine pureA 19 31 (bz 37 1048575) rfl rfl (any_of HT_.out (by kernel_rfl)) ?_
              refine pureA 20 32 (bz 37 2097151) rfl rfl (any_of HT_.out (by kernel_rfl)) ?_
              refine takeA 21 33 (bz 37 4194303) rfl rfl (take_ofW HT_.out HW_.out (by kernel_rfl)) hHeld (by rintro w' ⟨s0, s1, s2, s3, s4, s5, s6⟩; go_simp; with_reducible rfl) ?_
              refine one_ (i := 22) (N := some 34) (bz 37 8388607) rfl rfl (one_of HT_.out (by kernel_rfl)) (by decide) (fun K hK => ?_)
              refine goes_ Try.func32 (by kernel_rfl) rfl #[.slice A258_1 ((rd_T41 l0 x7_1).f1).length c258_1] (by rfl) rfl rfl aE ?_
              with_reducible refine (impl_areNames.calls k1 _ _ ((rd_T41 l0 x7_1).f1) true _ ?side1 ?side2 A19.out).mono ?_
              (case side1 => exact cU (Kd.C_below HR258_1.out (lV2 GE254 GE259)))
              (case side2 => exact HC258_1.out)
              rintro e w' ⟨rfl, ⟨nd, rfl⟩⟩
              refine ⟨_, rfl, ?_⟩
              refine hK.out _ _ ⟨cz BK259 0 _, cz BK259 1 _, cz BK259 2 _, cz BK254 0 _, ((HB.out.cell (World.block_lt_of_cell? w _ hw261_0)).trans hw261_0), ((HB.out.cell (World.block_lt_of_cell? w _ hw261_1)).trans hw261_1), ((HB.out.cell (World.block_lt_of_cell? w _ hw261_2)).trans hw261_2)⟩ (fun hHeld => ?_)
              clear hK K
              refine norm_ (a' := ?_) ?_ ?_
              rotate_left
              ·show Act.put _ (some 34) _ = _
               simp only [Act.put, List.setIfInBounds_toArray, List.set_cons_zero, List.set_cons_succ, i64_w, i32_w]
               rfl
              refine pureA 23 35 (bz 37 16777215) rfl rfl (any_of HT_.out (by kernel_rfl)) ?_
              refine pureA 24 36 (bz 37 33554431) rfl rfl (any_of HT_.out (by kernel_rfl)) ?_
              refine pureA 25 37 (bz 37 67108863) rfl rfl (any_of HT_.out (by kernel_rfl)) ?_
              refine pureA 26 38 (bz 37 134217727) rfl rfl (any_of HT_.out (by kernel_rfl)) ?_
              refine takeA 27 39 (bz 37 268435455) rfl rfl (take_ofW HT_.out HW_.out (by kernel_rfl)) hHeld (by rintro w' ⟨s0, s1, s2, s3, s4, s5, s6⟩; go_simp; with_reducible rfl) ?_
              refine pureA 28 40 (bz 37 536870911) rfl rfl (any_of HT_.out (by kernel_rfl)) ?_
              refine pureA 29 41 (bz 37 1073741823) rfl rfl (any_of HT_.out (by kernel_rfl)) ?_
              refine pureA 30 42 (bz 37 2147483647) rfl rfl (any_of HT_.out (by kernel_rfl)) ?_
              refine pureA 31 43 (bz 37 4294967295) rfl rfl (any_of HT_.out (by kernel_rfl)) ?_
              refine pureU 32 44 (bz 37 8589934591) rfl rfl (any_of HT_.out (by kernel_rfl)) ?_
              refine pureU 33 45 (bz 37 17179869183) rfl rfl (any_of HT_.out (by kernel_rfl)) ?_
              refine pureU 34 46 (bz 37 34359738367) rfl rfl (any_of HT_.out (by kernel_rfl)) ?_
              refine pureU 35 47 (bz 37 68719476735) rfl rfl (any_of HT_.out (by kernel_rfl)) ?_
              refine pureA 36 48 (bz 37 137438953471) rfl rfl (any_of HT_.out (by kernel_rfl)) ?_
              refine done_ (done_of HT_.out (by kernel_rfl)) ?_
              try go_wp2
              go_meet
              case rel => exact ⟨_, (true), tE, H', ⟨by have := HK1.out; first | omega | exact Nat.le_refl _⟩, ⟨by refine bU ?_; exact BK254.out⟩, ⟨by refine bU ?_; exact BK259.out⟩, ⟨by repeat (first | (with_reducible first | exact HB.out | apply below_alloc | apply pw_below_drewN | apply below_drew1 | refine below_set ?_ GE254.out | refine below_set ?_ GE259.out) | exact HB.out)⟩⟩
             ·rw [if_neg c21] at H
              have c21b0 : decide (10 < (((rd_T41 l0 x7_1).f1).length : Int)) = false := decide_eq_false c21
              have c21b1 : decide (10 < ((rd_T41 l0 x7_1).f1).length) = false := decide_eq_false (by omega)
              clear c21
              have H' := Aside0.mk H
              clear H
              try go_wp2
              replace BK254 := Aside0.mk (blk_drew BK254.out)
              replace BK259 := Aside0.mk (blk_drew BK259.out)
              replace HB := Aside0.mk (below_drew1 HB.out)
              have p261 : 0 ≤ ((ji15) : Int) := of_decide_eq_true hE
              have q261 : (ji15) < (l0.length : Int) := of_decide_eq_true hE
              obtain ⟨ad261, A261_1, c261_1, A261_2, c261_2, e261, hx261_0, hx261_1, hx261_2, hl261_1, hi261_1, hl261_2, hi261_2⟩ := at_T41 HR0.out (ji15) p261 q261
              have hw261_2 := hx261_2
              have hw261_1 := hx261_1
              have hw261_0 := hx261_0
              obtain rfl : ad258 = ad261 := (by injection e261)
              replace hx261_0 := (HB.out.cell (World.block_lt_of_cell? w _ hx261_0)).trans hx261_0
              replace hx261_1 := (HB.out.cell (World.block_lt_of_cell? w _ hx261_1)).trans hx261_1
              replace hx261_2 := (HB.out.cell (World.block_lt_of_cell? w _ hx261_2)).trans hx261_2
              have HR261_1 := Aside0.mk hi261_1
              have HC261_1 := Aside0.mk hl261_1
              clear hi261_1 hl261_1
              have HR261_2 := Aside0.mk hi261_2
              have HC261_2 := Aside0.mk hl261_2
              clear hi261_2 hl261_2
              replace p261 := eq_true p261
              replace q261 := eq_true q261
              refine start_ (n := 37) (S := fun w' => w'.cell? ⟨gb259, 0, none⟩ = some (.string ((rd_T41 l0 x7_1).f0)) ∧ w'.cell? ⟨gb259, 1, none⟩ = some (.slice A258_1 ((rd_T41 l0 x7_1).f1).length c258_1) ∧ w'.cell? ⟨gb259, 2, none⟩ = some (.slice A258_2 ((rd_T41 l0 x7_1).f2).length c258_2) ∧ w'.cell? ⟨gb254, 0, none⟩ = some (.slice (some ad258) l0.length c0) ∧ w'.cell? (ad258.add (((ji15)).toNat * 3)) = some (.string ((rd_T41 l0 (ji15)).f0)) ∧ w'.cell? ⟨(ad258.add (((ji15)).toNat * 3)).block, (ad258.add (((ji15)).toNat * 3)).off + 1, none⟩ = some (.slice A261_1 ((rd_T41 l0 (ji15)).f1).length c261_1) ∧ w'.cell? ⟨(ad258.add (((ji15)).toNat * 3)).block, (ad258.add (((ji15)).toNat * 3)).off + 2, none⟩ = some (.slice A261_2 ((rd_T41 l0 (ji15)).f2).length c261_2)) (ds := []) #[false, false, false, false, false, false, false, false, false, false, false, false, false, false, false, false, false, false, false, false, false, false, false, false, false, false, false, false, false, false, false, false, false, false, false, false, false] (by kernel_rfl) rfl rfl ⟨cz BK259 0 _, cz BK259 1 _, cz BK259 2 _, cz BK254 0 _, ((HB.out.cell (World.block_lt_of_cell? w _ hw261_0)).trans hw261_0), ((HB.out.cell (World.block_lt_of_cell? w _ hw261_1)).trans hw261_1), ((HB.out.cell (World.block_lt_of_cell? w _ hw261_2)).trans hw261_2)⟩ (fun hHeld => ?_); refine with_tabW impl_GoodAssets.tab4 impl_GoodAssets.bits4 (fun HT_ HW_ => ?_)
              generalize w11.drew = w23 at BK254 BK259 HB HR261_1 HR261_2 hx261_0 hx261_1 hx261_2 hHeld ⊢
              refine pureA 0 12 (bz 37 1) rfl rfl (any_of HT_.out (by kernel_rfl)) ?_
              refine takeA 1 13 (bz 37 3) rfl rfl (take_ofW HT_.out HW_.out (by kernel_rfl)) hHeld (by rintro w' ⟨s0, s1, s2, s3, s4, s5, s6⟩; go_simp; with_reducible rfl) ?_
              refine one_ (i := 2) (N := some 14) (bz 37 7) rfl rfl (one_of HT_.out (by kernel_rfl)) (by decide) (fun K hK => ?_)
              refine goes_ Try.func31 (by kernel_rfl) rfl #[.string ((rd_T41 l0 x7_1).f0)] (by rfl) rfl rfl aE ?_
              with_reducible refine (impl_GoodName.calls k1 ((rd_T41 l0 x7_1).f0) true _ A12.out).mono ?_
              rintro e w' ⟨rfl, ⟨nd, rfl⟩⟩
              refine ⟨_, rfl, ?_⟩
              refine hK.out _ _ ⟨cz BK259 0 _, cz BK259 1 _, cz BK259 2 _, cz BK254 0 _, ((HB.out.cell (World.block_lt_of_cell? w _ hw261_0)).trans hw261_0), ((HB.out.cell (World.block_lt_of_cell? w _ hw261_1)).trans hw261_1), ((HB.out.cell (World.block_lt_of_cell? w _ hw261_2)).trans hw261_2)⟩ (fun hHeld => ?_)
              clear hK K
              refine norm_ (a' := ?_) ?_ ?_
              rotate_left
              ·show Act.put _ (some 14) _ = _
               simp only [Act.put, List.setIfInBounds_toArray, List.set_cons_zero, List.set_cons_succ, i64_w, i32_w]
               rfl
              refine pureA 3 15 (bz 37 15) rfl rfl (any_of HT_.out (by kernel_rfl)) ?_
              refine pureA 4 16 (bz 37 31) rfl rfl (any_of HT_.out (by kernel_rfl)) ?_
              refine pureA 5 17 (bz 37 63) rfl rfl (any_of HT_.out (by kernel_rfl)) ?_
              refine pureA 6 18 (bz 37 127) rfl rfl (any_of HT_.out (by kernel_rfl)) ?_
              refine pureA 7 19 (bz 37 255) rfl rfl (any_of HT_.out (by kernel_rfl)) ?_
              refine pureA 9 21 (bz 37 767) rfl rfl (any_of HT_.out (by kernel_rfl)) ?_
              refine pureA 10 22 (bz 37 1791) rfl rfl (any_of HT_.out (by kernel_rfl)) ?_
              refine pureA 14 26 (bz 37 18175) rfl rfl (any_of HT_.out (by kernel_rfl)) ?_
              refine takeA 8 20 (bz 37 18431) rfl rfl (take_ofW HT_.out HW_.out (by kernel_rfl)) hHeld (by rintro w' ⟨s0, s1, s2, s3, s4, s5, s6⟩; go_simp; with_reducible rfl) ?_
              refine pureA 11 23 (bz 37 20479) rfl rfl (any_of HT_.out (by kernel_rfl)) ?_
              refine pureA 12 24 (bz 37 24575) rfl rfl (any_of HT_.out (by kernel_rfl)) ?_
              refine takeA 13 25 (bz 37 32767) rfl rfl (take_ofW HT_.out HW_.out (by kernel_rfl)) hHeld (by rintro w' ⟨s0, s1, s2, s3, s4, s5, s6⟩; go_simp; with_reducible rfl) ?_
              refine takeA 15 27 (bz 37 65535) rfl rfl (take_ofW HT_.out HW_.out (by kernel_rfl)) hHeld (by rintro w' ⟨s0, s1, s2, s3, s4, s5, s6⟩; go_simp; with_reducible rfl) ?_
              refine pureA 16 28 (bz 37 131071) rfl rfl (any_of HT_.out (by kernel_rfl)) ?_
              refine pureA 17 29 (bz 37 262143) rfl rfl (any_of HT_.out (by kernel_rfl)) ?_
              refine pureA 18 30 (bz 37 524287) rfl rfl (any_of HT_.out (by kernel_rfl)) ?_
              refine pureA 19 31 (bz 37 1048575) rfl rfl (any_of HT_.out (by kernel_rfl)) ?_
              refine pureA 20 32 (bz 37 2097151) rfl rfl (any_of HT_.out (by kernel_rfl)) ?_
              refine takeA 21 33 (bz 37 4194303) rfl rfl (take_ofW HT_.out HW_.out (by kernel_rfl)) hHeld (by rintro w' ⟨s0, s1, s2, s3, s4, s5, s6⟩; go_simp; with_reducible rfl) ?_
              refine one_ (i := 22) (N := some 34) (bz 37 8388607) rfl rfl (one_of HT_.out (by kernel_rfl)) (by decide) (fun K hK => ?_)
              refine goes_ Try.func32 (by kernel_rfl) rfl #[.slice A258_1 ((rd_T41 l0 x7_1).f1).length c258_1] (by rfl) rfl rfl aE ?_
              with_reducible refine (impl_areNames.calls k1 _ _ ((rd_T41 l0 x7_1).f1) true _ ?side1 ?side2 A19.out).mono ?_
              (case side1 => exact cU (Kd.C_below HR258_1.out (lV2 GE254 GE259)))
              (case side2 => exact HC258_1.out)
              rintro e w' ⟨rfl, ⟨nd, rfl⟩⟩
              refine ⟨_, rfl, ?_⟩
              refine hK.out _ _ ⟨cz BK259 0 _, cz BK259 1 _, cz BK259 2 _, cz BK254 0 _, ((HB.out.cell (World.block_lt_of_cell? w _ hw261_0)).trans hw261_0), ((HB.out.cell (World.block_lt_of_cell? w _ hw261_1)).trans hw261_1), ((HB.out.cell (World.block_lt_of_cell? w _ hw261_2)).trans hw261_2)⟩ (fun hHeld => ?_)
              clear hK K
              refine norm_ (a' := ?_) ?_ ?_
              rotate_left
              ·show Act.put _ (some 34) _ = _
               simp only [Act.put, List.setIfInBounds_toArray, List.set_cons_zero, List.set_cons_succ, i64_w, i32_w]
               rfl
              refine pureA 23 35 (bz 37 16777215) rfl rfl (any_of HT_.out (by kernel_rfl)) ?_
              refine pureA 24 36 (bz 37 33554431) rfl rfl (any_of HT_.out (by kernel_rfl)) ?_
              refine pureA 25 37 (bz 37 67108863) rfl rfl (any_of HT_.out (by kernel_rfl)) ?_
              refine pureA 26 38 (bz 37 134217727) rfl rfl (any_of HT_.out (by kernel_rfl)) ?_
              refine takeA 27 39 (bz 37 268435455) rfl rfl (take_ofW HT_.out HW_.out (by kernel_rfl)) hHeld (by rintro w' ⟨s0, s1, s2, s3, s4, s5, s6⟩; go_simp; with_reducible rfl) ?_
              refine pureA 28 40 (bz 37 536870911) rfl rfl (any_of HT_.out (by kernel_rfl)) ?_
              refine pureA 29 41 (bz 37 1073741823) rfl rfl (any_of HT_.out (by kernel_rfl)) ?_
              refine pureA 30 42 (bz 37 2147483647) rfl rfl (any_of HT_.out (by kernel_rfl)) ?_
              refine pureA 31 43 (bz 37 4294967295) rfl rfl (any_of HT_.out (by kernel_rfl)) ?_
              refine pureA 32 44 (bz 37 8589934591) rfl rfl (any_of HT_.out (by kernel_rfl)) ?_
              refine takeA 33 45 (bz 37 17179869183) rfl rfl (take_ofW HT_.out HW_.out (by kernel_rfl)) hHeld (by rintro w' ⟨s0, s1, s2, s3, s4, s5, s6⟩; go_simp; with_reducible rfl) ?_
              refine pureA 34 46 (bz 37 34359738367) rfl rfl (any_of HT_.out (by kernel_rfl)) ?_
              refine pureA 35 47 (bz 37 68719476735) rfl rfl (any_of HT_.out (by kernel_rfl)) ?_
              refine pureA 36 48 (bz 37 137438953471) rfl rfl (any_of HT_.out (by kernel_rfl)) ?_
              refine done_ (done_of HT_.out (by kernel_rfl)) ?_
              try go_wp2
              go_meet
              case rel => exact ⟨_, (decide ((((rd_T41 l0 x7_1).f2).length : Int) > 400)), tE, H', ⟨by have := HK1.out; first | omega | exact Nat.le_refl _⟩, ⟨by refine bU ?_; exact BK254.out⟩, ⟨by refine bU ?_; exact BK259.out⟩, ⟨by repeat (first | (with_reducible first | exact HB.out | apply below_alloc | apply pw_below_drewN | apply below_drew1 | refine below_set ?_ GE254.out | refine below_set ?_ GE259.out) | exact HB.out)⟩⟩
            ·replace c20 := Bool.eq_false_iff.mpr c20
             subst c20
             have H1 : (impl_GoodAssets.j1 k1 l0 (l0.length : Int) x7_1 true l0 ((rd_T41 l0 x7_1).f0) ((rd_T41 l0 x7_1).f1) ((rd_T41 l0 x7_1).f2)) = some r := by rw [if_neg (show ¬ (false = true) by decide)] at H; exact H
             clear H
             have H := H1
             clear H1
             have H' := Aside0.mk H
             clear H
             try go_wp2
             replace BK254 := Aside0.mk (blk_drew BK254.out)
             replace BK259 := Aside0.mk (blk_drew BK259.out)
             replace HB := Aside0.mk (below_drew1 HB.out)
             have p261 : 0 ≤ ((ji15) : Int) := of_decide_eq_true hE
             have q261 : (ji15) < (l0.length : Int) := of_decide_eq_true hE
             obtain ⟨ad261, A261_1, c261_1, A261_2, c261_2, e261, hx261_0, hx261_1, hx261_2, hl261_1, hi261_1, hl261_2, hi261_2⟩ := at_T41 HR0.out (ji15) p261 q261
             have hw261_2 := hx261_2
             have hw261_1 := hx261_1
             have hw261_0 := hx261_0
             obtain rfl : ad258 = ad261 := (by injection e261)
             replace hx261_0 := (HB.out.cell (World.block_lt_of_cell? w _ hx261_0)).trans hx261_0
             replace hx261_1 := (HB.out.cell (World.block_lt_of_cell? w _ hx261_1)).trans hx261_1
             replace hx261_2 := (HB.out.cell (World.block_lt_of_cell? w _ hx261_2)).trans hx261_2
             have HR261_1 := Aside0.mk hi261_1
             have HC261_1 := Aside0.mk hl261_1
             clear hi261_1 hl261_1
             have HR261_2 := Aside0.mk hi261_2
             have HC261_2 := Aside0.mk hl261_2
             clear hi261_2 hl261_2
             replace p261 := eq_true p261
             replace q261 := eq_true q261
             refine start_ (n := 37) (S := fun w' => w'.cell? ⟨gb259, 0, none⟩ = some (.string ((rd_T41 l0 x7_1).f0)) ∧ w'.cell? ⟨gb259, 1, none⟩ = some (.slice A258_1 ((rd_T41 l0 x7_1).f1).length c258_1) ∧ w'.cell? ⟨gb259, 2, none⟩ = some (.slice A258_2 ((rd_T41 l0 x7_1).f2).length c258_2) ∧ w'.cell? ⟨gb254, 0, none⟩ = some (.slice (some ad258) l0.length c0) ∧ w'.cell? (ad258.add (((ji15)).toNat * 3)) = some (.string ((rd_T41 l0 (ji15)).f0)) ∧ w'.cell? ⟨(ad258.add (((ji15)).toNat * 3)).block, (ad258.add (((ji15)).toNat * 3)).off + 1, none⟩ = some (.slice A261_1 ((rd_T41 l0 (ji15)).f1).length c261_1) ∧ w'.cell? ⟨(ad258.add (((ji15)).toNat * 3)).block, (ad258.add (((ji15)).toNat * 3)).off + 2, none⟩ = some (.slice A261_2 ((rd_T41 l0 (ji15)).f2).length c261_2)) (ds := []) #[false, false, false, false, false, false, false, false, false, false, false, false, false, false, false, false, false, false, false, false, false, false, false, false, false, false, false, false, false, false, false, false, false, false, false, false, false] (by kernel_rfl) rfl rfl ⟨cz BK259 0 _, cz BK259 1 _, cz BK259 2 _, cz BK254 0 _, ((HB.out.cell (World.block_lt_of_cell? w _ hw261_0)).trans hw261_0), ((HB.out.cell (World.block_lt_of_cell? w _ hw261_1)).trans hw261_1), ((HB.out.cell (World.block_lt_of_cell? w _ hw261_2)).trans hw261_2)⟩ (fun hHeld => ?_); refine with_tabW impl_GoodAssets.tab4 impl_GoodAssets.bits4 (fun HT_ HW_ => ?_)
             generalize w11.drew = w24 at BK254 BK259 HB HR261_1 HR261_2 hx261_0 hx261_1 hx261_2 hHeld ⊢
             refine pureA 0 12 (bz 37 1) rfl rfl (any_of HT_.out (by kernel_rfl)) ?_
             refine takeA 1 13 (bz 37 3) rfl rfl (take_ofW HT_.out HW_.out (by kernel_rfl)) hHeld (by rintro w' ⟨s0, s1, s2, s3, s4, s5, s6⟩; go_simp; with_reducible rfl) ?_
             refine one_ (i := 2) (N := some 14) (bz 37 7) rfl rfl (one_of HT_.out (by kernel_rfl)) (by decide) (fun K hK => ?_)
             refine goes_ Try.func31 (by kernel_rfl) rfl #[.string ((rd_T41 l0 x7_1).f0)] (by rfl) rfl rfl aE ?_
             with_reducible refine (impl_GoodName.calls k1 ((rd_T41 l0 x7_1).f0) true _ A12.out).mono ?_
             rintro e w' ⟨rfl, ⟨nd, rfl⟩⟩
             refine ⟨_, rfl, ?_⟩
             refine hK.out _ _ ⟨cz BK259 0 _, cz BK259 1 _, cz BK259 2 _, cz BK254 0 _, ((HB.out.cell (World.block_lt_of_cell? w _ hw261_0)).trans hw261_0), ((HB.out.cell (World.block_lt_of_cell? w _ hw261_1)).trans hw261_1), ((HB.out.cell (World.block_lt_of_cell? w _ hw261_2)).trans hw261_2)⟩ (fun hHeld => ?_)
             clear hK K
             refine norm_ (a' := ?_) ?_ ?_
             rotate_left
             ·show Act.put _ (some 14) _ = _
              simp only [Act.put, List.setIfInBounds_toArray, List.set_cons_zero, List.set_cons_succ, i64_w, i32_w]
              rfl
             refine pureA 3 15 (bz 37 15) rfl rfl (any_of HT_.out (by kernel_rfl)) ?_
             refine pureA 4 16 (bz 37 31) rfl rfl (any_of HT_.out (by kernel_rfl)) ?_
             refine pureA 5 17 (bz 37 63) rfl rfl (any_of HT_.out (by kernel_rfl)) ?_
             refine pureA 6 18 (bz 37 127) rfl rfl (any_of HT_.out (by kernel_rfl)) ?_
             refine pureA 7 19 (bz 37 255) rfl rfl (any_of HT_.out (by kernel_rfl)) ?_
             refine pureA 9 21 (bz 37 767) rfl rfl (any_of HT_.out (by kernel_rfl)) ?_
             refine pureA 10 22 (bz 37 1791) rfl rfl (any_of HT_.out (by kernel_rfl)) ?_
             refine pureA 14 26 (bz 37 18175) rfl rfl (any_of HT_.out (by kernel_rfl)) ?_
             refine takeA 8 20 (bz 37 18431) rfl rfl (take_ofW HT_.out HW_.out (by kernel_rfl)) hHeld (by rintro w' ⟨s0, s1, s2, s3, s4, s5, s6⟩; go_simp; with_reducible rfl) ?_
             refine pureA 11 23 (bz 37 20479) rfl rfl (any_of HT_.out (by kernel_rfl)) ?_
             refine pureA 12 24 (bz 37 24575) rfl rfl (any_of HT_.out (by kernel_rfl)) ?_
             refine takeA 13 25 (bz 37 32767) rfl rfl (take_ofW HT_.out HW_.out (by kernel_rfl)) hHeld (by rintro w' ⟨s0, s1, s2, s3, s4, s5, s6⟩; go_simp; with_reducible rfl) ?_
             refine takeA 15 27 (bz 37 65535) rfl rfl (take_ofW HT_.out HW_.out (by kernel_rfl)) hHeld (by rintro w' ⟨s0, s1, s2, s3, s4, s5, s6⟩; go_simp; with_reducible rfl) ?_
             refine pureA 16 28 (bz 37 131071) rfl rfl (any_of HT_.out (by kernel_rfl)) ?_
             refine pureA 17 29 (bz 37 262143) rfl rfl (any_of HT_.out (by kernel_rfl)) ?_
             refine pureA 18 30 (bz 37 524287) rfl rfl (any_of HT_.out (by kernel_rfl)) ?_
             refine pureA 19 31 (bz 37 1048575) rfl rfl (any_of HT_.out (by kernel_rfl)) ?_
             refine pureA 20 32 (bz 37 2097151) rfl rfl (any_of HT_.out (by kernel_rfl)) ?_
             refine takeA 21 33 (bz 37 4194303) rfl rfl (take_ofW HT_.out HW_.out (by kernel_rfl)) hHeld (by rintro w' ⟨s0, s1, s2, s3, s4, s5, s6⟩; go_simp; with_reducible rfl) ?_
             refine one_ (i := 22) (N := some 34) (bz 37 8388607) rfl rfl (one_of HT_.out (by kernel_rfl)) (by decide) (fun K hK => ?_)
             refine goes_ Try.func32 (by kernel_rfl) rfl #[.slice A258_1 ((rd_T41 l0 x7_1).f1).length c258_1] (by rfl) rfl rfl aE ?_
             with_reducible refine (impl_areNames.calls k1 _ _ ((rd_T41 l0 x7_1).f1) false _ ?side1 ?side2 A19.out).mono ?_
             (case side1 => exact cU (Kd.C_below HR258_1.out (lV2 GE254 GE259)))
             (case side2 => exact HC258_1.out)
             rintro e w' ⟨rfl, ⟨nd, rfl⟩⟩
             refine ⟨_, rfl, ?_⟩
             refine hK.out _ _ ⟨cz BK259 0 _, cz BK259 1 _, cz BK259 2 _, cz BK254 0 _, ((HB.out.cell (World.block_lt_of_cell? w _ hw261_0)).trans hw261_0), ((HB.out.cell (World.block_lt_of_cell? w _ hw261_1)).trans hw261_1), ((HB.out.cell (World.block_lt_of_cell? w _ hw261_2)).trans hw261_2)⟩ (fun hHeld => ?_)
             clear hK K
             refine norm_ (a' := ?_) ?_ ?_
             rotate_left
             ·show Act.put _ (some 34) _ = _
              simp only [Act.put, List.setIfInBounds_toArray, List.set_cons_zero, List.set_cons_succ, i64_w, i32_w]
              rfl
             refine pureA 23 35 (bz 37 16777215) rfl rfl (any_of HT_.out (by kernel_rfl)) ?_
             refine pureA 24 36 (bz 37 33554431) rfl rfl (any_of HT_.out (by kernel_rfl)) ?_
             refine pureA 25 37 (bz 37 67108863) rfl rfl (any_of HT_.out (by kernel_rfl)) ?_
             refine pureU 26 38 (bz 37 134217727) rfl rfl (any_of HT_.out (by kernel_rfl)) ?_
             refine pureU 27 39 (bz 37 268435455) rfl rfl (any_of HT_.out (by kernel_rfl)) ?_
             refine pureU 28 40 (bz 37 536870911) rfl rfl (any_of HT_.out (by kernel_rfl)) ?_
             refine pureU 29 41 (bz 37 1073741823) rfl rfl (any_of HT_.out (by kernel_rfl)) ?_
             refine pureA 30 42 (bz 37 2147483647) rfl rfl (any_of HT_.out (by kernel_rfl)) ?_
             refine pureA 31 43 (bz 37 4294967295) rfl rfl (any_of HT_.out (by kernel_rfl)) ?_
             refine pureU 32 44 (bz 37 8589934591) rfl rfl (any_of HT_.out (by kernel_rfl)) ?_
             refine pureU 33 45 (bz 37 17179869183) rfl rfl (any_of HT_.out (by kernel_rfl)) ?_
             refine pureU 34 46 (bz 37 34359738367) rfl rfl (any_of HT_.out (by kernel_rfl)) ?_
             refine pureU 35 47 (bz 37 68719476735) rfl rfl (any_of HT_.out (by kernel_rfl)) ?_
             refine pureA 36 48 (bz 37 137438953471) rfl rfl (any_of HT_.out (by kernel_rfl)) ?_
             refine done_ (done_of HT_.out (by kernel_rfl)) ?_
             try go_wp2
             go_meet
             case rel => exact ⟨_, (true), tE, H', ⟨by have := HK1.out; first | omega | exact Nat.le_refl _⟩, ⟨by refine bU ?_; exact BK254.out⟩, ⟨by refine bU ?_; exact BK259.out⟩, ⟨by repeat (first | (with_reducible first | exact HB.out | apply below_alloc | apply pw_below_drewN | apply below_drew1 | refine below_set ?_ GE254.out | refine below_set ?_ GE259.out) | exact HB.out)⟩⟩
           ·rw [if_neg c18] at H
            have c18b0 : (Op.bytesLess (((rd_T41 l0 (ji15)).f0).toList) (((rd_T41 l0 x7_1).f0).toList)) = false := by simpa using c18
            clear c18
            have H' := Aside0.mk H
            clear H
            try go_wp2
            replace BK254 := Aside0.mk (blk_drew BK254.out)
            replace BK259 := Aside0.mk (blk_drew BK259.out)
            replace HB := Aside0.mk (below_drew1 HB.out)
            have p261 : 0 ≤ ((ji15) : Int) := of_decide_eq_true hE
            have q261 : (ji15) < (l0.length : Int) := of_decide_eq_true hE
            obtain ⟨ad261, A261_1, c261_1, A261_2, c261_2, e261, hx261_0, hx261_1, hx261_2, hl261_1, hi261_1, hl261_2, hi261_2⟩ := at_T41 HR0.out (ji15) p261 q261
            have hw261_2 := hx261_2
            have hw261_1 := hx261_1
            have hw261_0 := hx261_0
            obtain rfl : ad258 = ad261 := (by injection e261)
            replace hx261_0 := (HB.out.cell (World.block_lt_of_cell? w _ hx261_0)).trans hx261_0
            replace hx261_1 := (HB.out.cell (World.block_lt_of_cell? w _ hx261_1)).trans hx261_1
            replace hx261_2 := (HB.out.cell (World.block_lt_of_cell? w _ hx261_2)).trans hx261_2
            have HR261_1 := Aside0.mk hi261_1
            have HC261_1 := Aside0.mk hl261_1
            clear hi261_1 hl261_1
            have HR261_2 := Aside0.mk hi261_2
            have HC261_2 := Aside0.mk hl261_2
            clear hi261_2 hl261_2
            replace p261 := eq_true p261
            replace q261 := eq_true q261
            refine start_ (n := 37) (S := fun w' => w'.cell? ⟨gb259, 0, none⟩ = some (.string ((rd_T41 l0 x7_1).f0)) ∧ w'.cell? ⟨gb259, 1, none⟩ = some (.slice A258_1 ((rd_T41 l0 x7_1).f1).length c258_1) ∧ w'.cell? ⟨gb259, 2, none⟩ = some (.slice A258_2 ((rd_T41 l0 x7_1).f2).length c258_2) ∧ w'.cell? ⟨gb254, 0, none⟩ = some (.slice (some ad258) l0.length c0) ∧ w'.cell? (ad258.add (((ji15)).toNat * 3)) = some (.string ((rd_T41 l0 (ji15)).f0)) ∧ w'.cell? ⟨(ad258.add (((ji15)).toNat * 3)).block, (ad258.add (((ji15)).toNat * 3)).off + 1, none⟩ = some (.slice A261_1 ((rd_T41 l0 (ji15)).f1).length c261_1) ∧ w'.cell? ⟨(ad258.add (((ji15)).toNat * 3)).block, (ad258.add (((ji15)).toNat * 3)).off + 2, none⟩ = some (.slice A261_2 ((rd_T41 l0 (ji15)).f2).length c261_2)) (ds := []) #[false, false, false, false, false, false, false, false, false, false, false, false, false, false, false, false, false, false, false, false, false, false, false, false, false, false, false, false, false, false, false, false, false, false, false, false, false] (by kernel_rfl) rfl rfl ⟨cz BK259 0 _, cz BK259 1 _, cz BK259 2 _, cz BK254 0 _, ((HB.out.cell (World.block_lt_of_cell? w _ hw261_0)).trans hw261_0), ((HB.out.cell (World.block_lt_of_cell? w _ hw261_1)).trans hw261_1), ((HB.out.cell (World.block_lt_of_cell? w _ hw261_2)).trans hw261_2)⟩ (fun hHeld => ?_); refine with_tabW impl_GoodAssets.tab4 impl_GoodAssets.bits4 (fun HT_ HW_ => ?_)
            generalize w11.drew = w25 at BK254 BK259 HB HR261_1 HR261_2 hx261_0 hx261_1 hx261_2 hHeld ⊢
            refine pureA 0 12 (bz 37 1) rfl rfl (any_of HT_.out (by kernel_rfl)) ?_
            refine takeA 1 13 (bz 37 3) rfl rfl (take_ofW HT_.out HW_.out (by kernel_rfl)) hHeld (by rintro w' ⟨s0, s1, s2, s3, s4, s5, s6⟩; go_simp; with_reducible rfl) ?_
            refine one_ (i := 2) (N := some 14) (bz 37 7) rfl rfl (one_of HT_.out (by kernel_rfl)) (by decide) (fun K hK => ?_)
            refine goes_ Try.func31 (by kernel_rfl) rfl #[.string ((rd_T41 l0 x7_1).f0)] (by rfl) rfl rfl aE ?_
            with_reducible refine (impl_GoodName.calls k1 ((rd_T41 l0 x7_1).f0) true _ A12.out).mono ?_
            rintro e w' ⟨rfl, ⟨nd, rfl⟩⟩
            refine ⟨_, rfl, ?_⟩
            refine hK.out _ _ ⟨cz BK259 0 _, cz BK259 1 _, cz BK259 2 _, cz BK254 0 _, ((HB.out.cell (World.block_lt_of_cell? w _ hw261_0)).trans hw261_0), ((HB.out.cell (World.block_lt_of_cell? w _ hw261_1)).trans hw261_1), ((HB.out.cell (World.block_lt_of_cell? w _ hw261_2)).trans hw261_2)⟩ (fun hHeld => ?_)
            clear hK K
            refine norm_ (a' := ?_) ?_ ?_
            rotate_left
            ·show Act.put _ (some 14) _ = _
             simp only [Act.put, List.setIfInBounds_toArray, List.set_cons_zero, List.set_cons_succ, i64_w, i32_w]
             rfl
            refine pureA 3 15 (bz 37 15) rfl rfl (any_of HT_.out (by kernel_rfl)) ?_
            refine pureA 4 16 (bz 37 31) rfl rfl (any_of HT_.out (by kernel_rfl)) ?_
            refine pureA 5 17 (bz 37 63) rfl rfl (any_of HT_.out (by kernel_rfl)) ?_
            refine pureA 6 18 (bz 37 127) rfl rfl (any_of HT_.out (by kernel_rfl)) ?_
            refine pureA 7 19 (bz 37 255) rfl rfl (any_of HT_.out (by kernel_rfl)) ?_
            refine pureA 9 21 (bz 37 767) rfl rfl (any_of HT_.out (by kernel_rfl)) ?_
            refine pureA 10 22 (bz 37 1791) rfl rfl (any_of HT_.out (by kernel_rfl)) ?_
            refine pureA 14 26 (bz 37 18175) rfl rfl (any_of HT_.out (by kernel_rfl)) ?_
            refine takeA 8 20 (bz 37 18431) rfl rfl (take_ofW HT_.out HW_.out (by kernel_rfl)) hHeld (by rintro w' ⟨s0, s1, s2, s3, s4, s5, s6⟩; go_simp; with_reducible rfl) ?_
            refine pureA 11 23 (bz 37 20479) rfl rfl (any_of HT_.out (by kernel_rfl)) ?_
            refine pureA 12 24 (bz 37 24575) rfl rfl (any_of HT_.out (by kernel_rfl)) ?_
            refine takeA 13 25 (bz 37 32767) rfl rfl (take_ofW HT_.out HW_.out (by kernel_rfl)) hHeld (by rintro w' ⟨s0, s1, s2, s3, s4, s5, s6⟩; go_simp; with_reducible rfl) ?_
            refine takeA 15 27 (bz 37 65535) rfl rfl (take_ofW HT_.out HW_.out (by kernel_rfl)) hHeld (by rintro w' ⟨s0, s1, s2, s3, s4, s5, s6⟩; go_simp; with_reducible rfl) ?_
            refine pureA 16 28 (bz 37 131071) rfl rfl (any_of HT_.out (by kernel_rfl)) ?_
            refine pureA 17 29 (bz 37 262143) rfl rfl (any_of HT_.out (by kernel_rfl)) ?_
            refine pureA 18 30 (bz 37 524287) rfl rfl (any_of HT_.out (by kernel_rfl)) ?_
            refine pureA 19 31 (bz 37 1048575) rfl rfl (any_of HT_.out (by kernel_rfl)) ?_
            refine pureU 20 32 (bz 37 2097151) rfl rfl (any_of HT_.out (by kernel_rfl)) ?_
            refine pureU 21 33 (bz 37 4194303) rfl rfl (any_of HT_.out (by kernel_rfl)) ?_
            refine pureU 22 34 (bz 37 8388607) rfl rfl (any_of HT_.out (by kernel_rfl)) ?_
            refine pureU 23 35 (bz 37 16777215) rfl rfl (any_of HT_.out (by kernel_rfl)) ?_
            refine pureA 24 36 (bz 37 33554431) rfl rfl (any_of HT_.out (by kernel_rfl)) ?_
            refine pureA 25 37 (bz 37 67108863) rfl rfl (any_of HT_.out (by kernel_rfl)) ?_
            refine pureU 26 38 (bz 37 134217727) rfl rfl (any_of HT_.out (by kernel_rfl)) ?_
            refine pureU 27 39 (bz 37 268435455) rfl rfl (any_of HT_.out (by kernel_rfl)) ?_
            refine pureU 28 40 (bz 37 536870911) rfl rfl (any_of HT_.out (by kernel_rfl)) ?_
            refine pureU 29 41 (bz 37 1073741823) rfl rfl (any_of HT_.out (by kernel_rfl)) ?_
            refine pureA 30 42 (bz 37 2147483647) rfl rfl (any_of HT_.out (by kernel_rfl)) ?_
            refine pureA 31 43 (bz 37 4294967295) rfl rfl (any_of HT_.out (by kernel_rfl)) ?_
            refine pureU 32 44 (bz 37 8589934591) rfl rfl (any_of HT_.out (by kernel_rfl)) ?_
            refine pureU 33 45 (bz 37 17179869183) rfl rfl (any_of HT_.out (by kernel_rfl)) ?_
            refine pureU 34 46 (bz 37 34359738367) rfl rfl (any_of HT_.out (by kernel_rfl)) ?_
            refine pureU 35 47 (bz 37 68719476735) rfl rfl (any_of HT_.out (by kernel_rfl)) ?_
            refine pureA 36 48 (bz 37 137438953471) rfl rfl (any_of HT_.out (by kernel_rfl)) ?_
            refine done_ (done_of HT_.out (by kernel_rfl)) ?_
            try go_wp2
            go_meet
            case rel => exact ⟨_, (true), tE, H', ⟨by have := HK1.out; first | omega | exact Nat.le_refl _⟩, ⟨by refine bU ?_; exact BK254.out⟩, ⟨by refine bU ?_; exact BK259.out⟩, ⟨by repeat (first | (with_reducible first | exact HB.out | apply below_alloc | apply pw_below_drewN | apply below_drew1 | refine below_set ?_ GE254.out | refine below_set ?_ GE259.out) | exact HB.out)⟩⟩
          ·rw [if_neg c17] at H
           exact absurd H (by simp)
         ·rw [if_neg c16] at H
          exact absurd H (by simp)
        ·rw [if_neg c14] at H
         have c14b0 : decide (0 < x7_1) = false := decide_eq_false c14
         clear c14
         (first | rw [c14b0] | (simp only [i64_w, i32_w]; rw [c14b0]) | (rw [c14b2]; simp only [Bool.not_false, Bool.not_true]) | skip)
         replace H := Option.bind_eq_some_iff.mp H
         obtain ⟨t263, A260, H⟩ := H
         replace H : (if t263 = true then (if (((rd_T41 l0 x7_1).f1).length : Int) > 10 then (impl_GoodAssets.j1 k1 l0 (l0.length : Int) x7_1 true l0 ((rd_T41 l0 x7_1).f0) ((rd_T41 l0 x7_1).f1) ((rd_T41 l0 x7_1).f2)) else (impl_GoodAssets.j1 k1 l0 (l0.length : Int) x7_1 (decide ((((rd_T41 l0 x7_1).f2).length : Int) > 400)) l0 ((rd_T41 l0 x7_1).f0) ((rd_T41 l0 x7_1).f1) ((rd_T41 l0 x7_1).f2))) else (impl_GoodAssets.j1 k1 l0 (l0.length : Int) x7_1 true l0 ((rd_T41 l0 x7_1).f0) ((rd_T41 l0 x7_1).f1) ((rd_T41 l0 x7_1).f2))) = some r := H
         have A26 := Aside0.mk A260
         clear A260
         by_cases c27 : t263 = true
         ·subst c27
          have H1 : (if (((rd_T41 l0 x7_1).f1).length : Int) > 10 then (impl_GoodAssets.j1 k1 l0 (l0.length : Int) x7_1 true l0 ((rd_T41 l0 x7_1).f0) ((rd_T41 l0 x7_1).f1) ((rd_T41 l0 x7_1).f2)) else (impl_GoodAssets.j1 k1 l0 (l0.length : Int) x7_1 (decide ((((rd_T41 l0 x7_1).f2).length : Int) > 400)) l0 ((rd_T41 l0 x7_1).f0) ((rd_T41 l0 x7_1).f1) ((rd_T41 l0 x7_1).f2))) = some r := by rw [if_pos rfl] at H; exact H
          clear H
          have H := H1
          clear H1
          by_cases c28 : (((rd_T41 l0 x7_1).f1).length : Int) > 10
          ·rw [if_pos c28] at H
           have c28b0 : decide (10 < (((rd_T41 l0 x7_1).f1).length : Int)) = true := decide_eq_true c28
           have c28b1 : decide (10 < ((rd_T41 l0 x7_1).f1).length) = true := decide_eq_true (by omega)
           clear c28
           have H' := Aside0.mk H
           clear H
           try go_wp2
           replace BK254 := Aside0.mk (blk_drew BK254.out)
           replace BK259 := Aside0.mk (blk_drew BK259.out)
           replace HB := Aside0.mk (below_drew1 HB.out)
           refine start_ (n := 37) (S := fun w' => w'.cell? ⟨gb259, 0, none⟩ = some (.string ((rd_T41 l0 x7_1).f0)) ∧ w'.cell? ⟨gb259, 1, none⟩ = some (.slice A258_1 ((rd_T41 l0 x7_1).f1).length c258_1) ∧ w'.cell? ⟨gb259, 2, none⟩ = some (.slice A258_2 ((rd_T41 l0 x7_1).f2).length c258_2)) (ds := []) #[false, false, false, false, false, false, false, false, false, false, false, false, false, false, false, false, false, false, false, false, false, false, false, false, false, false, false, false, false, false, false, false, false, false, false, false, false] (by kernel_rfl) rfl rfl ⟨cz BK259 0 _, cz BK259 1 _, cz BK259 2 _⟩ (fun hHeld => ?_); refine with_tabW impl_GoodAssets.tab4 impl_GoodAssets.bits4 (fun HT_ HW_ => ?_)
           generalize w11.drew = w29 at BK254 BK259 HB hHeld ⊢
           refine pureA 0 12 (bz 37 1) rfl rfl (any_of HT_.out (by kernel_rfl)) ?_
           refine takeA 1 13 (bz 37 3) rfl rfl (take_ofW HT_.out HW_.out (by kernel_rfl)) hHeld (by rintro w' ⟨s0, s1, s2⟩; go_simp; with_reducible rfl) ?_
           refine one_ (i := 2) (N := some 14) (bz 37 7) rfl rfl (one_of HT_.out (by kernel_rfl)) (by decide) (fun K hK => ?_)
           refine goes_ Try.func31 (by kernel_rfl) rfl #[.string ((rd_T41 l0 x7_1).f0)] (by rfl) rfl rfl aE ?_
           with_reducible refine (impl_GoodName.calls k1 ((rd_T41 l0 x7_1).f0) true _ A12.out).mono ?_
           rintro e w' ⟨rfl, ⟨nd, rfl⟩⟩
           refine ⟨_, rfl, ?_⟩
           refine hK.out _ _ ⟨cz BK259 0 _, cz BK259 1 _, cz BK259 2 _⟩ (fun hHeld => ?_)
           clear hK K
           refine norm_ (a' := ?_) ?_ ?_
           rotate_left
           ·show Act.put _ (some 14) _ = _
            simp only [Act.put, List.setIfInBounds_toArray, List.set_cons_zero, List.set_cons_succ, i64_w, i32_w]
            rfl
           refine pureA 3 15 (bz 37 15) rfl rfl (any_of HT_.out (by kernel_rfl)) ?_
           refine pureA 4 16 (bz 37 31) rfl rfl (any_of HT_.out (by kernel_rfl)) ?_
           refine pureA 5 17 (bz 37 63) rfl rfl (any_of HT_.out (by kernel_rfl)) ?_
           refine pureA 6 18 (bz 37 127) rfl rfl (any_of HT_.out (by kernel_rfl)) ?_
           refine pureA 7 19 (bz 37 255) rfl rfl (any_of HT_.out (by kernel_rfl)) ?_
           refine pureU 8 20 (bz 37 511) rfl rfl (any_of HT_.out (by kernel_rfl)) ?_
           refine pureU 9 21 (bz 37 1023) rfl rfl (any_of HT_.out (by kernel_rfl)) ?_
           refine pureU 10 22 (bz 37 2047) rfl rfl (any_of HT_.out (by kernel_rfl)) ?_
           refine pureU 11 23 (bz 37 4095) rfl rfl (any_of HT_.out (by kernel_rfl)) ?_
           refine pureU 12 24 (bz 37 8191) rfl rfl (any_of HT_.out (by kernel_rfl)) ?_
           refine pureU 13 25 (bz 37 16383) rfl rfl (any_of HT_.out (by kernel_rfl)) ?_
           refine pureU 14 26 (bz 37 32767) rfl rfl (any_of HT_.out (by kernel_rfl)) ?_
           refine pureU 15 27 (bz 37 65535) rfl rfl (any_of HT_.out (by kernel_rfl)) ?_
           refine pureU 16 28 (bz 37 131071) rfl rfl (any_of HT_.out (by kernel_rfl)) ?_
           refine pureA 17 29 (bz 37 262143) rfl rfl (any_of HT_.out (by kernel_rfl)) ?_
           refine pureA 18 30 (bz 37 524287) rfl rfl (any_of HT_.out (by kernel_rfl)) ?_
           refine pureA 19 31 (bz 37 1048575) rfl rfl (any_of HT_.out (by kernel_rfl)) ?_
           refine pureA 20 32 (bz 37 2097151) rfl rfl (any_of HT_.out (by kernel_rfl)) ?_
           refine takeA 21 33 (bz 37 4194303) rfl rfl (take_ofW HT_.out HW_.out (by kernel_rfl)) hHeld (by rintro w' ⟨s0, s1, s2⟩; go_simp; with_reducible rfl) ?_
           refine one_ (i := 22) (N := some 34) (bz 37 8388607) rfl rfl (one_of HT_.out (by kernel_rfl)) (by decide) (fun K hK => ?_)
           refine goes_ Try.func32 (by kernel_rfl) rfl #[.slice A258_1 ((rd_T41 l0 x7_1).f1).length c258_1] (by rfl) rfl rfl aE ?_
           with_reducible refine (impl_areNames.calls k1 _ _ ((rd_T41 l0 x7_1).f1) true _ ?side1 ?side2 A26.out).mono ?_
           (case side1 => exact cU (Kd.C_below HR258_1.out (lV2 GE254 GE259)))
           (case side2 => exact HC258_1.out)
           rintro e w' ⟨rfl, ⟨nd, rfl⟩⟩
           refine ⟨_, rfl, ?_⟩
           refine hK.out _ _ ⟨cz BK259 0 _, cz BK259 1 _, cz BK259 2 _⟩ (fun hHeld => ?_)
           clear hK K
           refine norm_ (a' := ?_) ?_ ?_
           rotate_left
           ·show Act.put _ (some 34) _ = _
            simp only [Act.put, List.setIfInBounds_toArray, List.set_cons_zero, List.set_cons_succ, i64_w, i32_w]
            rfl
           refine pureA 23 35 (bz 37 16777215) rfl rfl (any_of HT_.out (by kernel_rfl)) ?_
           refine pureA 24 36 (bz 37 33554431) rfl rfl (any_of HT_.out (by kernel_rfl)) ?_
           refine pureA 25 37 (bz 37 67108863) rfl rfl (any_of HT_.out (by kernel_rfl)) ?_
           refine pureA 26 38 (bz 37 134217727) rfl rfl (any_of HT_.out (by kernel_rfl)) ?_
           refine takeA 27 39 (bz 37 268435455) rfl rfl (take_ofW HT_.out HW_.out (by kernel_rfl)) hHeld (by rintro w' ⟨s0, s1, s2⟩; go_simp; with_reducible rfl) ?_
           refine pureA 28 40 (bz 37 536870911) rfl rfl (any_of HT_.out (by kernel_rfl)) ?_
           refine pureA 29 41 (bz 37 1073741823) rfl rfl (any_of HT_.out (by kernel_rfl)) ?_
           refine pureA 30 42 (bz 37 2147483647) rfl rfl (any_of HT_.out (by kernel_rfl)) ?_
           refine pureA 31 43 (bz 37 4294967295) rfl rfl (any_of HT_.out (by kernel_rfl)) ?_
           refine pureU 32 44 (bz 37 8589934591) rfl rfl (any_of HT_.out (by kernel_rfl)) ?_
           refine pureU 33 45 (bz 37 17179869183) rfl rfl (any_of HT_.out (by kernel_rfl)) ?_
           refine pureU 34 46 (bz 37 34359738367) rfl rfl (any_of HT_.out (by kernel_rfl)) ?_
           refine pureU 35 47 (bz 37 68719476735) rfl rfl (any_of HT_.out (by kernel_rfl)) ?_
           refine pureA 36 48 (bz 37 137438953471) rfl rfl (any_of HT_.out (by kernel_rfl)) ?_
           refine done_ (done_of HT_.out (by kernel_rfl)) ?_
           try go_wp2
           go_meet
           case rel => exact ⟨_, (true), tE, H', ⟨by have := HK1.out; first | omega | exact Nat.le_refl _⟩, ⟨by refine bU ?_; exact BK254.out⟩, ⟨by refine bU ?_; exact BK259.out⟩, ⟨by repeat (first | (with_reducible first | exact HB.out | apply below_alloc | apply pw_below_drewN | apply below_drew1 | refine below_set ?_ GE254.out | refine below_set ?_ GE259.out) | exact HB.out)⟩⟩
          ·rw [if_neg c28] at H
           have c28b0 : decide (10 < (((rd_T41 l0 x7_1).f1).length : Int)) = false := decide_eq_false c28
           have c28b1 : decide (10 < ((rd_T41 l0 x7_1).f1).length) = false := decide_eq_false (by omega)
           clear c28
           have H' := Aside0.mk H
           clear H
           try go_wp2
           replace BK254 := Aside0.mk (blk_drew BK254.out)
           replace BK259 := Aside0.mk (blk_drew BK259.out)
           replace HB := Aside0.mk (below_drew1 HB.out)
           refine start_ (n := 37) (S := fun w' => w'.cell? ⟨gb259, 0, none⟩ = some (.string ((rd_T41 l0 x7_1).f0)) ∧ w'.cell? ⟨gb259, 1, none⟩ = some (.slice A258_1 ((rd_T41 l0 x7_1).f1).length c258_1) ∧ w'.cell? ⟨gb259, 2, none⟩ = some (.slice A258_2 ((rd_T41 l0 x7_1).f2).length c258_2)) (ds := []) #[false, false, false, false, false, false, false, false, false, false, false, false, false, false, false, false, false, false, false, false, false, false, false, false, false, false, false, false, false, false, false, false, false, false, false, false, false] (by kernel_rfl) rfl rfl ⟨cz BK259 0 _, cz BK259 1 _, cz BK259 2 _⟩ (fun hHeld => ?_); refine with_tabW impl_GoodAssets.tab4 impl_GoodAssets.bits4 (fun HT_ HW_ => ?_)
           generalize w11.drew = w30 at BK254 BK259 HB hHeld ⊢
           refine pureA 0 12 (bz 37 1) rfl rfl (any_of HT_.out (by kernel_rfl)) ?_
           refine takeA 1 13 (bz 37 3) rfl rfl (take_ofW HT_.out HW_.out (by kernel_rfl)) hHeld (by rintro w' ⟨s0, s1, s2⟩; go_simp; with_reducible rfl) ?_
           refine one_ (i := 2) (N := some 14) (bz 37 7) rfl rfl (one_of HT_.out (by kernel_rfl)) (by decide) (fun K hK => ?_)
           refine goes_ Try.func31 (by kernel_rfl) rfl #[.string ((rd_T41 l0 x7_1).f0)] (by rfl) rfl rfl aE ?_
           with_reducible refine (impl_GoodName.calls k1 ((rd_T41 l0 x7_1).f0) true _ A12.out).mono ?_
           rintro e w' ⟨rfl, ⟨nd, rfl⟩⟩
           refine ⟨_, rfl, ?_⟩
           refine hK.out _ _ ⟨cz BK259 0 _, cz BK259 1 _, cz BK259 2 _⟩ (fun hHeld => ?_)
           clear hK K
           refine norm_ (a' := ?_) ?_ ?_
           rotate_left
           ·show Act.put _ (some 14) _ = _
            simp only [Act.put, List.setIfInBounds_toArray, List.set_cons_zero, List.set_cons_succ, i64_w, i32_w]
            rfl
           refine pureA 3 15 (bz 37 15) rfl rfl (any_of HT_.out (by kernel_rfl)) ?_
           refine pureA 4 16 (bz 37 31) rfl rfl (any_of HT_.out (by kernel_rfl)) ?_
           refine pureA 5 17 (bz 37 63) rfl rfl (any_of HT_.out (by kernel_rfl)) ?_
           refine pureA 6 18 (bz 37 127) rfl rfl (any_of HT_.out (by kernel_rfl)) ?_
           refine pureA 7 19 (bz 37 255) rfl rfl (any_of HT_.out (by kernel_rfl)) ?_
           refine pureU 8 20 (bz 37 511) rfl rfl (any_of HT_.out (by kernel_rfl)) ?_
           refine pureU 9 21 (bz 37 1023) rfl rfl (any_of HT_.out (by kernel_rfl)) ?_
           refine pureU 10 22 (bz 37 2047) rfl rfl (any_of HT_.out (by kernel_rfl)) ?_
           refine pureU 11 23 (bz 37 4095) rfl rfl (any_of HT_.out (by kernel_rfl)) ?_
           refine pureU 12 24 (bz 37 8191) rfl rfl (any_of HT_.out (by kernel_rfl)) ?_
           refine pureU 13 25 (bz 37 16383) rfl rfl (any_of HT_.out (by kernel_rfl)) ?_
           refine pureU 14 26 (bz 37 32767) rfl rfl (any_of HT_.out (by kernel_rfl)) ?_
           refine pureU 15 27 (bz 37 65535) rfl rfl (any_of HT_.out (by kernel_rfl)) ?_
           refine pureU 16 28 (bz 37 131071) rfl rfl (any_of HT_.out (by kernel_rfl)) ?_
           refine pureA 17 29 (bz 37 262143) rfl rfl (any_of HT_.out (by kernel_rfl)) ?_
           refine pureA 18 30 (bz 37 524287) rfl rfl (any_of HT_.out (by kernel_rfl)) ?_
           refine pureA 19 31 (bz 37 1048575) rfl rfl (any_of HT_.out (by kernel_rfl)) ?_
           refine pureA 20 32 (bz 37 2097151) rfl rfl (any_of HT_.out (by kernel_rfl)) ?_
           refine takeA 21 33 (bz 37 4194303) rfl rfl (take_ofW HT_.out HW_.out (by kernel_rfl)) hHeld (by rintro w' ⟨s0, s1, s2⟩; go_simp; with_reducible rfl) ?_
           refine one_ (i := 22) (N := some 34) (bz 37 8388607) rfl rfl (one_of HT_.out (by kernel_rfl)) (by decide) (fun K hK => ?_)
           refine goes_ Try.func32 (by kernel_rfl) rfl #[.slice A258_1 ((rd_T41 l0 x7_1).f1).length c258_1] (by rfl) rfl rfl aE ?_
           with_reducible refine (impl_areNames.calls k1 _ _ ((rd_T41 l0 x7_1).f1) true _ ?side1 ?side2 A26.out).mono ?_
           (case side1 => exact cU (Kd.C_below HR258_1.out (lV2 GE254 GE259)))
           (case side2 => exact HC258_1.out)
           rintro e w' ⟨rfl, ⟨nd, rfl⟩⟩
           refine ⟨_, rfl, ?_⟩
           refine hK.out _ _ ⟨cz BK259 0 _, cz BK259 1 _, cz BK259 2 _⟩ (fun hHeld => ?_)
           clear hK K
           refine norm_ (a' := ?_) ?_ ?_
           rotate_left
           ·show Act.put _ (some 34) _ = _
            simp only [Act.put, List.setIfInBounds_toArray, List.set_cons_zero, List.set_cons_succ, i64_w, i32_w]
            rfl
           refine pureA 23 35 (bz 37 16777215) rfl rfl (any_of HT_.out (by kernel_rfl)) ?_
           refine pureA 24 36 (bz 37 33554431) rfl rfl (any_of HT_.out (by kernel_rfl)) ?_
           refine pureA 25 37 (bz 37 67108863) rfl rfl (any_of HT_.out (by kernel_rfl)) ?_
           refine pureA 26 38 (bz 37 134217727) rfl rfl (any_of HT_.out (by kernel_rfl)) ?_
           refine takeA 27 39 (bz 37 268435455) rfl rfl (take_ofW HT_.out HW_.out (by kernel_rfl)) hHeld (by rintro w' ⟨s0, s1, s2⟩; go_simp; with_reducible rfl) ?_
           refine pureA 28 40 (bz 37 536870911) rfl rfl (any_of HT_.out (by kernel_rfl)) ?_
           refine pureA 29 41 (bz 37 1073741823) rfl rfl (any_of HT_.out (by kernel_rfl)) ?_
           refine pureA 30 42 (bz 37 2147483647) rfl rfl (any_of HT_.out (by kernel_rfl)) ?_
           refine pureA 31 43 (bz 37 4294967295) rfl rfl (any_of HT_.out (by kernel_rfl)) ?_
           refine pureA 32 44 (bz 37 8589934591) rfl rfl (any_of HT_.out (by kernel_rfl)) ?_
           refine takeA 33 45 (bz 37 17179869183) rfl rfl (take_ofW HT_.out HW_.out (by kernel_rfl)) hHeld (by rintro w' ⟨s0, s1, s2⟩; go_simp; with_reducible rfl) ?_
           refine pureA 34 46 (bz 37 34359738367) rfl rfl (any_of HT_.out (by kernel_rfl)) ?_
           refine pureA 35 47 (bz 37 68719476735) rfl rfl (any_of HT_.out (by kernel_rfl)) ?_
           refine pureA 36 48 (bz 37 137438953471) rfl rfl (any_of HT_.out (by kernel_rfl)) ?_
           refine done_ (done_of HT_.out (by kernel_rfl)) ?_
           try go_wp2
           go_meet
           case rel => exact ⟨_, (decide ((((rd_T41 l0 x7_1).f2).length : Int) > 400)), tE, H', ⟨by have := HK1.out; first | omega | exact Nat.le_refl _⟩, ⟨by refine bU ?_; exact BK254.out⟩, ⟨by refine bU ?_; exact BK259.out⟩, ⟨by repeat (first | (with_reducible first | exact HB.out | apply below_alloc | apply pw_below_drewN | apply below_drew1 | refine below_set ?_ GE254.out | refine below_set ?_ GE259.out) | exact HB.out)⟩⟩
         ·replace c27 := Bool.eq_false_iff.mpr c27
          subst c27
          have H1 : (impl_GoodAssets.j1 k1 l0 (l0.length : Int) x7_1 true l0 ((rd_T41 l0 x7_1).f0) ((rd_T41 l0 x7_1).f1) ((rd_T41 l0 x7_1).f2)) = some r := by rw [if_neg (show ¬ (false = true) by decide)] at H; exact H
          clear H
          have H := H1
          clear H1
          have H' := Aside0.mk H
          clear H
          try go_wp2
          replace BK254 := Aside0.mk (blk_drew BK254.out)
          replace BK259 := Aside0.mk (blk_drew BK259.out)
          replace HB := Aside0.mk (below_drew1 HB.out)
          refine start_ (n := 37) (S := fun w' => w'.cell? ⟨gb259, 0, none⟩ = some (.string ((rd_T41 l0 x7_1).f0)) ∧ w'.cell? ⟨gb259, 1, none⟩ = some (.slice A258_1 ((rd_T41 l0 x7_1).f1).length c258_1) ∧ w'.cell? ⟨gb259, 2, none⟩ = some (.slice A258_2 ((rd_T41 l0 x7_1).f2).length c258_2)) (ds := []) #[false, false, false, false, false, false, false, false, false, false, false, false, false, false, false, false, false, false, false, false, false, false, false, false, false, false, false, false, false, false, false, false, false, false, false, false, false] (by kernel_rfl) rfl rfl ⟨cz BK259 0 _, cz BK259 1 _, cz BK259 2 _⟩ (fun hHeld => ?_); refine with_tabW impl_GoodAssets.tab4 impl_GoodAssets.bits4 (fun HT_ HW_ => ?_)
          generalize w11.drew = w31 at BK254 BK259 HB hHeld ⊢
          refine pureA 0 12 (bz 37 1) rfl rfl (any_of HT_.out (by kernel_rfl)) ?_
          refine takeA 1 13 (bz 37 3) rfl rfl (take_ofW HT_.out HW_.out (by kernel_rfl)) hHeld (by rintro w' ⟨s0, s1, s2⟩; go_simp; with_reducible rfl) ?_
          refine one_ (i := 2) (N := some 14) (bz 37 7) rfl rfl (one_of HT_.out (by kernel_rfl)) (by decide) (fun K hK => ?_)
          refine goes_ Try.func31 (by kernel_rfl) rfl #[.string ((rd_T41 l0 x7_1).f0)] (by rfl) rfl rfl aE ?_
          with_reducible refine (impl_GoodName.calls k1 ((rd_T41 l0 x7_1).f0) true _ A12.out).mono ?_
          rintro e w' ⟨rfl, ⟨nd, rfl⟩⟩
          refine ⟨_, rfl, ?_⟩
          refine hK.out _ _ ⟨cz BK259 0 _, cz BK259 1 _, cz BK259 2 _⟩ (fun hHeld => ?_)
          clear hK K
          refine norm_ (a' := ?_) ?_ ?_
          rotate_left
          ·show Act.put _ (some 14) _ = _
           simp only [Act.put, List.setIfInBounds_toArray, List.set_cons_zero, List.set_cons_succ, i64_w, i32_w]
           rfl
          refine pureA 3 15 (bz 37 15) rfl rfl (any_of HT_.out (by kernel_rfl)) ?_
          refine pureA 4 16 (bz 37 31) rfl rfl (any_of HT_.out (by kernel_rfl)) ?_
          refine pureA 5 17 (bz 37 63) rfl rfl (any_of HT_.out (by kernel_rfl)) ?_
          refine pureA 6 18 (bz 37 127) rfl rfl (any_of HT_.out (by kernel_rfl)) ?_
          refine pureA 7 19 (bz 37 255) rfl rfl (any_of HT_.out (by kernel_rfl)) ?_
          refine pureU 8 20 (bz 37 511) rfl rfl (any_of HT_.out (by kernel_rfl)) ?_
          refine pureU 9 21 (bz 37 1023) rfl rfl (any_of HT_.out (by kernel_rfl)) ?_
          refine pureU 10 22 (bz 37 2047) rfl rfl (any_of HT_.out (by kernel_rfl)) ?_
          refine pureU 11 23 (bz 37 4095) rfl rfl (any_of HT_.out (by kernel_rfl)) ?_
          refine pureU 12 24 (bz 37 8191) rfl rfl (any_of HT_.out (by kernel_rfl)) ?_
          refine pureU 13 25 (bz 37 16383) rfl rfl (any_of HT_.out (by kernel_rfl)) ?_
          refine pureU 14 26 (bz 37 32767) rfl rfl (any_of HT_.out (by kernel_rfl)) ?_
          refine pureU 15 27 (bz 37 65535) rfl rfl (any_of HT_.out (by kernel_rfl)) ?_
          refine pureU 16 28 (bz 37 131071) rfl rfl (any_of HT_.out (by kernel_rfl)) ?_
          refine pureA 17 29 (bz 37 262143) rfl rfl (any_of HT_.out (by kernel_rfl)) ?_
          refine pureA 18 30 (bz 37 524287) rfl rfl (any_of HT_.out (by kernel_rfl)) ?_
          refine pureA 19 31 (bz 37 1048575) rfl rfl (any_of HT_.out (by kernel_rfl)) ?_
          refine pureA 20 32 (bz 37 2097151) rfl rfl (any_of HT_.out (by kernel_rfl)) ?_
          refine takeA 21 33 (bz 37 4194303) rfl rfl (take_ofW HT_.out HW_.out (by kernel_rfl)) hHeld (by rintro w' ⟨s0, s1, s2⟩; go_simp; with_reducible rfl) ?_
          refine one_ (i := 22) (N := some 34) (bz 37 8388607) rfl rfl (one_of HT_.out (by kernel_rfl)) (by decide) (fun K hK => ?_)
          refine goes_ Try.func32 (by kernel_rfl) rfl #[.slice A258_1 ((rd_T41 l0 x7_1).f1).length c258_1] (by rfl) rfl rfl aE ?_
          with_reducible refine (impl_areNames.calls k1 _ _ ((rd_T41 l0 x7_1).f1) false _ ?side1 ?side2 A26.out).mono ?_
          (case side1 => exact cU (Kd.C_below HR258_1.out (lV2 GE254 GE259)))
          (case side2 => exact HC258_1.out)
          rintro e w' ⟨rfl, ⟨nd, rfl⟩⟩
          refine ⟨_, rfl, ?_⟩
          refine hK.out _ _ ⟨cz BK259 0 _, cz BK259 1 _, cz BK259 2 _⟩ (fun hHeld => ?_)
          clear hK K
          refine norm_ (a' := ?_) ?_ ?_
          rotate_left
          ·show Act.put _ (some 34) _ = _
           simp only [Act.put, List.setIfInBounds_toArray, List.set_cons_zero, List.set_cons_succ, i64_w, i32_w]
           rfl
          refine pureA 23 35 (bz 37 16777215) rfl rfl (any_of HT_.out (by kernel_rfl)) ?_
          refine pureA 24 36 (bz 37 33554431) rfl rfl (any_of HT_.out (by kernel_rfl)) ?_
          refine pureA 25 37 (bz 37 67108863) rfl rfl (any_of HT_.out (by kernel_rfl)) ?_
          refine pureU 26 38 (bz 37 134217727) rfl rfl (any_of HT_.out (by kernel_rfl)) ?_
          refine pureU 27 39 (bz 37 268435455) rfl rfl (any_of HT_.out (by kernel_rfl)) ?_
          refine pureU 28 40 (bz 37 536870911) rfl rfl (any_of HT_.out (by kernel_rfl)) ?_
          refine pureU 29 41 (bz 37 1073741823) rfl rfl (any_of HT_.out (by kernel_rfl)) ?_
          refine pureA 30 42 (bz 37 2147483647) rfl rfl (any_of HT_.out (by kernel_rfl)) ?_
          refine pureA 31 43 (bz 37 4294967295) rfl rfl (any_of HT_.out (by kernel_rfl)) ?_
          refine pureU 32 44 (bz 37 8589934591) rfl rfl (any_of HT_.out (by kernel_rfl)) ?_
          refine pureU 33 45 (bz 37 17179869183) rfl rfl (any_of HT_.out (by kernel_rfl)) ?_
          refine pureU 34 46 (bz 37 34359738367) rfl rfl (any_of HT_.out (by kernel_rfl)) ?_
          refine pureU 35 47 (bz 37 68719476735) rfl rfl (any_of HT_.out (by kernel_rfl)) ?_
          refine pureA 36 48 (bz 37 137438953471) rfl rfl (any_of HT_.out (by kernel_rfl)) ?_
          refine done_ (done_of HT_.out (by kernel_rfl)) ?_
          try go_wp2
          go_meet
          case rel => exact ⟨_, (true), tE, H', ⟨by have := HK1.out; first | omega | exact Nat.le_refl _⟩, ⟨by refine bU ?_; exact BK254.out⟩, ⟨by refine bU ?_; exact BK259.out⟩, ⟨by repeat (first | (with_reducible first | exact HB.out | apply below_alloc | apply pw_below_drewN | apply below_drew1 | refine below_set ?_ GE254.out | refine below_set ?_ GE259.out) | exact HB.out)⟩⟩
       ·replace c13 := Bool.eq_false_iff.mpr c13
        subst c13
        have H1 : (impl_GoodAssets.j1 k1 l0 (l0.length : Int) x7_1 true l0 ((rd_T41 l0 x7_1).f0) ((rd_T41 l0 x7_1).f1) ((rd_T41 l0 x7_1).f2)) = some r := by rw [if_neg (show ¬ (false = true) by decide)] at H; exact H
        clear H
        have H := H1
        clear H1
        have H' := Aside0.mk H
        clear H
        try go_wp2
        replace BK254 := Aside0.mk (blk_drew BK254.out)
        replace BK259 := Aside0.mk (blk_drew BK259.out)
        replace HB := Aside0.mk (below_drew1 HB.out)
        refine start_ (n := 37) (S := fun w' => w'.cell? ⟨gb259, 0, none⟩ = some (.string ((rd_T41 l0 x7_1).f0)) ∧ w'.cell? ⟨gb259, 1, none⟩ = some (.slice A258_1 ((rd_T41 l0 x7_1).f1).length c258_1) ∧ w'.cell? ⟨gb259, 2, none⟩ = some (.slice A258_2 ((rd_T41 l0 x7_1).f2).length c258_2)) (ds := []) #[false, false, false, false, false, false, false, false, false, false, false, false, false, false, false, false, false, false, false, false, false, false, false, false, false, false, false, false, false, false, false, false, false, false, false, false, false] (by kernel_rfl) rfl rfl ⟨cz BK259 0 _, cz BK259 1 _, cz BK259 2 _⟩ (fun hHeld => ?_); refine with_tabW impl_GoodAssets.tab4 impl_GoodAssets.bits4 (fun HT_ HW_ => ?_)
        generalize w11.drew = w32 at BK254 BK259 HB hHeld ⊢
        refine pureA 0 12 (bz 37 1) rfl rfl (any_of HT_.out (by kernel_rfl)) ?_
        refine takeA 1 13 (bz 37 3) rfl rfl (take_ofW HT_.out HW_.out (by kernel_rfl)) hHeld (by rintro w' ⟨s0, s1, s2⟩; go_simp; with_reducible rfl) ?_
        refine one_ (i := 2) (N := some 14) (bz 37 7) rfl rfl (one_of HT_.out (by kernel_rfl)) (by decide) (fun K hK => ?_)
        refine goes_ Try.func31 (by kernel_rfl) rfl #[.string ((rd_T41 l0 x7_1).f0)] (by rfl) rfl rfl aE ?_
        with_reducible refine (impl_GoodName.calls k1 ((rd_T41 l0 x7_1).f0) false _ A12.out).mono ?_
        rintro e w' ⟨rfl, ⟨nd, rfl⟩⟩
        refine ⟨_, rfl, ?_⟩
        refine hK.out _ _ ⟨cz BK259 0 _, cz BK259 1 _, cz BK259 2 _⟩ (fun hHeld => ?_)
        clear hK K
        refine norm_ (a' := ?_) ?_ ?_
        rotate_left
        ·show Act.put _ (some 14) _ = _
         simp only [Act.put, List.setIfInBounds_toArray, List.set_cons_zero, List.set_cons_succ, i64_w, i32_w]
         rfl
        refine pureA 3 15 (bz 37 15) rfl rfl (any_of HT_.out (by kernel_rfl)) ?_
        refine pureA 4 16 (bz 37 31) rfl rfl (any_of HT_.out (by kernel_rfl)) ?_
        refine pureU 5 17 (bz 37 63) rfl rfl (any_of HT_.out (by kernel_rfl)) ?_
        refine pureU 6 18 (bz 37 127) rfl rfl (any_of HT_.out (by kernel_rfl)) ?_
        refine pureU 7 19 (bz 37 255) rfl rfl (any_of HT_.out (by kernel_rfl)) ?_
        refine pureU 8 20 (bz 37 511) rfl rfl (any_of HT_.out (by kernel_rfl)) ?_
        refine pureU 9 21 (bz 37 1023) rfl rfl (any_of HT_.out (by kernel_rfl)) ?_
        refine pureU 10 22 (bz 37 2047) rfl rfl (any_of HT_.out (by kernel_rfl)) ?_
        refine pureU 11 23 (bz 37 4095) rfl rfl (any_of HT_.out (by kernel_rfl)) ?_
        refine pureU 12 24 (bz 37 8191) rfl rfl (any_of HT_.out (by kernel_rfl)) ?_
        refine pureU 13 25 (bz 37 16383) rfl rfl (any_of HT_.out (by kernel_rfl)) ?_
        refine pureU 14 26 (bz 37 32767) rfl rfl (any_of HT_.out (by kernel_rfl)) ?_
        refine pureU 15 27 (bz 37 65535) rfl rfl (any_of HT_.out (by kernel_rfl)) ?_
        refine pureU 16 28 (bz 37 131071) rfl rfl (any_of HT_.out (by kernel_rfl)) ?_
        refine pureU 17 29 (bz 37 262143) rfl rfl (any_of HT_.out (by kernel_rfl)) ?_
        refine pureA 18 30 (bz 37 524287) rfl rfl (any_of HT_.out (by kernel_rfl)) ?_
        refine pureA 19 31 (bz 37 1048575) rfl rfl (any_of HT_.out (by kernel_rfl)) ?_
        refine pureU 20 32 (bz 37 2097151) rfl rfl (any_of HT_.out (by kernel_rfl)) ?_
        refine pureU 21 33 (bz 37 4194303) rfl rfl (any_of HT_.out (by kernel_rfl)) ?_
        refine pureU 22 34 (bz 37 8388607) rfl rfl (any_of HT_.out (by kernel_rfl)) ?_
        refine pureU 23 35 (bz 37 16777215) rfl rfl (any_of HT_.out (by kernel_rfl)) ?_
        refine pureA 24 36 (bz 37 33554431) rfl rfl (any_of HT_.out (by kernel_rfl)) ?_
        refine pureA 25 37 (bz 37 67108863) rfl rfl (any_of HT_.out (by kernel_rfl)) ?_
        refine pureU 26 38 (bz 37 134217727) rfl rfl (any_of HT_.out (by kernel_rfl)) ?_
        refine pureU 27 39 (bz 37 268435455) rfl rfl (any_of HT_.out (by kernel_rfl)) ?_
        refine pureU 28 40 (bz 37 536870911) rfl rfl (any_of HT_.out (by kernel_rfl)) ?_
        refine pureU 29 41 (bz 37 1073741823) rfl rfl (any_of HT_.out (by kernel_rfl)) ?_
        refine pureA 30 42 (bz 37 2147483647) rfl rfl (any_of HT_.out (by kernel_rfl)) ?_
        refine pureA 31 43 (bz 37 4294967295) rfl rfl (any_of HT_.out (by kernel_rfl)) ?_
        refine pureU 32 44 (bz 37 8589934591) rfl rfl (any_of HT_.out (by kernel_rfl)) ?_
        refine pureU 33 45 (bz 37 17179869183) rfl rfl (any_of HT_.out (by kernel_rfl)) ?_
        refine pureU 34 46 (bz 37 34359738367) rfl rfl (any_of HT_.out (by kernel_rfl)) ?_
        refine pureU 35 47 (bz 37 68719476735) rfl rfl (any_of HT_.out (by kernel_rfl)) ?_
        refine pureA 36 48 (bz 37 137438953471) rfl rfl (any_of HT_.out (by kernel_rfl)) ?_
        refine done_ (done_of HT_.out (by kernel_rfl)) ?_
        try go_wp2
        go_meet
        case rel => exact ⟨_, (true), tE, H', ⟨by have := HK1.out; first | omega | exact Nat.le_refl _⟩, ⟨by refine bU ?_; exact BK254.out⟩, ⟨by refine bU ?_; exact BK259.out⟩, ⟨by repeat (first | (with_reducible first | exact HB.out | apply below_alloc | apply pw_below_drewN | apply below_drew1 | refine below_set ?_ GE254.out | refine below_set ?_ GE259.out) | exact HB.out)⟩⟩
      case rest =>
       clear HC7
       try clear c1
       try clear c2
       try clear p2
       try clear c3
       try clear c13
       try clear c25
       try clear c27
       try clear c31
       try clear c32
       obtain ⟨kq, x48_6, rfl, HA, HJ6, BK254, BK259, HB⟩ := hcut
       cases kq with
       | zero => exact absurd HA.out (by simp [impl_GoodAssets.j1])
       | succ kj6 =>
        have H := HA.out
        clear HA
        simp only [impl_GoodAssets.j1] at H
        by_cases c33 : x48_6 = true
        ·subst c33
         have H1 : (some false) = some r := by rw [if_pos rfl] at H; exact H
         clear H
         have H := H1
         clear H1
         obtain rfl := Option.some.inj H
         go_wp2
         go_ret
         exact ⟨eE, lV2 GE254 GE259⟩
        ·replace c33 := Bool.eq_false_iff.mpr c33
         subst c33
         have H1 : ((slices_ContainsFunc_w34.f kj6 ((rd_T41 l0 x7_1).f1) l0).bind fun t264 => (if t264 = true then (some false) else (impl_GoodAssets.l0 kj6 l0 (l0.length : Int) (wrap64 (x7_1 + 1)) l0))) = some r := by rw [if_neg (show ¬ (false = true) by decide)] at H; exact H
         clear H
         have H := H1
         clear H1
         replace H := Option.bind_eq_some_iff.mp H
         obtain ⟨t264, A340, H⟩ := H
         replace H : (if t264 = true then (some false) else (impl_GoodAssets.l0 kj6 l0 (l0.length : Int) (wrap64 (x7_1 + 1)) l0)) = some r := H
         have A34 := Aside0.mk A340
         clear A340
         by_cases c35 : t264 = true
         ·subst c35
          have H1 : (some false) = some r := by rw [if_pos rfl] at H; exact H
          clear H
          have H := H1
          clear H1
          obtain rfl := Option.some.inj H
          have hnb36 := NB259_254.out
          have hnc36 := NB254_259.out
          have hcz37_0 := cz BK259 0 (.string ((rd_T41 l0 x7_1).f0))
          have hcz37_1 := cz BK259 1 (.slice A258_1 ((rd_T41 l0 x7_1).f1).length c258_1)
          have hcz37_2 := cz BK259 2 (.slice A258_2 ((rd_T41 l0 x7_1).f2).length c258_2)
          have hfz37_0 := fz BK259 0
          have hfz37_1 := fz BK259 1
          have hfz37_2 := fz BK259 2
          go_wp2_with (first | ((with_reducible refine gate_callee (f := 33) rfl ?_); refine goesL_ (some 52) rfl rfl Try.func33 (by kernel_rfl) rfl #[.slice A258_1 ((rd_T41 l0 x7_1).f1).length c258_1, .func (.func 34) #[] #[.pointer (some ⟨gb254, 0, none⟩)]] rfl aE ?_; (with_reducible refine (slices_ContainsFunc_w34.calls kj6 _ _ ((rd_T41 l0 x7_1).f1) gb254 (some ad258) c0 l0 true _ ?side1 ?side2 ?side3 ?side4 ?side5 A34.out).mono ?_); (case side1 => exact cU (Kd.C_below HR258_1.out HB.out)); (case side2 => exact HC258_1.out); (case side3 => exact cU (Kd.C_below HR0.out HB.out)); (case side4 => exact HC0.out); (case side5 => refine bU ?_; exact BK254.out); rintro e w38 ⟨rfl, hb⟩; refine ⟨_, rfl, ?_⟩; replace BK254 := bB (bV BK254) hb; replace BK259 := bB (bV BK259) hb; replace HB := bH (lV2 GE254 GE259) hb; (try clear hb)))
          go_ret
          exact ⟨eE, lV2 GE254 GE259⟩
         ·replace c35 := Bool.eq_false_iff.mpr c35
          subst c35
          have H1 : (impl_GoodAssets.l0 kj6 l0 (l0.length : Int) (wrap64 (x7_1 + 1)) l0) = some r := by rw [if_neg (show ¬ (false = true) by decide)] at H; exact H
          clear H
          have H := H1
          clear H1
          have H' := Aside0.mk H
          clear H
          have hnb39 := NB259_254.out
          have hnc39 := NB254_259.out
          have hcz40_0 := cz BK259 0 (.string ((rd_T41 l0 x7_1).f0))
          have hcz40_1 := cz BK259 1 (.slice A258_1 ((rd_T41 l0 x7_1).f1).length c258_1)
          have hcz40_2 := cz BK259 2 (.slice A258_2 ((rd_T41 l0 x7_1).f2).length c258_2)
          have hfz40_0 := fz BK259 0
          have hfz40_1 := fz BK259 1
          have hfz40_2 := fz BK259 2
          go_wp2_with (first | ((with_reducible refine gate_callee (f := 33) rfl ?_); refine goesL_ (some 52) rfl rfl Try.func33 (by kernel_rfl) rfl #[.slice A258_1 ((rd_T41 l0 x7_1).f1).length c258_1, .func (.func 34) #[] #[.pointer (some ⟨gb254, 0, none⟩)]] rfl aE ?_; (with_reducible refine (slices_ContainsFunc_w34.calls kj6 _ _ ((rd_T41 l0 x7_1).f1) gb254 (some ad258) c0 l0 false _ ?side1 ?side2 ?side3 ?side4 ?side5 A34.out).mono ?_); (case side1 => exact cU (Kd.C_below HR258_1.out HB.out)); (case side2 => exact HC258_1.out); (case side3 => exact cU (Kd.C_below HR0.out HB.out)); (case side4 => exact HC0.out); (case side5 => refine bU ?_; exact BK254.out); rintro e w41 ⟨rfl, hb⟩; refine ⟨_, rfl, ?_⟩; replace BK254 := bB (bV BK254) hb; replace BK259 := bB (bV BK259) hb; replace HB := bH (lV2 GE254 GE259) hb; (try clear hb)))
          go_roundg kj6
          case measure => have := HK1.out; have := HJ6.out; omega
          case rel => exact ⟨(wrap64 (x7_1 + 1)), tE, H', ⟨by have := HK1.out; have := HJ6.out; omega⟩, ⟨by refine bU ?_; exact BK254.out⟩, ⟨by repeat (first | (with_reducible first | exact HB.out | apply below_alloc | apply pw_below_drewN | apply below_drew1 | refine below_set ?_ GE254.out | refine below_set ?_ GE259.out) | exact HB.out)⟩⟩
     ·rw [if_neg c6] at H
      exact absurd H (by simp)
    ·rw [if_neg c5] at H
     exact absurd H (by simp)
   ·rw [if_neg c4] at H
    have c4b0 : decide (x7_1 < (l0.length : Int)) = false := decide_eq_false c4
    clear c4
    by_cases c42 : (l0.length : Int) ≤ 30
    ·rw [if_pos c42] at H
     have c42b0 : decide ((l0.length : Int) ≤ 30) = true := decide_eq_true c42
     have c42b1 : decide (l0.length ≤ 30) = true := decide_eq_true (by omega)
     clear c42
     replace H := Option.bind_eq_some_iff.mp H
     obtain ⟨t255, A430, H⟩ := H
     replace H : (some ((t255.length : Int) == (l0.length : Int))) = some r := H
     have A43 := Aside0.mk A430
     clear A430
     obtain rfl := Option.some.inj H
     try go_wp2
     replace BK254 := Aside0.mk (blk_drew BK254.out)
     replace HB := Aside0.mk (below_drew1 HB.out)
     refine start_ (n := 12) (S := fun w' => w'.cell? ⟨gb254, 0, none⟩ = some (.slice A0 l0.length c0)) (ds := []) #[false, false, false, false, false, false, false, false, false, false, false, false] (by kernel_rfl) rfl rfl (cz BK254 0 _) (fun hHeld => ?_); refine with_tabW impl_GoodAssets.tab9 impl_GoodAssets.bits9 (fun HT_ HW_ => ?_)
     generalize wr.drew = w44 at BK254 HB hHeld ⊢
     refine take_ (i := 0) (N := some 54) (v := ?_) (a' := ?_) (bz 12 1) rfl rfl (take_ofW HT_.out HW_.out (by kernel_rfl)) (fun _ _ _ h => h) (Or.inl ⟨by rfl, ?_⟩) hHeld ?_ ?_
     rotate_left
     ·intro w' s0
      go_simp
      with_reducible rfl
     rotate_left
     ·simp only [Act.put, List.setIfInBounds_toArray, List.set_cons_zero, List.set_cons_succ, i64_w, i32_w]
      rfl
     refine pureA 1 55 (bz 12 3) rfl rfl (any_of HT_.out (by kernel_rfl)) ?_
     refine pureA 2 56 (bz 12 7) rfl rfl (any_of HT_.out (by kernel_rfl)) ?_
     refine pureA 3 57 (bz 12 15) rfl rfl (any_of HT_.out (by kernel_rfl)) ?_
     refine take_ (i := 4) (N := some 58) (v := ?_) (a' := ?_) (bz 12 31) rfl rfl (take_ofW HT_.out HW_.out (by kernel_rfl)) (fun _ _ _ h => h) (Or.inl ⟨by rfl, ?_⟩) hHeld ?_ ?_
     rotate_left
     ·intro w' s0
      go_simp
      with_reducible rfl
     rotate_left
     ·simp only [Act.put, List.setIfInBounds_toArray, List.set_cons_zero, List.set_cons_succ, i64_w, i32_w]
      rfl
     refine take_ (i := 7) (N := some 61) (v := ?_) (a' := ?_) (bz 12 159) rfl rfl (take_ofW HT_.out HW_.out (by kernel_rfl)) (fun _ _ _ h => h) (Or.inl ⟨by rfl, ?_⟩) hHeld ?_ ?_
     rotate_left
     ·intro w' s0
      go_simp
      with_reducible rfl
     rotate_left
     ·simp only [Act.put, List.setIfInBounds_toArray, List.set_cons_zero, List.set_cons_succ, i64_w, i32_w]
      rfl
     refine pureA 8 62 (bz 12 415) rfl rfl (any_of HT_.out (by kernel_rfl)) ?_
     refine one_ (i := 5) (N := some 59) (bz 12 447) rfl rfl (one_of HT_.out (by kernel_rfl)) (by decide) (fun K hK => ?_)
     refine goes_ Try.func36 (by kernel_rfl) rfl #[.slice A0 l0.length c0] (by rfl) rfl rfl aE ?_
     with_reducible refine (impl_makeOrder.calls k1 _ _ l0 t255 _ ?side1 ?side2 A43.out).mono ?_
     (case side1 => exact cU (Kd.C_below HR0.out HB.out))
     (case side2 => exact HC0.out)
     rintro e w45 ⟨v256, rfl, ho0, hb⟩
     refine ⟨_, rfl, ?_⟩
     have HO257 := Aside0.mk (Kd.R_lower ho0 (below_size (lV1 GE254)))
     replace BK254 := bB (bV BK254) hb
     replace HB := bH (lV1 GE254) hb
     (try clear hb)
     (try clear hb2)
     (try clear hk)
     (try clear hi)
     (try clear ho0)
     obtain ⟨Ao46, co46, eo46⟩ := Kd.R_slice HO257.out
     (first | subst eo46 | (injection eo46 with f1_ f2_ f3_; have f4_ := f1_.symm; have f5_ := f3_.symm; clear f1_ f2_ f3_; subst f4_; subst f5_))
     refine hK.out _ _ (cz BK254 0 _) (fun hHeld => ?_)
     clear hK K
     refine norm_ (a' := ?_) ?_ ?_
     rotate_left
     ·show Act.put _ (some 59) _ = _
      simp only [Act.put, List.setIfInBounds_toArray, List.set_cons_zero, List.set_cons_succ, i64_w, i32_w]
      rfl
     refine pureA 6 60 (bz 12 511) rfl rfl (any_of HT_.out (by kernel_rfl)) ?_
     refine pureA 9 63 (bz 12 1023) rfl rfl (any_of HT_.out (by kernel_rfl)) ?_
     refine pureA 10 64 (bz 12 2047) rfl rfl (any_of HT_.out (by kernel_rfl)) ?_
     refine pureA 11 2 (bz 12 4095) rfl rfl (any_of HT_.out (by kernel_rfl)) ?_
     refine done_ (done_of HT_.out (by kernel_rfl)) ?_
     try go_wp2
     go_ret
     exact ⟨eE, lV1 GE254⟩
    ·rw [if_neg c42] at H
     have c42b0 : decide ((l0.length : Int) ≤ 30) = false := decide_eq_false c42
     have c42b1 : decide (l0.length ≤ 30) = false := decide_eq_false (by omega)
     clear c42
     obtain rfl := Option.some.inj H
     try go_wp2
     replace BK254 := Aside0.mk (blk_drew BK254.out)
     replace HB := Aside0.mk (below_drew1 HB.out)
     refine start_ (n := 12) (S := fun w' => w'.cell? ⟨gb254, 0, none⟩ = some (.slice A0 l0.length c0)) (ds := []) #[false, false, false, false, false, false, false, false, false, false, false, false] (by kernel_rfl) rfl rfl (cz BK254 0 _) (fun hHeld => ?_); refine with_tabW impl_GoodAssets.tab9 impl_GoodAssets.bits9 (fun HT_ HW_ => ?_)
     generalize wr.drew = w47 at BK254 HB hHeld ⊢
     refine take_ (i := 0) (N := some 54) (v := ?_) (a' := ?_) (bz 12 1) rfl rfl (take_ofW HT_.out HW_.out (by kernel_rfl)) (fun _ _ _ h => h) (Or.inl ⟨by rfl, ?_⟩) hHeld ?_ ?_
     rotate_left
     ·intro w' s0
      go_simp
      with_reducible rfl
     rotate_left
     ·simp only [Act.put, List.setIfInBounds_toArray, List.set_cons_zero, List.set_cons_succ, i64_w, i32_w]
      rfl
     refine pureA 1 55 (bz 12 3) rfl rfl (any_of HT_.out (by kernel_rfl)) ?_
     refine pureA 2 56 (bz 12 7) rfl rfl (any_of HT_.out (by kernel_rfl)) ?_
     refine pureA 3 57 (bz 12 15) rfl rfl (any_of HT_.out (by kernel_rfl)) ?_
     refine pureU 4 58 (bz 12 31) rfl rfl (any_of HT_.out (by kernel_rfl)) ?_
     refine pureU 5 59 (bz 12 63) rfl rfl (any_of HT_.out (by kernel_rfl)) ?_
     refine pureU 6 60 (bz 12 127) rfl rfl (any_of HT_.out (by kernel_rfl)) ?_
     refine pureU 7 61 (bz 12 255) rfl rfl (any_of HT_.out (by kernel_rfl)) ?_
     refine pureU 8 62 (bz 12 511) rfl rfl (any_of HT_.out (by kernel_rfl)) ?_
     refine pureU 9 63 (bz 12 1023) rfl rfl (any_of HT_.out (by kernel_rfl)) ?_
     refine pureA 10 64 (bz 12 2047) rfl rfl (any_of HT_.out (by kernel_rfl)) ?_
     refine pureA 11 2 (bz 12 4095) rfl rfl (any_of HT_.out (by kernel_rfl)) ?_
     refine done_ (done_of HT_.out (by kernel_rfl)) ?_
     try go_wp2
     go_ret
     exact ⟨eE, lV1 GE254⟩
end Go.Proofs.Ytehkpnnidbghhab.PFnExactStaleBetween
namespace Go.Proofs.Ytehkpnnidbghhab.PFnExactStaleBetween
open Go.RowKit Go.Proofs.YtehkpnnidbghhabW.PrintWords Go.Proofs.YtehkpnnidbghhabW.PrintLast Go.Proofs.YtehkpnnidbghhabW.PrintMore
attribute [local go_sem] max2_int min2_int max_two min_two max_three min_three max_four min_four   -- for this text's walks alone
set_option linter.unusedVariables false
set_option linter.unusedSimpArgs false
def impl_four.f (a0 : Int) : Option (List Int) := some (([(a0 / 16777216) % 256, (a0 / 65536) % 256, (a0 / 256) % 256, (a0) % 256] : List Int))
set_option maxHeartbeats 8000000 in
set_option maxRecDepth 100000 in
theorem impl_four.calls (a0 : Int) (r : List Int) (w : World) (h : impl_four.f a0 = some r) :
  Calls Try.prog 38 #[.int .u32 a0] w fun e w' => ∃ v0_ : Value, e = .returned (v0_) ∧ Kd.R (Kd.int .u8) 5 w' w.heap.size (fun _ => True) v0_ r ∧ Below w.heap.size w w' := by
 have HB := Aside0.mk (Below.refl w.heap.size w)
 have H : (some (([(a0 / 16777216) % 256, (a0 / 65536) % 256, (a0 / 256) % 256, (a0) % 256] : List Int))) = some r := h
 clear h
 obtain ⟨y265, hy265⟩ : ∃ y_ : List Int, y_ = (([(a0 / 16777216) % 256, (a0 / 65536) % 256, (a0 / 256) % 256, (a0) % 256] : List Int)) := ⟨_, rfl⟩
 replace H : (some y265) = some r := by first | (rw [hy265]; with_reducible exact H) | (have H2_ := (Option.bind_some _ _).symm.trans H; rw [hy265]; with_reducible exact H2_) | (have H2_ := (Option.bind_some _ _).symm.trans H; with_reducible exact H2_) | with_reducible exact H | (rw [hy265]; exact H) | exact H
 have Ny265 := Aside0.mk hy265
 clear hy265
 obtain rfl := Option.some.inj H
 go_enter Try.func38, Try.ntmps38
 go_wp2_with (first | ((with_reducible refine gate_dst (N := 14) rfl ?_); refine Kd.R_lit (Kd.int .u8) _ 5 ?hg (N := 14) ?hd (xs := ([(a0 / 16777216) % 256, (a0 / 65536) % 256, (a0 / 256) % 256, (a0) % 256] : List Int)) (inner := [.int .u8 ((a0 / 16777216) % 256), .int .u8 ((a0 / 65536) % 256), .int .u8 ((a0 / 256) % 256), .int .u8 ((a0) % 256)]) (ok := fun _ => True) (okp := fun _ => True) ?hr ?hp (fun _ hk => hk) trivial (Below.refl _ _) (Nat.le_refl _) (by simp) ?_; (case hd => rfl); (case hg => rfl); (case hr => exact sE); (case hp => exact (Reps.one (show Kd.M (Kd.int .u8) _ _ _ ((a0 / 16777216) % 256) [.int .u8 ((a0 / 16777216) % 256)] from rfl) (Reps.one (show Kd.M (Kd.int .u8) _ _ _ ((a0 / 65536) % 256) [.int .u8 ((a0 / 65536) % 256)] from rfl) (Reps.one (show Kd.M (Kd.int .u8) _ _ _ ((a0 / 256) % 256) [.int .u8 ((a0 / 256) % 256)] from rfl) (Reps.one (show Kd.M (Kd.int .u8) _ _ _ ((a0) % 256) [.int .u8 ((a0) % 256)] from rfl) (Reps.none _ _)))))); intro v266 w2 ho3 hb hg_ hnew_; clear hg_ hnew_; (first | rw [← Ny265.out] at ho3 | (simp only [Int.reduceToNat] at ho3; rw [← Ny265.out] at ho3)); have HO267 := Aside0.mk (Kd.R_lower ho3 (below_size (lU))); replace HB := bH (lU) hb; clear hb ho3))
 go_ret
 exact ⟨_, eE, by (with_reducible repeat (first | apply Kd.R_alloc | apply Kd.R_drewN | apply Kd.R_drew)); exact HO267.out, lU⟩
def impl_digest.l0 : Nat → Int → List Int → Int → Int → Option (Int)
 | 0, _, _, _, _ => none
 | k + 1, x3, x6, x7, x8 => if x8 < x7 then (if 0 ≤ x8 then (if x8 < (x6.length : Int) then (impl_digest.l0 k (((Go.bits .xor .u32 x3 ((rd x6 x8) % 4294967296)) * 16777619) % 4294967296) x6 x7 (wrap64 (x8 + 1))) else (none)) else (none)) else (some x3)
def impl_digest.f (k : Nat) (l0 : List Int) : Option (Int) := impl_digest.l0 k 2166136261 l0 (l0.length : Int) 0
theorem impl_digest.mono_l : ∀ k, (∀ y0 y1 y2 y3, LeO (impl_digest.l0 k y0 y1 y2 y3) (impl_digest.l0 (k + 1) y0 y1 y2 y3))
 | 0 => fun _ _ _ _ r h => by simp [impl_digest.l0] at h
 | k + 1 => by
  have ih0 := impl_digest.mono_l k
  ·intro y0 y1 y2 y3
   unfold impl_digest.l0
   repeat' first
   | (with_reducible exact ih0 _ _ _ _)
   | (with_reducible first | exact LeO.refl _ | exact LeO.none _ | refine LeO.ite ?_ ?_ | refine LeO.bind ?_ (fun _ => ?_))
   | exact ih0 _ _ _ _ | exact LeO.none _ | refine LeO.ite ?_ ?_ | refine LeO.bind ?_ (fun _ => ?_)
theorem impl_digest.mono : ∀ a0 k, LeO (impl_digest.f k a0) (impl_digest.f (k + 1) a0) := by
 intro a0 k
 have ih0 := impl_digest.mono_l k
 unfold impl_digest.f
 repeat' first
   | (with_reducible exact ih0 _ _ _ _)
   | (with_reducible first | exact LeO.refl _ | exact LeO.none _ | refine LeO.ite ?_ ?_ | refine LeO.bind ?_ (fun _ => ?_))
   | exact ih0 _ _ _ _ | exact LeO.none _ | refine LeO.ite ?_ ?_ | refine LeO.bind ?_ (fun _ => ?_)
set_option maxHeartbeats 8000000 in
set_option maxRecDepth 100000 in
theorem impl_digest.calls (k : Nat) (A0 : Option Addr) (c0 : Nat) (l0 : List Int) (r : Int) (w : World) (hr0 : Kd.C (Kd.int .u8) w A0 l0.length l0) (hc0 : l0.length ≤ c0) (h : impl_digest.f k l0 = some r) :
  Calls Try.prog 39 #[.slice A0 l0.length c0] w fun e w' => e = .returned (.int .u32 r) ∧ Drawn0 w w' := by
 have HR0 := Aside0.mk hr0
 have HC0 := Aside0.mk hc0
 clear hr0 hc0
 have H : (impl_digest.l0 k 2166136261 l0 (l0.length : Int) 0) = some r := h
 clear h
 have H' := Aside0.mk H
 clear H
 go_enter Try.func39, Try.ntmps39
 go_wp2
 go_loopg [3, 8] k (fun kq v3 v8 w' => ∃ (x3_1 : Int) (x8_1 : Int), v3 = .int .u32 x3_1 ∧ v8 = .int .i64 x8_1 ∧ Aside0 (impl_digest.l0 kq x3_1 l0 (l0.length : Int) x8_1 = some r) ∧ Aside0 (kq ≤ k) ∧ Drawn0 w w')
 case atStart => exact ⟨(2166136261), (0), tE, tE, H', ⟨Nat.le_refl _⟩, by repeat (first | exact Drawn0.refl _ | apply Drawn0.step)⟩
 case round =>
  clear H'
  obtain ⟨x3_1, x8_1, rfl, rfl, HA, HK1, ⟨m1, rfl⟩⟩ := hrel
  cases gk with
  | zero => exact absurd HA.out (by simp [impl_digest.l0])
  | succ k1 =>
   have H := HA.out
   clear HA
   simp only [impl_digest.l0] at H
   by_cases c2 : x8_1 < (l0.length : Int)
   ·rw [if_pos c2] at H
    have c2b0 : decide (x8_1 < (l0.length : Int)) = true := decide_eq_true c2
    clear c2
    by_cases c3 : 0 ≤ x8_1
    ·rw [if_pos c3] at H
     have c3b0 : decide (0 ≤ x8_1) = true := decide_eq_true c3
     clear c3
     by_cases c4 : x8_1 < (l0.length : Int)
     ·rw [if_pos c4] at H
      have c4b0 : decide (x8_1 < (l0.length : Int)) = true := decide_eq_true c4
      clear c4
      have H' := Aside0.mk H
      clear H
      have p268 : 0 ≤ (x8_1 : Int) := of_decide_eq_true hE
      have q268 : x8_1 < (l0.length : Int) := of_decide_eq_true hE
      obtain ⟨ad268, e268, hx268_0⟩ := Kd.at_int HR0.out x8_1 p268 q268
      cases e268
      replace p268 := eq_true p268
      replace q268 := eq_true q268
      go_wp2
      go_roundg k1
      case measure => have := HK1.out; omega
      case rel => exact ⟨(((Go.bits .xor .u32 x3_1 ((rd l0 x8_1) % 4294967296)) * 16777619) % 4294967296), (wrap64 (x8_1 + 1)), tE, tE, H', ⟨by have := HK1.out; omega⟩, by repeat (first | exact Drawn0.refl _ | apply Drawn0.step)⟩
     ·rw [if_neg c4] at H
      exact absurd H (by simp)
    ·rw [if_neg c3] at H
     exact absurd H (by simp)
   ·rw [if_neg c2] at H
    have c2b0 : decide (x8_1 < (l0.length : Int)) = false := decide_eq_false c2
    clear c2
    obtain rfl := Option.some.inj H
    go_wp2
    go_ret
    exact ⟨by first | rfl | (simp; done) | (simp [*]; done) | exact not_isEmpty _ | exact (not_isEmpty _).symm | exact is_empty _ | exact (is_empty _).symm, by repeat (first | exact Drawn0.refl _ | apply Drawn0.step)⟩
theorem hT {w w1 : World} {a : Addr} {v : Value} (hb : Below w.heap.size w w1) (h : w.cell? a = some v) : w1.cell? a = some v := (hb.cell (World.block_lt_of_cell? _ _ h)).trans h
theorem R_cut0 {w : World} {e base : Nat} {ok : Nat → Prop} {v : Value} {xs : List Int} (h : (Kd.int .u8).R e w base ok v xs) (hp : 0 < xs.length) : ∃ g cap, v = .slice (some ⟨g, 0, none⟩) xs.length cap ∧ (Kd.int .u8).R e w base ok (.slice (some ⟨g, 0, none⟩) 0 cap) [] := by
 obtain ⟨h0, inner, hown, _⟩ := h
 rcases hown.2 with ⟨rfl, h1⟩ | ⟨g, cap, cur, rfl, hb, hg, hn, hc, hs, ht⟩
 ·omega
 ·exact ⟨g, cap, rfl, h0, [], ⟨rfl, .inr ⟨g, cap, cur, rfl, hb, hg, Nat.zero_le _, hc, hs, by simp⟩⟩, ⟨rfl, fun j p hj => by simp at hj⟩⟩
set_option maxHeartbeats 8000000 in
set_option maxRecDepth 100000 in
theorem grow_nil (n : Int) (w : World) (h0 : 0 < n) (h1 : n ≤ 1000000000) :
  Calls Try.prog 53 #[.slice none 0 0, .int .i64 n] w fun e w' => ∃ v0_ : Value, e = .returned (v0_) ∧ Kd.R (Kd.int .u8) 5 w' w.heap.size (fun _ => True) v0_ [] ∧ Below w.heap.size w w' := by
 have hz1 : ¬ n < 0 := by omega
 have hz2 : n > 0 := h0
 have hw : wrap64 n = n := by unfold wrap64; omega
 have hel : Try.prog.elem 35 = 5 := by simp [Program.elem, Try.underlying35]
 obtain ⟨j0, hj0, _, hj1, _⟩ := info_parts info5
 have cutA : ∀ (W : World) (g m cap : Nat), (Instr.slice 35 (.slice (some ⟨g, 0, none⟩) m cap) none (some (.int .i64 0)) none).run Try.prog W = .ok (.slice (some ⟨g, 0, none⟩) 0 cap) W := by
  intro W g m cap
  have hu : Try.prog.underlying 35 = some (.slice (Try.prog.elem 35)) := by rw [hel]; exact Try.underlying35
  rw [run_slice_h W 35 (some ⟨g, 0, none⟩) m cap hu .i64 0 (by omega) (by omega), hel]
  simp [sizeOf, typeInfo, hj0, hj1, sliced, Result.andThen, add_plain]
 go_enter Try.func53, Try.ntmps53
 go_wp2_with (first | ((with_reducible refine gate_builtin (b := .append) (xs := #[.tmp 20, .tmp 21]) rfl ?_); at_builtin; refine Kd.R_append_zeros (Kd.int .u8) (w0 := w) w.heap.size rfl (.tmp 20) (.tmp 21) 35 3 5 (.int .u8 0) 1 rfl Try.underlying35 Try.underlying3 info5 rfl (by decide) (by omega) (.slice none 0 0) ([] : List Int) 0 (n : Int) (fun _ => True) rfl rfl rfl ?aF ?aO (by omega) ?aB ?aS ?aL ?_; (case aF => exact fun _ _ => trivial); (case aO => exact Kd.R_nil _ _ _ _ _); (case aB => exact Below.refl _ _); (case aS => exact Nat.le_refl _); (case aL => simp; omega); intro v1 w1 ho hb hg hat; rw [List.nil_append] at ho; obtain ⟨g, cap, rfl, hR⟩ := R_cut0 ho (by rw [List.length_replicate]; omega); have HR := Aside0.mk hR; have HB := Aside0.mk hb; clear ho hb hg hat hR))
 go_ret
 exact ⟨_, rfl, HR.out, HB.out⟩
def sumTo (L : Nat → List Int) : Nat → Nat
 | 0 => 0
 | i + 1 => sumTo L i + (L i).length
def catTo (L : Nat → List Int) : Nat → List Int
 | 0 => []
 | i + 1 => catTo L i ++ L i
theorem catTo_length (L : Nat → List Int) : ∀ i, (catTo L i).length = sumTo L i
 | 0 => rfl
 | i + 1 => by simp [catTo, sumTo, catTo_length L i]
theorem sumTo_mono (L : Nat → List Int) : ∀ i j, i ≤ j → sumTo L i ≤ sumTo L j
 | i, 0, h => by
  obtain rfl : i = 0 := by omega
  exact Nat.le_refl _
 | i, j + 1, h => by
  by_cases e : i = j + 1
  ·rw [e]; exact Nat.le_refl _
  ·have := sumTo_mono L i j (by omega); simp only [sumTo]; omega
set_option maxHeartbeats 8000000 in
set_option maxRecDepth 100000 in
theorem concat_ (A : Nat → Option Addr) (C : Nat → Nat) (L : Nat → List Int) (g m : Nat) (w : World) (hm : m ≤ 100) (hpos : 0 < sumTo L m) (hsum : sumTo L m ≤ 1000000)
  (h : ∀ i, i < m → w.cell? ⟨g, i, none⟩ = some (.slice (A i) (L i).length (C i)) ∧ Kd.C (Kd.int .u8) w (A i) (L i).length (L i)) :
  Calls Try.prog 37 #[.slice (some ⟨g, 0, none⟩) m m] w fun e w' => ∃ v0_ : Value, e = .returned (v0_) ∧ Kd.R (Kd.int .u8) 5 w' w.heap.size (fun _ => True) v0_ (catTo L m) ∧ Below w.heap.size w w' := by
 have H := Aside0.mk h
 clear h
 have HS := Aside0.mk hsum
 have HP := Aside0.mk hpos
 clear hsum hpos
 go_enter Try.func37, Try.ntmps37
 go_wp2
 go_loopg [3, 11] m (fun gk v3 v11 wx => ∃ i : Nat, i + gk = m ∧ v3 = .int .i64 (sumTo L i : Nat) ∧ v11 = .int .i64 (i : Nat) ∧ w = wx)
 case atStart => exact ⟨0, by omega, rfl, rfl, rfl⟩
 case round =>
  obtain ⟨i, hig, rfl, rfl, rfl⟩ := hrel
  cases gk with
  | zero =>
   obtain rfl : i = m := by omega
   have hn : ¬ ((i : Int) < (i : Int)) := by omega
   go_wp2_with (first | (go_at_call 53; refine (grow_nil ((sumTo L i : Nat) : Int) _ (by have := HP.out; omega) (by have := HS.out; omega)).mono ?_; rintro e w1 ⟨v1, rfl, ho, hb⟩; have HO := Aside0.mk ho; have HB := Aside0.mk hb; clear ho hb))
   go_loopg [6, 27] i (fun gk v6 v27 wx => ∃ j : Nat, j + gk = i ∧ v27 = .int .i64 (j : Nat) ∧ Aside0 (Kd.R (Kd.int .u8) 5 wx w.heap.size (fun _ => True) v6 (catTo L j)) ∧ Aside0 (Below w.heap.size w wx))
   case atStart => exact ⟨0, by omega, rfl, HO, HB⟩
   case round =>
    obtain ⟨j, hjg, rfl, HO2, HB2⟩ := hrel
    cases gk with
    | zero =>
     obtain rfl : j = i := by omega
     have hn : ¬ ((j : Int) < (j : Int)) := by omega
     go_wp2
     go_ret
     exact ⟨_, rfl, HO2.out, HB2.out⟩
    | succ gk =>
     have hji : j < i := by omega
     have hlt : (j : Int) < (i : Int) := by omega
     have h0 : (0 : Int) ≤ (j : Int) := by omega
     obtain ⟨hc, hC⟩ := H.out j hji
     have hc2 := (HB2.out.cell (World.block_lt_of_cell? _ _ hc)).trans hc
     have HC := Aside0.mk (Kd.C_below hC HB2.out)
     clear hC hc
     have hs1 := sumTo_mono L (j + 1) i (by omega)
     have HL := Aside0.mk (show (catTo L j).length + (L j).length ≤ 1000000 by have := HS.out; rw [catTo_length]; simp only [sumTo] at hs1; omega)
     clear hs1
     obtain ⟨Ao, co, rfl⟩ := Kd.R_slice HO2.out
     go_wp2_with (first | ((with_reducible refine gate_builtin (b := .append) (xs := #[.tmp 31, .tmp 32]) rfl ?_); at_builtin; refine Kd.R_append_rows (Kd.int .u8) (w0 := w) w.heap.size rfl (.tmp 31) (.tmp 32) 35 5 (.int .u8 0) 1 rfl Try.underlying35 info5 rfl (by decide) (by omega) (.slice Ao (catTo L j).length co) (catTo L j) (L j) (A j) (L j).length (C j) (fun _ => True) (fun _ => False) rfl rfl ?aO ?aR (fun _ _ h => h) (fun _ h => h.elim) ?aF ?aB ?aS ?aL ?_; (case aF => exact fun _ _ => trivial); (case aO => exact HO2.out); (case aR => exact HC.out); (case aB => exact HB2.out); (case aS => exact below_size HB2.out); (case aL => have := HL.out; omega); intro v1 w1 ho hb hg hat; have HO3 := Aside0.mk ho; have HB3 := Aside0.mk hb; clear ho hb hg hat))
     go_roundg gk
     case measure => omega
     case rel => exact ⟨j + 1, by omega, rfl, HO3, HB3⟩
  | succ gk =>
   have him : i < m := by omega
   have hlt : (i : Int) < (m : Int) := by omega
   have h0 : (0 : Int) ≤ (i : Int) := by omega
   obtain ⟨hc, _⟩ := H.out i him
   have hs1 := sumTo_mono L (i + 1) m (by omega)
   have hw : wrap64 (((sumTo L i : Nat) : Int) + ((L i).length : Int)) = ((sumTo L (i + 1) : Nat) : Int) := by have := HS.out; simp only [sumTo] at hs1 ⊢; unfold wrap64; omega
   have hn : ¬ (((sumTo L (i + 1) : Nat) : Int) < 0) := by omega
   clear hs1
   go_wp2
   go_roundg gk
   case measure => omega
   case rel => exact ⟨i + 1, by omega, by go_num, by go_num, rfl⟩
def impl_stamps.needs (m : List (ByteArray × Int)) : List ByteArray → List Int → Option (List Int)
 | [], d => some d
 | n :: r, d => (impl_four.f ((Mp.get m n).getD 0)).bind fun q => if d.length + q.length < 140737488355328 then impl_stamps.needs m r (d ++ q) else none
def impl_stamps.go (k : Nat) (l : List S41) : List ByteArray → List (ByteArray × Int) → Option (List (ByteArray × Int))
 | [], m => some m
 | nm :: r, m => (impl_assetAt.f k l nm).bind fun i => if 0 ≤ i ∧ i < (l.length : Int) ∧ (rd_T41 l i).f0.size + (rd_T41 l i).f2.length < 900000 then (impl_stamps.needs m (rd_T41 l i).f1 (bytesOf (rd_T41 l i).f0 ++ [0] ++ (rd_T41 l i).f2 ++ [0])).bind fun d => (impl_digest.f k d).bind fun s => impl_stamps.go k l r (Mp.put m nm s) else none
def impl_stamps.f (k : Nat) (l0 : List S41) : Option (List (ByteArray × Int)) := (impl_makeOrder.f k l0).bind fun names => impl_stamps.go k l0 names []
set_option maxHeartbeats 8000000 in
set_option maxRecDepth 100000 in
theorem impl_stamps.calls (k : Nat) (A0 : Option Addr) (c0 : Nat) (l0 : List S41) (r : List (ByteArray × Int)) (w : World) (hr0 : Kd.C k41 w A0 l0.length l0) (hc0 : l0.length ≤ c0) (h : impl_stamps.f k l0 = some r) :
  Calls Try.prog 19 #[.slice A0 l0.length c0] w fun e w' => ∃ g, e = .returned (.map (some g)) ∧ w.heap.size ≤ g ∧ Mp.Is w' g r ∧ Below w.heap.size w w' := by
 obtain ⟨names, hn, hgo⟩ := Option.bind_eq_some_iff.mp h
 have HN := Aside0.mk hn
 have HG := Aside0.mk hgo
 have HR0 := Aside0.mk hr0
 have HC0 := Aside0.mk hc0
 clear h hn hgo hr0 hc0
 have hmm := @run_makeMap Try.prog
 go_enter Try.func19, Try.ntmps19
 go_wp2_with (first | (go_at_call 36; refine (impl_makeOrder.calls k A0 c0 l0 names _ (Kd.C_alloc HR0.out _) HC0.out HN.out).mono ?_; rintro e w1 ⟨v1, rfl, ho, hb⟩; obtain ⟨Ao, co, rfl⟩ := Kd.R_slice ho; have HM := Aside0.mk ((Mp.Is.made w).below hb); have HO := Aside0.mk (show Kd.R Kd.string 9 w1 w.heap.size (fun q => q ≠ w.heap.size) (.slice Ao names.length co) names from Kd.R_mono (Kd.R_lower (Kd.R_bound ho) (by simp)) (fun q hq => by have := hq.2.1; simp at this; omega)); have HB := Aside0.mk (below_step (below_alloc (Below.refl w.heap.size w) (.map #[] 0)) hb); clear ho hb))
 go_loopg [14] names.length (fun gk v14 wx => ∃ (i : Nat) (m : List (ByteArray × Int)), i + gk = names.length ∧ v14 = .int .i64 (i : Nat) ∧ Aside0 (Mp.Is wx w.heap.size m) ∧ Aside0 (Kd.R Kd.string 9 wx w.heap.size (fun q => q ≠ w.heap.size) (.slice Ao names.length co) names) ∧ Aside0 (Below w.heap.size w wx) ∧ Aside0 (impl_stamps.go k l0 (names.drop i) m = some r))
 case atStart => exact ⟨0, [], by omega, rfl, HM, HO, HB, HG⟩
 case round =>
  clear HM HO HB HG
  obtain ⟨i, m, hig, rfl, HM, HO, HB, HG⟩ := hrel
  cases gk with
  | zero =>
   obtain rfl : i = names.length := by omega
   have hn : ¬ ((names.length : Int) < (names.length : Int)) := by omega
   have hG := HG.out
   rw [List.drop_length] at hG
   obtain rfl := Option.some.inj hG
   clear hG
   go_wp2
   go_ret
   exact ⟨_, rfl, Nat.le_refl _, HM.out, HB.out⟩
  | succ go =>
   obtain ⟨wo, rfl⟩ : ∃ x, x = wr := ⟨_, rfl⟩
   have hil : i < names.length := by omega
   have hmx : names.length ≤ 9223372036854775807 := (Kd.R_reads' HO.out).2.2.2.1
   have hG := HG.out
   rw [List.drop_eq_getElem_cons hil] at hG
   obtain ⟨nm, hnm⟩ : ∃ nm, nm = names[i] := ⟨_, rfl⟩
   rw [← hnm] at hG
   unfold impl_stamps.go at hG
   obtain ⟨q, hq, hG⟩ := Option.bind_eq_some_iff.mp hG
   split at hG
   ·rename_i hc
    obtain ⟨d, hd, hG⟩ := Option.bind_eq_some_iff.mp hG
    obtain ⟨s, hs, hG⟩ := Option.bind_eq_some_iff.mp hG
    obtain ⟨hq0, hql, hsz⟩ := hc
    have HQ := Aside0.mk hq
    have HD := Aside0.mk hd
    have HSg := Aside0.mk hs
    have HG2 := Aside0.mk hG
    have HSZ := Aside0.mk hsz
    clear hq hd hs hG HG hsz
    obtain ⟨adn, en, hxn⟩ := Kd.at_string (Kd.R_reads' HO.out).2.2 (i : Int) (by omega) (by omega)
    have hrn : rdOf ByteArray.empty names (i : Int) = nm := by rw [hnm]; simp [rdOf, List.getD_eq_getElem?_getD, hil]
    rw [hrn] at hxn
    have hin : ((i : Int)).toNat = i := rfl
    rw [hin] at hxn
    cases en
    clear hrn hin hnm
    have hlt : (i : Int) < (names.length : Int) := by omega
    have h0 : (0 : Int) ≤ (i : Int) := by omega
    obtain ⟨ada, A1, c1, A2, c2, ea, hx0, hx1, hx2, hl1, hC1, hl2, hC2⟩ := at_T41 (Kd.C_below HR0.out HB.out) q hq0 hql
    cases ea
    obtain ⟨a, ha⟩ : ∃ a, a = rd_T41 l0 q := ⟨_, rfl⟩
    rw [← ha] at hx0 hx1 hx2 hl1 hC1 hl2 hC2
    have HD := Aside0.mk (show impl_stamps.needs m a.f1 (bytesOf a.f0 ++ [0] ++ a.f2 ++ [0]) = some d by rw [ha]; exact HD.out)
    have HSZ := Aside0.mk (show a.f0.size + a.f2.length < 900000 by rw [ha]; exact HSZ.out)
    have HC1 := Aside0.mk hC1
    have HC2 := Aside0.mk hC2
    have HL1 := Aside0.mk hl1
    have HL2 := Aside0.mk hl2
    clear hC1 hC2 hl1 hl2 ha
    have q0b := eq_true hq0
    have q1b := eq_true hql
    go_wp2_with (first
     | (go_at_call 35; refine (impl_assetAt.calls k _ c0 l0 nm q _ (Kd.C_below HR0.out HB.out) HC0.out HQ.out).mono ?_; rintro e w5 ⟨rfl, hb⟩; replace hx0 := hT hb hx0; replace hx1 := hT hb hx1; replace hx2 := hT hb hx2; have HBr := Aside0.mk hb; clear hb)
     | ((with_reducible refine gate_convert_ rfl ?_); refine Mk.bytes_event (w0 := wo) wo.heap.size rfl 9 35 5 _ a.f0 rfl Try.underlying9 Try.underlying35 Try.underlying5 rfl ?aB ?aS ?aL ?_; (case aB => exact below_step HBr.out (below_alloc (Below.refl _ _) _)); (case aS => exact below_size (below_step HBr.out (below_alloc (Below.refl _ _) _))); (case aL => have := HSZ.out; omega); intro v1 w6 ho hb hg; obtain ⟨A26, c26, rfl⟩ := Mk.R_slice ho; have BK := Aside0.mk (blk_grown (blk_new w5 _) hg (by simp)); have HMK := Aside0.mk ho; replace HBr := Aside0.mk hb; clear ho hb hg; have hcz0 := cz BK 0 (.string a.f0); have hcz1 := cz BK 1 (.slice A1 a.f1.length c1); have hcz2 := cz BK 2 (.slice A2 a.f2.length c2))
     | ((with_reducible refine gate_dst (N := 27) rfl ?_); refine Kd.R_lit (Kd.int .u8) _ 5 ?hg (N := 27) ?hd (xs := ([0] : List Int)) (inner := [.int .u8 0]) (ok := fun _ => True) (okp := fun _ => True) ?hr ?hp (fun _ hk => hk) trivial (Below.refl _ _) (Nat.le_refl _) (by simp) ?_; (case hd => rfl); (case hg => rfl); (case hr => exact sE); (case hp => exact (Reps.one (show Kd.M (Kd.int .u8) _ _ _ 0 [.int .u8 0] from rfl) (Reps.none _ _))); intro v2 w8 ho hb hg_ hnew_; obtain ⟨A27, c27, rfl⟩ := Kd.R_slice ho; skip; replace BK := bB BK.out hb; replace HMK := Aside0.mk (Mk.R_below HMK.out hb); replace HBr := Aside0.mk (below_step HBr.out hb); have HV27 := Aside0.mk (Kd.R_reads' ho).2.2; have HW27 := Aside0.mk (Kd.R_reads' ho).2.1; clear ho hb hg_ hnew_; have hcz0 := cz BK 0 (.string a.f0); have hcz1 := cz BK 1 (.slice A1 a.f1.length c1); have hcz2 := cz BK 2 (.slice A2 a.f2.length c2))
     | ((with_reducible refine gate_dst (N := 30) rfl ?_); refine Kd.R_lit (Kd.int .u8) _ 5 ?hg (N := 30) ?hd (xs := ([0] : List Int)) (inner := [.int .u8 0]) (ok := fun _ => True) (okp := fun _ => True) ?hr ?hp (fun _ hk => hk) trivial (Below.refl _ _) (Nat.le_refl _) (by simp) ?_; (case hd => rfl); (case hg => rfl); (case hr => exact sE); (case hp => exact (Reps.one (show Kd.M (Kd.int .u8) _ _ _ 0 [.int .u8 0] from rfl) (Reps.none _ _))); intro v3 w9 ho hb hg_ hnew_; obtain ⟨A30, c30, rfl⟩ := Kd.R_slice ho; replace HV27 := Aside0.mk (Kd.C_below HV27.out hb); replace BK := bB BK.out hb; replace HMK := Aside0.mk (Mk.R_below HMK.out hb); replace HBr := Aside0.mk (below_step HBr.out hb); have HV30 := Aside0.mk (Kd.R_reads' ho).2.2; have HW30 := Aside0.mk (Kd.R_reads' ho).2.1; clear ho hb hg_ hnew_; have hcz0 := cz BK 0 (.string a.f0); have hcz1 := cz BK 1 (.slice A1 a.f1.length c1); have hcz2 := cz BK 2 (.slice A2 a.f2.length c2))
     | (go_at_call 37; refine (concat_ (fun i => ([A26, A27, A2, A30] : List (Option Addr)).getD i none) (fun i => ([c26, c27, c2, c30] : List Nat).getD i 0) (fun i => ([bytesOf a.f0, [0], a.f2, [0]] : List (List Int)).getD i []) w9.heap.size 4 _ (by omega) ?p1 ?p2 ?p3).mono ?_; (case p1 => simp [sumTo]); (case p2 => have := HSZ.out; simp [sumTo, bytesOf_length]; omega); (case p3 => intro x hx; rcases (show x = 0 ∨ x = 1 ∨ x = 2 ∨ x = 3 by omega) with rfl | rfl | rfl | rfl; exact ⟨(blk_cell (blk_new w9 _) 0).trans rfl, Kd.C_alloc (Mk.R_reads' HMK.out).2.2 _⟩; exact ⟨(blk_cell (blk_new w9 _) 1).trans rfl, Kd.C_alloc HV27.out _⟩; exact ⟨(blk_cell (blk_new w9 _) 2).trans rfl, Kd.C_alloc (Kd.C_below HC2.out HBr.out) _⟩; exact ⟨(blk_cell (blk_new w9 _) 3).trans rfl, Kd.C_alloc HV30.out _⟩); rintro e w12 ⟨v4, rfl, ho, hb⟩; replace BK := Aside0.mk (blk_below (blk_alloc BK.out _) hb); have HDR := Aside0.mk (show Kd.R (Kd.int .u8) 5 w12 wo.heap.size (fun _ => True) v4 (bytesOf a.f0 ++ [0] ++ a.f2 ++ [0]) from Kd.R_lower ho (Nat.le_trans HBr.out.size (by simp))); replace HBr := Aside0.mk (below_step HBr.out (below_step (below_alloc (Below.refl _ _) _) hb)); clear ho hb; have hcz0 := cz BK 0 (.string a.f0); have hcz1 := cz BK 1 (.slice A1 a.f1.length c1); have hcz2 := cz BK 2 (.slice A2 a.f2.length c2)))
    go_loopg [7, 36] a.f1.length (fun gk v7 v36 wx => ∃ (j : Nat) (dd : List Int), j + gk = a.f1.length ∧ v36 = .int .i64 (j : Nat) ∧ Aside0 (Kd.R (Kd.int .u8) 5 wx wo.heap.size (fun _ => True) v7 dd) ∧ Aside0 (Below wo.heap.size wo wx) ∧ Aside0 (impl_stamps.needs m (a.f1.drop j) dd = some d))
    case atStart => exact ⟨0, _, by omega, rfl, HDR, HBr, HD⟩
    case round =>
     clear HDR HD
     obtain ⟨j, dd, hjg, rfl, HO2, HB2, HD⟩ := hrel
     obtain ⟨Ad, cd, rfl⟩ := Kd.R_slice HO2.out
     cases gk with
     | zero =>
      obtain rfl : j = a.f1.length := by omega
      have hD := HD.out
      rw [List.drop_length] at hD
      obtain rfl := Option.some.inj hD
      clear hD
      have hn : ¬ ((a.f1.length : Int) < (a.f1.length : Int)) := by omega
      go_wp2_with (first
       | (go_at_call 39; refine (impl_digest.calls k _ _ dd s _ (Kd.R_reads' HO2.out).2.2 (Kd.R_reads' HO2.out).2.1 HSg.out).mono ?_; rintro e w' ⟨rfl, ⟨ndr, rfl⟩⟩)
       | ((with_reducible refine Mp.gate_update rfl ?_); refine Mp.update_event rfl (.tmp 47) (.tmp 48) (.tmp 50) 45 9 43 rfl Try.underlying45 Try.underlying9 w.heap.size m nm s rfl rfl rfl ?uM ?_; (case uM => exact (HM.out.below HB2.out).drewN _); intro w15 hm hg; have HM3 := Aside0.mk hm; have HO3 := Aside0.mk (Kd.R_grown (Kd.R_drewN (Kd.R_below HO.out HB2.out) ndr) hg (fun q hq e => hq (Option.some.inj e))); have HB3 := Aside0.mk ((pw_below_drewN (below_step HB.out HB2.out) ndr).grown hg (Nat.le_trans HB.out.size HB2.out.size) (fun q hq => by injection hq with hq; omega)); clear hm hg))
      go_roundg go
      case measure => omega
      case rel => exact ⟨i + 1, Mp.put m nm s, by omega, by go_num, HM3, HO3, HB3, HG2⟩
     | succ gk =>
      have hjl : j < a.f1.length := by omega
      have hmy : a.f1.length ≤ 9223372036854775807 := HC1.out.2.1
      have hD := HD.out
      rw [List.drop_eq_getElem_cons hjl] at hD
      obtain ⟨nd, hnd⟩ : ∃ nd, nd = a.f1[j] := ⟨_, rfl⟩
      rw [← hnd] at hD
      unfold impl_stamps.needs at hD
      obtain ⟨qd, hqd, hD⟩ := Option.bind_eq_some_iff.mp hD
      split at hD
      ·rename_i hln
       obtain ⟨adk, ek, hxk⟩ := Kd.at_string HC1.out (j : Int) (by omega) (by omega)
       have hrk : rdOf ByteArray.empty a.f1 (j : Int) = nd := by rw [hnd]; simp [rdOf, List.getD_eq_getElem?_getD, hjl]
       rw [hrk] at hxk
       have hjn : ((j : Int)).toNat = j := rfl
       rw [hjn] at hxk
       cases ek
       replace hxk := hT HB2.out hxk
       clear hrk hjn hnd
       have HF := Aside0.mk hqd
       have HLN := Aside0.mk hln
       have HD3 := Aside0.mk hD
       clear hqd hln hD HD
       have hlt2 : (j : Int) < (a.f1.length : Int) := by omega
       have h02 : (0 : Int) ≤ (j : Int) := by omega
       have hlk := Mp.lookup_run (P := Try.prog) (HM.out.below HB2.out) Try.underlying45 Try.underlying9 (Try.zeroValue43 _) nd false
       simp only [Bool.false_eq_true, if_false] at hlk
       go_wp2_with (first
        | (go_at_call 38; refine (impl_four.calls _ qd _ HF.out).mono ?_; rintro e w13 ⟨v5, rfl, ho, hb⟩; obtain ⟨A5, c5, rfl⟩ := Kd.R_slice ho; replace HO2 := Aside0.mk (Kd.R_below HO2.out hb); replace HB2 := Aside0.mk (below_step HB2.out hb); have HV5 := Aside0.mk (Kd.R_reads' ho).2.2; clear ho hb)
        | ((with_reducible refine gate_builtin (b := .append) (xs := #[.tmp 40, .tmp 44]) rfl ?_); at_builtin; refine Kd.R_append_rows (Kd.int .u8) (w0 := wo) wo.heap.size rfl (.tmp 40) (.tmp 44) 35 5 (.int .u8 0) 1 rfl Try.underlying35 info5 rfl (by decide) (by omega) (.slice Ad dd.length cd) dd qd A5 qd.length c5 (fun _ => True) (fun _ => False) rfl rfl ?aO ?aR (fun _ _ h => h) (fun _ h => h.elim) ?aF ?aB ?aS ?aL ?_; (case aF => exact fun _ _ => trivial); (case aO => exact HO2.out); (case aR => exact HV5.out); (case aB => exact HB2.out); (case aS => exact below_size HB2.out); (case aL => have := HLN.out; omega); intro v6 w14 ho hb hg hat; have HO4 := Aside0.mk ho; have HB4 := Aside0.mk hb; clear ho hb hg hat))
       go_roundg gk
       case measure => omega
       case rel => exact ⟨j + 1, dd ++ qd, by omega, by go_num, HO4, HB4, HD3⟩
      ·cases hD
   ·cases hG
theorem impl_stamps.go_mono (k : Nat) (l : List S41) : ∀ (ns : List ByteArray) (m : List (ByteArray × Int)), LeO (impl_stamps.go k l ns m) (impl_stamps.go (k + 1) l ns m)
 | [], m => LeO.refl _
 | nm :: r, m => by
  unfold impl_stamps.go
  refine LeO.bind (impl_assetAt.mono _ _ _) (fun i => LeO.ite (LeO.bind (LeO.refl _) (fun d => LeO.bind (impl_digest.mono _ _) (fun s => impl_stamps.go_mono k l r _))) (LeO.refl _))
theorem impl_stamps.mono (l : List S41) (k : Nat) : LeO (impl_stamps.f k l) (impl_stamps.f (k + 1) l) := LeO.bind (impl_makeOrder.mono _ _) (fun names => impl_stamps.go_mono k l names [])
def impl_StaleBetween.go (m1 m2 : List (ByteArray × Int)) : List S41 → List ByteArray → Option (List ByteArray)
 | [], d => some d
 | a :: r, d => if Mp.get m1 a.f0 = some ((Mp.get m2 a.f0).getD 0) then impl_StaleBetween.go m1 m2 r d else if d.length < 8796093022208 then impl_StaleBetween.go m1 m2 r (d ++ [a.f0]) else none
def impl_StaleBetween.f (k : Nat) (l0 l1 : List S41) : Option (List ByteArray × Bool) := (impl_GoodAssets.f k l0).bind fun g => if g = true then (impl_GoodAssets.f k l1).bind fun g2 => if g2 = true then (impl_stamps.f k l0).bind fun m1 => (impl_stamps.f k l1).bind fun m2 => (impl_StaleBetween.go m1 m2 l1 []).bind fun d => some (d, true) else some ([], false) else some ([], false)
theorem impl_StaleBetween.mono : ∀ a0 a1 k, LeO (impl_StaleBetween.f k a0 a1) (impl_StaleBetween.f (k + 1) a0 a1) := by
 intro a0 a1 k
 exact LeO.bind (impl_GoodAssets.mono _ _) (fun g => LeO.ite (LeO.bind (impl_GoodAssets.mono _ _) (fun g2 => LeO.ite (LeO.bind (impl_stamps.mono _ _) (fun m1 => LeO.bind (impl_stamps.mono _ _) (fun m2 => LeO.refl _))) (LeO.refl _))) (LeO.refl _))
set_option maxHeartbeats 8000000 in
set_option maxRecDepth 100000 in
theorem impl_StaleBetween.calls (k : Nat) (A0 : Option Addr) (c0 : Nat) (l0 : List (S41)) (A1 : Option Addr) (c1 : Nat) (l1 : List (S41)) (r1 : List ByteArray) (r2 : Bool) (w : World) (hr0 : Kd.C k41 w A0 l0.length l0) (hc0 : l0.length ≤ c0) (hr1 : Kd.C k41 w A1 l1.length l1) (hc1 : l1.length ≤ c1) (h : impl_StaleBetween.f k l0 l1 = some (r1, r2)) :
  Calls Try.prog 7 #[.slice A0 l0.length c0, .slice A1 l1.length c1] w fun e w' => ∃ v0_ : Value, e = .returned (.tuple #[v0_, .bool r2]) ∧ Kd.R Kd.string 9 w' w.heap.size (fun _ => True) v0_ r1 ∧ Below w.heap.size w w' := by
 obtain ⟨g, hg, h⟩ := Option.bind_eq_some_iff.mp h
 have HGd := Aside0.mk hg
 have HR0 := Aside0.mk hr0
 have HC0 := Aside0.mk hc0
 have HR1 := Aside0.mk hr1
 have HC1 := Aside0.mk hc1
 clear hg hr0 hc0 hr1 hc1
 cases g with
 | false =>
  obtain ⟨rfl, rfl⟩ := Prod.mk.inj (Option.some.inj h)
  clear h
  go_enter Try.func7, Try.ntmps7
  go_wp2_with (first | (go_at_call 18; refine (impl_GoodAssets.calls k _ c0 l0 false _ HR0.out HC0.out HGd.out).mono ?_; rintro e w1 ⟨rfl, hb⟩; have HB := Aside0.mk hb; clear hb))
  go_ret2
  exact ⟨_, rfl, Kd.R_nil _ _ _ _ _, HB.out⟩
 | true =>
  obtain ⟨g2, hg2, h⟩ := Option.bind_eq_some_iff.mp h
  have HGe := Aside0.mk hg2
  clear hg2
  cases g2 with
  | false =>
   obtain ⟨rfl, rfl⟩ := Prod.mk.inj (Option.some.inj h)
   clear h
   go_enter Try.func7, Try.ntmps7
   go_wp2_with (first
    | (go_at_call 18; refine (impl_GoodAssets.calls k _ c0 l0 true _ HR0.out HC0.out HGd.out).mono ?_; rintro e w1 ⟨rfl, hb⟩; have HB := Aside0.mk hb; clear hb HGd)
    | (go_at_call 18; refine (impl_GoodAssets.calls k _ c1 l1 false _ (Kd.C_below HR1.out HB.out) HC1.out HGe.out).mono ?_; rintro e w2 ⟨rfl, hb⟩; replace HB := Aside0.mk (below_step HB.out hb); clear hb))
   go_ret2
   exact ⟨_, rfl, Kd.R_nil _ _ _ _ _, HB.out⟩
  | true =>
   obtain ⟨m1, hm1, h⟩ := Option.bind_eq_some_iff.mp h
   obtain ⟨m2, hm2, h⟩ := Option.bind_eq_some_iff.mp h
   obtain ⟨dd, hdd, h⟩ := Option.bind_eq_some_iff.mp h
   have HM1 := Aside0.mk hm1
   have HM2 := Aside0.mk hm2
   have HD := Aside0.mk hdd
   obtain ⟨rfl, rfl⟩ := Prod.mk.inj (Option.some.inj h)
   clear hm1 hm2 hdd h
   go_enter Try.func7, Try.ntmps7
   go_wp2_with (first
    | (go_at_call 18; refine (impl_GoodAssets.calls k _ c0 l0 true _ HR0.out HC0.out HGd.out).mono ?_; rintro e w1 ⟨rfl, hb⟩; have HB := Aside0.mk hb; clear hb HGd)
    | (go_at_call 18; refine (impl_GoodAssets.calls k _ c1 l1 true _ (Kd.C_below HR1.out HB.out) HC1.out HGe.out).mono ?_; rintro e w2 ⟨rfl, hb⟩; replace HB := Aside0.mk (below_step HB.out hb); clear hb)
    | (go_at_call 19; refine (impl_stamps.calls k _ c0 l0 m1 _ (Kd.C_below HR0.out HB.out) HC0.out HM1.out).mono ?_; rintro e w3 ⟨g1, rfl, hge1, hmm, hb⟩; have HG1 := Aside0.mk (Nat.le_trans HB.out.size hge1); replace HB := Aside0.mk (below_step HB.out hb); replace HM1 := Aside0.mk hmm; clear hmm hge1 hb)
    | (go_at_call 19; refine (impl_stamps.calls k _ c1 l1 m2 _ (Kd.C_below HR1.out HB.out) HC1.out HM2.out).mono ?_; rintro e w4 ⟨g2, rfl, hge2, hmm, hb⟩; replace HM1 := Aside0.mk (HM1.out.below hb); have HG2 := Aside0.mk (Nat.le_trans HB.out.size hge2); replace HB := Aside0.mk (below_step HB.out hb); replace HM2 := Aside0.mk hmm; clear hmm hge2 hb)
    | ((with_reducible refine gate_dst (N := 25) rfl ?_); refine Kd.R_lit Kd.string _ 9 ?hg (N := 25) ?hd (xs := ([] : List ByteArray)) (inner := []) (ok := fun _ => True) (okp := fun _ => True) ?hr ?hp (fun _ hk => hk) trivial (Below.refl _ _) (Nat.le_refl _) (by simp) ?_; (case hd => rfl); (case hg => rfl); (case hr => exact sE); (case hp => exact (Reps.none _ _)); intro v0 w5 ho hb hg_ hnew_; have hl1 := HM1.out.lt; have hl2 := HM2.out.lt; have HO := Aside0.mk (show Kd.R Kd.string 9 w5 w.heap.size (fun q => q ≠ g1 ∧ q ≠ g2) v0 [] from Kd.R_mono (Kd.R_lower (Kd.R_bound ho) (below_size HB.out)) (fun q hq2 => by have := hq2.2.1; refine ⟨?_, ?_⟩ <;> omega)); replace HM1 := Aside0.mk (HM1.out.below hb); replace HM2 := Aside0.mk (HM2.out.below hb); replace HB := Aside0.mk (below_step HB.out hb); clear ho hb hg_ hnew_ hl1 hl2))
   go_loopg [8, 28] l1.length (fun gk v8 v28 wx => ∃ (i : Nat) (d : List ByteArray), i + gk = l1.length ∧ v28 = .int .i64 (i : Nat) ∧ Aside0 (Kd.R Kd.string 9 wx w.heap.size (fun q => q ≠ g1 ∧ q ≠ g2) v8 d) ∧ Aside0 (Mp.Is wx g1 m1) ∧ Aside0 (Mp.Is wx g2 m2) ∧ Aside0 (Below w.heap.size w wx) ∧ Aside0 (impl_StaleBetween.go m1 m2 (l1.drop i) d = some dd))
   case atStart => exact ⟨0, [], by omega, rfl, HO, HM1, HM2, HB, HD⟩
   case round =>
    clear HO HM1 HM2 HB HD
    obtain ⟨i, d, hig, rfl, HO, HM1, HM2, HB, HD⟩ := hrel
    obtain ⟨Ao, co, rfl⟩ := Kd.R_slice HO.out
    cases gk with
    | zero =>
     obtain rfl : i = l1.length := by omega
     have hn : ¬ ((l1.length : Int) < (l1.length : Int)) := by omega
     have hD := HD.out
     rw [List.drop_length] at hD
     obtain rfl := Option.some.inj hD
     clear hD
     go_wp2
     go_ret2
     exact ⟨_, rfl, Kd.R_mono HO.out (fun _ _ => trivial), HB.out⟩
    | succ go =>
     obtain ⟨wo, rfl⟩ : ∃ x, x = wr := ⟨_, rfl⟩
     have hil : i < l1.length := by omega
     have hmx : l1.length ≤ 9223372036854775807 := HR1.out.2.1
     have hD := HD.out
     rw [List.drop_eq_getElem_cons hil] at hD
     obtain ⟨a, ha⟩ : ∃ a, a = l1[i] := ⟨_, rfl⟩
     rw [← ha] at hD
     unfold impl_StaleBetween.go at hD
     have hlt : (i : Int) < (l1.length : Int) := by omega
     have h0 : (0 : Int) ≤ (i : Int) := by omega
     have hra : rd_T41 l1 (i : Int) = a := by rw [ha]; simp [rd_T41, List.getD_eq_getElem?_getD, hil]
     obtain ⟨ada, Ae1, ce1, Ae2, ce2, ea, hx0, hx1, hx2, hl1, hC1, hl2, hC2⟩ := at_T41 (Kd.C_below HR1.out HB.out) (i : Int) h0 hlt
     cases ea
     rw [hra] at hx0 hx1 hx2
     have hin : ((i : Int)).toNat = i := rfl
     rw [hin] at hx0 hx1 hx2
     clear hl1 hC1 hl2 hC2 hra hin ha
     have hlk2 : ∀ o, (Instr.lookup 45 (.map (some g2)) (.string a.f0) false).run Try.prog (wo.alloc o) = .ok (.int .u32 ((Mp.get m2 a.f0).getD 0)) (wo.alloc o) := fun o => by have h_ := Mp.lookup_run (P := Try.prog) (HM2.out.alloc o) Try.underlying45 Try.underlying9 (Try.zeroValue43 _) a.f0 false; simpa using h_
     have hlk1 : ∀ o, (Instr.lookup 45 (.map (some g1)) (.string a.f0) true).run Try.prog (wo.alloc o) = .ok (.tuple #[.int .u32 ((Mp.get m1 a.f0).getD 0), .bool (Mp.get m1 a.f0).isSome]) (wo.alloc o) := fun o => by have h_ := Mp.lookup_run (P := Try.prog) (HM1.out.alloc o) Try.underlying45 Try.underlying9 (Try.zeroValue43 _) a.f0 true; simpa using h_
     obtain ⟨s2, hs2⟩ : ∃ s, s = (Mp.get m2 a.f0).getD 0 := ⟨_, rfl⟩
     rw [← hs2] at hD
     simp only [← hs2] at hlk2
     by_cases hc : Mp.get m1 a.f0 = some s2
     ·rw [if_pos hc] at hD
      have HD2 := Aside0.mk hD
      simp only [hc, Option.getD_some, Option.isSome_some] at hlk1
      clear hD HD hc hs2
      have hse : (s2 != s2) = false := by simp
      go_wp2
      go_roundg go
      case measure => omega
      case rel => exact ⟨i + 1, d, by omega, by go_num, ⟨Kd.R_alloc HO.out _⟩, ⟨HM1.out.alloc _⟩, ⟨HM2.out.alloc _⟩, ⟨below_alloc HB.out _⟩, HD2⟩
     ·rw [if_neg hc] at hD
      split at hD
      ·rename_i hln
       have HD2 := Aside0.mk hD
       have HLN := Aside0.mk hln
       clear hD HD hln hs2
       cases hg1 : Mp.get m1 a.f0 with
       | none =>
        simp only [hg1, Option.getD_none, Option.isSome_none] at hlk1
        clear hc hg1
        go_wp2_with (first | ((with_reducible refine gate_builtin (b := .append) (xs := #[.tmp 49, .tmp 52]) rfl ?_); at_builtin; refine Kd.R_append Kd.string (w0 := w) w.heap.size rfl (.tmp 49) (.tmp 52) 24 9 (.string ⟨#[]⟩) 16 rfl Try.underlying24 info9 rfl (by decide) (by omega) (.slice Ao d.length co) d a.f0 [.string a.f0] (fun q => q ≠ g1 ∧ q ≠ g2) (fun _ => False) rfl ?aX ?aP (fun _ hk => hk.elim) ?aF ?aO ?aB ?aS ?aL ?_; (case aX => first | rfl | (go_simp; done) | (go_simp; rfl)); (case aP => exact rfl); (case aB => exact below_alloc HB.out _); (case aF => have hl1 := (HM1.out.alloc (.cells #[.string a.f0, .slice Ae1 a.f1.length ce1, .slice Ae2 a.f2.length ce2] 41 (0, 0))).lt; have hl2 := (HM2.out.alloc (.cells #[.string a.f0, .slice Ae1 a.f1.length ce1, .slice Ae2 a.f2.length ce2] 41 (0, 0))).lt; intro q hq; refine ⟨?_, ?_⟩ <;> (simp at hl1 hl2 hq; omega)); (case aO => exact Kd.R_alloc HO.out _); (case aS => exact below_size (below_alloc HB.out _)); (case aL => have := HLN.out; omega); intro v1 w6 ho hb hg hat; have HM3 := Aside0.mk ((HM1.out.alloc _).grown hg (fun e => (HO.out.1 g1 e.symm).1 rfl)); have HM4 := Aside0.mk ((HM2.out.alloc _).grown hg (fun e => (HO.out.1 g2 e.symm).2 rfl)); have HO4 := Aside0.mk ho; have HB4 := Aside0.mk hb; clear ho hb hg hat))
        go_roundg go
        case measure => omega
        case rel => exact ⟨i + 1, d ++ [a.f0], by omega, by go_num, HO4, HM3, HM4, HB4, HD2⟩
       | some s1 =>
        simp only [hg1, Option.getD_some, Option.isSome_some] at hlk1
        have hne : ¬ s1 = s2 := fun e => hc (by rw [hg1, e])
        have hne2 : (s1 == s2) = false := by simpa using hne
        clear hc hg1
        go_wp2_with (first | ((with_reducible refine gate_builtin (b := .append) (xs := #[.tmp 49, .tmp 52]) rfl ?_); at_builtin; refine Kd.R_append Kd.string (w0 := w) w.heap.size rfl (.tmp 49) (.tmp 52) 24 9 (.string ⟨#[]⟩) 16 rfl Try.underlying24 info9 rfl (by decide) (by omega) (.slice Ao d.length co) d a.f0 [.string a.f0] (fun q => q ≠ g1 ∧ q ≠ g2) (fun _ => False) rfl ?aX ?aP (fun _ hk => hk.elim) ?aF ?aO ?aB ?aS ?aL ?_; (case aX => first | rfl | (go_simp; done) | (go_simp; rfl)); (case aP => exact rfl); (case aB => exact below_alloc HB.out _); (case aF => have hl1 := (HM1.out.alloc (.cells #[.string a.f0, .slice Ae1 a.f1.length ce1, .slice Ae2 a.f2.length ce2] 41 (0, 0))).lt; have hl2 := (HM2.out.alloc (.cells #[.string a.f0, .slice Ae1 a.f1.length ce1, .slice Ae2 a.f2.length ce2] 41 (0, 0))).lt; intro q hq; refine ⟨?_, ?_⟩ <;> (simp at hl1 hl2 hq; omega)); (case aO => exact Kd.R_alloc HO.out _); (case aS => exact below_size (below_alloc HB.out _)); (case aL => have := HLN.out; omega); intro v1 w6 ho hb hg hat; have HM3 := Aside0.mk ((HM1.out.alloc _).grown hg (fun e => (HO.out.1 g1 e.symm).1 rfl)); have HM4 := Aside0.mk ((HM2.out.alloc _).grown hg (fun e => (HO.out.1 g2 e.symm).2 rfl)); have HO4 := Aside0.mk ho; have HB4 := Aside0.mk hb; clear ho hb hg hat))
        go_roundg go
        case measure => omega
        case rel => exact ⟨i + 1, d ++ [a.f0], by omega, by go_num, HO4, HM3, HM4, HB4, HD2⟩
      ·cases hD
def laws_eqStringS.l0 : Nat → List ByteArray → List ByteArray → Int → Option (Bool)
 | 0, _, _, _ => none
 | k + 1, x0, x1, x5 => if x5 < (x0.length : Int) then (if 0 ≤ x5 then (if x5 < (x1.length : Int) then (if (rdOf ByteArray.empty x0 x5).toList = (rdOf ByteArray.empty x1 x5).toList then (laws_eqStringS.l0 k x0 x1 (wrap64 (x5 + 1))) else (some false)) else (none)) else (none)) else (some true)
def laws_eqStringS.f (k : Nat) (l0 : List ByteArray) (l1 : List ByteArray) : Option (Bool) := if (l0.length : Int) = (l1.length : Int) then (laws_eqStringS.l0 k l0 l1 0) else (some false)
theorem laws_eqStringS.mono_l : ∀ k, (∀ y0 y1 y2, LeO (laws_eqStringS.l0 k y0 y1 y2) (laws_eqStringS.l0 (k + 1) y0 y1 y2))
 | 0 => fun _ _ _ r h => by simp [laws_eqStringS.l0] at h
 | k + 1 => by
  have ih0 := laws_eqStringS.mono_l k
  ·intro y0 y1 y2
   unfold laws_eqStringS.l0
   repeat' first
   | (with_reducible exact ih0 _ _ _)
   | (with_reducible first | exact LeO.refl _ | exact LeO.none _ | refine LeO.ite ?_ ?_ | refine LeO.bind ?_ (fun _ => ?_))
   | exact ih0 _ _ _ | exact LeO.none _ | refine LeO.ite ?_ ?_ | refine LeO.bind ?_ (fun _ => ?_)
theorem laws_eqStringS.mono : ∀ a0 a1 k, LeO (laws_eqStringS.f k a0 a1) (laws_eqStringS.f (k + 1) a0 a1) := by
 intro a0 a1 k
 have ih0 := laws_eqStringS.mono_l k
 unfold laws_eqStringS.f
 repeat' first
   | (with_reducible exact ih0 _ _ _)
   | (with_reducible first | exact LeO.refl _ | exact LeO.none _ | refine LeO.ite ?_ ?_ | refine LeO.bind ?_ (fun _ => ?_))
   | exact ih0 _ _ _ | exact LeO.none _ | refine LeO.ite ?_ ?_ | refine LeO.bind ?_ (fun _ => ?_)
set_option maxHeartbeats 8000000 in
set_option maxRecDepth 100000 in
theorem laws_eqStringS.calls (k : Nat) (A0 : Option Addr) (c0 : Nat) (l0 : List ByteArray) (A1 : Option Addr) (c1 : Nat) (l1 : List ByteArray) (r : Bool) (w : World) (hr0 : Kd.C Kd.string w A0 l0.length l0) (hc0 : l0.length ≤ c0) (hr1 : Kd.C Kd.string w A1 l1.length l1) (hc1 : l1.length ≤ c1) (h : laws_eqStringS.f k l0 l1 = some r) :
  Calls Try.prog 8 #[.slice A0 l0.length c0, .slice A1 l1.length c1] w fun e w' => e = .returned (.bool r) ∧ Drawn0 w w' := by
 have HR0 := Aside0.mk hr0
 have HC0 := Aside0.mk hc0
 clear hr0 hc0
 have HR1 := Aside0.mk hr1
 have HC1 := Aside0.mk hc1
 clear hr1 hc1
 have H : (if (l0.length : Int) = (l1.length : Int) then (laws_eqStringS.l0 k l0 l1 0) else (some false)) = some r := h
 clear h
 by_cases c3 : (l0.length : Int) = (l1.length : Int)
 ·rw [if_pos c3] at H
  have c3b0 : ((l0.length : Int) == (l1.length : Int)) = true := beq_iff_eq.mpr c3
  have c3b1 : ((l0.length : Int) != (l1.length : Int)) = false := bne_eq_false_iff_eq.mpr c3
  have c3b2 : (l0.length == l1.length) = true := by first | simpa using c3 | (simp at c3 ⊢; omega)
  clear c3
  have H' := Aside0.mk H
  clear H
  go_enter Try.func8, Try.ntmps8
  go_wp2
  repeat (go_quiet (fail); try go_wp2)
  go_loopg [5] k (fun kq v5 w' => ∃ (x5_1 : Int), v5 = .int .i64 x5_1 ∧ Aside0 (laws_eqStringS.l0 kq l0 l1 x5_1 = some r) ∧ Aside0 (kq ≤ k) ∧ Drawn0 w w')
  case atStart => exact ⟨(0), tE, H', ⟨Nat.le_refl _⟩, by repeat (first | exact Drawn0.refl _ | apply Drawn0.step)⟩
  case round =>
   clear H'
   try clear c1
   try clear p2
   try clear c3
   try clear c3b0
   try clear c3b1
   try clear c3b2
   obtain ⟨x5_1, rfl, HA, HK1, ⟨m1, rfl⟩⟩ := hrel
   cases gk with
   | zero => exact absurd HA.out (by simp [laws_eqStringS.l0])
   | succ k1 =>
    have H := HA.out
    clear HA
    simp only [laws_eqStringS.l0] at H
    by_cases c4 : x5_1 < (l0.length : Int)
    ·rw [if_pos c4] at H
     have c4b0 : decide (x5_1 < (l0.length : Int)) = true := decide_eq_true c4
     clear c4
     by_cases c5 : 0 ≤ x5_1
     ·rw [if_pos c5] at H
      have c5b0 : decide (0 ≤ x5_1) = true := decide_eq_true c5
      clear c5
      by_cases c6 : x5_1 < (l1.length : Int)
      ·rw [if_pos c6] at H
       have c6b0 : decide (x5_1 < (l1.length : Int)) = true := decide_eq_true c6
       clear c6
       by_cases c7 : (rdOf ByteArray.empty l0 x5_1).toList = (rdOf ByteArray.empty l1 x5_1).toList
       ·rw [if_pos c7] at H
        have c7b0 : ((rdOf ByteArray.empty l0 x5_1).toList == (rdOf ByteArray.empty l1 x5_1).toList) = true := beq_iff_eq.mpr c7
        have c7b1 : ((rdOf ByteArray.empty l0 x5_1).toList != (rdOf ByteArray.empty l1 x5_1).toList) = false := bne_eq_false_iff_eq.mpr c7
        clear c7
        have H' := Aside0.mk H
        clear H
        have p269 : 0 ≤ (x5_1 : Int) := of_decide_eq_true hE
        have q269 : x5_1 < (l0.length : Int) := of_decide_eq_true hE
        obtain ⟨ad269, e269, hx269_0⟩ := Kd.at_string HR0.out x5_1 p269 q269
        cases e269
        replace p269 := eq_true p269
        replace q269 := eq_true q269
        have p270 : 0 ≤ (x5_1 : Int) := of_decide_eq_true hE
        have q270 : x5_1 < (l1.length : Int) := of_decide_eq_true hE
        obtain ⟨ad270, e270, hx270_0⟩ := Kd.at_string HR1.out x5_1 p270 q270
        cases e270
        replace p270 := eq_true p270
        replace q270 := eq_true q270
        go_wp2
        repeat (go_quiet (fail); try go_wp2)
        go_roundg k1
        case measure => have := HK1.out; omega
        case rel => exact ⟨(wrap64 (x5_1 + 1)), tE, H', ⟨by have := HK1.out; omega⟩, by repeat (first | exact Drawn0.refl _ | apply Drawn0.step)⟩
       ·rw [if_neg c7] at H
        have c7b0 : ((rdOf ByteArray.empty l0 x5_1).toList == (rdOf ByteArray.empty l1 x5_1).toList) = false := beq_eq_false_iff_ne.mpr c7
        have c7b1 : ((rdOf ByteArray.empty l0 x5_1).toList != (rdOf ByteArray.empty l1 x5_1).toList) = true := bne_iff_ne.mpr c7
        obtain rfl := Option.some.inj H
        have p269 : 0 ≤ (x5_1 : Int) := of_decide_eq_true hE
        have q269 : x5_1 < (l0.length : Int) := of_decide_eq_true hE
        obtain ⟨ad269, e269, hx269_0⟩ := Kd.at_string HR0.out x5_1 p269 q269
        cases e269
        replace p269 := eq_true p269
        replace q269 := eq_true q269
        have p270 : 0 ≤ (x5_1 : Int) := of_decide_eq_true hE
        have q270 : x5_1 < (l1.length : Int) := of_decide_eq_true hE
        obtain ⟨ad270, e270, hx270_0⟩ := Kd.at_string HR1.out x5_1 p270 q270
        cases e270
        replace p270 := eq_true p270
        replace q270 := eq_true q270
        go_wp2
        repeat (go_quiet (fail); try go_wp2)
        go_ret
        exact ⟨by first | rfl | (simp; done) | (simp [*]; done) | exact not_isEmpty _ | exact (not_isEmpty _).symm | exact is_empty _ | exact (is_empty _).symm, by repeat (first | exact Drawn0.refl _ | apply Drawn0.step)⟩
      ·rw [if_neg c6] at H
       exact absurd H (by simp)
     ·rw [if_neg c5] at H
      exact absurd H (by simp)
    ·rw [if_neg c4] at H
     have c4b0 : decide (x5_1 < (l0.length : Int)) = false := decide_eq_false c4
     clear c4
     obtain rfl := Option.some.inj H
     go_wp2
     repeat (go_quiet (fail); try go_wp2)
     go_ret
     exact ⟨by first | rfl | (simp; done) | (simp [*]; done) | exact not_isEmpty _ | exact (not_isEmpty _).symm | exact is_empty _ | exact (is_empty _).symm, by repeat (first | exact Drawn0.refl _ | apply Drawn0.step)⟩
 ·rw [if_neg c3] at H
  have c3b0 : ((l0.length : Int) == (l1.length : Int)) = false := beq_eq_false_iff_ne.mpr c3
  have c3b1 : ((l0.length : Int) != (l1.length : Int)) = true := bne_iff_ne.mpr c3
  have c3b2 : (l0.length == l1.length) = false := by first | simpa using c3 | (simp at c3 ⊢; omega)
  obtain rfl := Option.some.inj H
  go_enter Try.func8, Try.ntmps8
  go_wp2
  repeat (go_quiet (fail); try go_wp2)
  go_ret
  exact ⟨by first | rfl | (simp; done) | (simp [*]; done) | exact not_isEmpty _ | exact (not_isEmpty _).symm | exact is_empty _ | exact (is_empty _).symm, by repeat (first | exact Drawn0.refl _ | apply Drawn0.step)⟩
def laws_eqByteS.l0 : Nat → List Int → List Int → Int → Option (Bool)
 | 0, _, _, _ => none
 | k + 1, x0, x1, x5 => if x5 < (x0.length : Int) then (if 0 ≤ x5 then (if x5 < (x1.length : Int) then (if (rd x0 x5) = (rd x1 x5) then (laws_eqByteS.l0 k x0 x1 (wrap64 (x5 + 1))) else (some false)) else (none)) else (none)) else (some true)
def laws_eqByteS.f (k : Nat) (l0 : List Int) (l1 : List Int) : Option (Bool) := if (l0.length : Int) = (l1.length : Int) then (laws_eqByteS.l0 k l0 l1 0) else (some false)
theorem laws_eqByteS.mono_l : ∀ k, (∀ y0 y1 y2, LeO (laws_eqByteS.l0 k y0 y1 y2) (laws_eqByteS.l0 (k + 1) y0 y1 y2))
 | 0 => fun _ _ _ r h => by simp [laws_eqByteS.l0] at h
 | k + 1 => by
  have ih0 := laws_eqByteS.mono_l k
  ·intro y0 y1 y2
   unfold laws_eqByteS.l0
   repeat' first
   | (with_reducible exact ih0 _ _ _)
   | (with_reducible first | exact LeO.refl _ | exact LeO.none _ | refine LeO.ite ?_ ?_ | refine LeO.bind ?_ (fun _ => ?_))
   | exact ih0 _ _ _ | exact LeO.none _ | refine LeO.ite ?_ ?_ | refine LeO.bind ?_ (fun _ => ?_)
theorem laws_eqByteS.mono : ∀ a0 a1 k, LeO (laws_eqByteS.f k a0 a1) (laws_eqByteS.f (k + 1) a0 a1) := by
 intro a0 a1 k
 have ih0 := laws_eqByteS.mono_l k
 unfold laws_eqByteS.f
 repeat' first
   | (with_reducible exact ih0 _ _ _)
   | (with_reducible first | exact LeO.refl _ | exact LeO.none _ | refine LeO.ite ?_ ?_ | refine LeO.bind ?_ (fun _ => ?_))
   | exact ih0 _ _ _ | exact LeO.none _ | refine LeO.ite ?_ ?_ | refine LeO.bind ?_ (fun _ => ?_)
set_option maxHeartbeats 8000000 in
set_option maxRecDepth 100000 in
theorem laws_eqByteS.calls (k : Nat) (A0 : Option Addr) (c0 : Nat) (l0 : List Int) (A1 : Option Addr) (c1 : Nat) (l1 : List Int) (r : Bool) (w : World) (hr0 : Kd.C (Kd.int .u8) w A0 l0.length l0) (hc0 : l0.length ≤ c0) (hr1 : Kd.C (Kd.int .u8) w A1 l1.length l1) (hc1 : l1.length ≤ c1) (h : laws_eqByteS.f k l0 l1 = some r) :
  Calls Try.prog 40 #[.slice A0 l0.length c0, .slice A1 l1.length c1] w fun e w' => e = .returned (.bool r) ∧ Drawn0 w w' := by
 have HR0 := Aside0.mk hr0
 have HC0 := Aside0.mk hc0
 clear hr0 hc0
 have HR1 := Aside0.mk hr1
 have HC1 := Aside0.mk hc1
 clear hr1 hc1
 have H : (if (l0.length : Int) = (l1.length : Int) then (laws_eqByteS.l0 k l0 l1 0) else (some false)) = some r := h
 clear h
 by_cases c3 : (l0.length : Int) = (l1.length : Int)
 ·rw [if_pos c3] at H
  have c3b0 : ((l0.length : Int) == (l1.length : Int)) = true := beq_iff_eq.mpr c3
  have c3b1 : ((l0.length : Int) != (l1.length : Int)) = false := bne_eq_false_iff_eq.mpr c3
  have c3b2 : (l0.length == l1.length) = true := by first | simpa using c3 | (simp at c3 ⊢; omega)
  clear c3
  have H' := Aside0.mk H
  clear H
  go_enter Try.func40, Try.ntmps40
  go_wp2
  repeat (go_quiet (fail); try go_wp2)
  go_loopg [5] k (fun kq v5 w' => ∃ (x5_1 : Int), v5 = .int .i64 x5_1 ∧ Aside0 (laws_eqByteS.l0 kq l0 l1 x5_1 = some r) ∧ Aside0 (kq ≤ k) ∧ Drawn0 w w')
  case atStart => exact ⟨(0), tE, H', ⟨Nat.le_refl _⟩, by repeat (first | exact Drawn0.refl _ | apply Drawn0.step)⟩
  case round =>
   clear H'
   try clear c1
   try clear p2
   try clear c3
   try clear c3b0
   try clear c3b1
   try clear c3b2
   obtain ⟨x5_1, rfl, HA, HK1, ⟨m1, rfl⟩⟩ := hrel
   cases gk with
   | zero => exact absurd HA.out (by simp [laws_eqByteS.l0])
   | succ k1 =>
    have H := HA.out
    clear HA
    simp only [laws_eqByteS.l0] at H
    by_cases c4 : x5_1 < (l0.length : Int)
    ·rw [if_pos c4] at H
     have c4b0 : decide (x5_1 < (l0.length : Int)) = true := decide_eq_true c4
     clear c4
     by_cases c5 : 0 ≤ x5_1
     ·rw [if_pos c5] at H
      have c5b0 : decide (0 ≤ x5_1) = true := decide_eq_true c5
      clear c5
      by_cases c6 : x5_1 < (l1.length : Int)
      ·rw [if_pos c6] at H
       have c6b0 : decide (x5_1 < (l1.length : Int)) = true := decide_eq_true c6
       clear c6
       by_cases c7 : (rd l0 x5_1) = (rd l1 x5_1)
       ·rw [if_pos c7] at H
        have c7b0 : ((rd l0 x5_1) == (rd l1 x5_1)) = true := beq_iff_eq.mpr c7
        have c7b1 : ((rd l0 x5_1) != (rd l1 x5_1)) = false := bne_eq_false_iff_eq.mpr c7
        clear c7
        have H' := Aside0.mk H
        clear H
        have p271 : 0 ≤ (x5_1 : Int) := of_decide_eq_true hE
        have q271 : x5_1 < (l0.length : Int) := of_decide_eq_true hE
        obtain ⟨ad271, e271, hx271_0⟩ := Kd.at_int HR0.out x5_1 p271 q271
        cases e271
        replace p271 := eq_true p271
        replace q271 := eq_true q271
        have p272 : 0 ≤ (x5_1 : Int) := of_decide_eq_true hE
        have q272 : x5_1 < (l1.length : Int) := of_decide_eq_true hE
        obtain ⟨ad272, e272, hx272_0⟩ := Kd.at_int HR1.out x5_1 p272 q272
        cases e272
        replace p272 := eq_true p272
        replace q272 := eq_true q272
        go_wp2
        repeat (go_quiet (fail); try go_wp2)
        go_roundg k1
        case measure => have := HK1.out; omega
        case rel => exact ⟨(wrap64 (x5_1 + 1)), tE, H', ⟨by have := HK1.out; omega⟩, by repeat (first | exact Drawn0.refl _ | apply Drawn0.step)⟩
       ·rw [if_neg c7] at H
        have c7b0 : ((rd l0 x5_1) == (rd l1 x5_1)) = false := beq_eq_false_iff_ne.mpr c7
        have c7b1 : ((rd l0 x5_1) != (rd l1 x5_1)) = true := bne_iff_ne.mpr c7
        obtain rfl := Option.some.inj H
        have p271 : 0 ≤ (x5_1 : Int) := of_decide_eq_true hE
        have q271 : x5_1 < (l0.length : Int) := of_decide_eq_true hE
        obtain ⟨ad271, e271, hx271_0⟩ := Kd.at_int HR0.out x5_1 p271 q271
        cases e271
        replace p271 := eq_true p271
        replace q271 := eq_true q271
        have p272 : 0 ≤ (x5_1 : Int) := of_decide_eq_true hE
        have q272 : x5_1 < (l1.length : Int) := of_decide_eq_true hE
        obtain ⟨ad272, e272, hx272_0⟩ := Kd.at_int HR1.out x5_1 p272 q272
        cases e272
        replace p272 := eq_true p272
        replace q272 := eq_true q272
        go_wp2
        repeat (go_quiet (fail); try go_wp2)
        go_ret
        exact ⟨by first | rfl | (simp; done) | (simp [*]; done) | exact not_isEmpty _ | exact (not_isEmpty _).symm | exact is_empty _ | exact (is_empty _).symm, by repeat (first | exact Drawn0.refl _ | apply Drawn0.step)⟩
      ·rw [if_neg c6] at H
       exact absurd H (by simp)
     ·rw [if_neg c5] at H
      exact absurd H (by simp)
    ·rw [if_neg c4] at H
     have c4b0 : decide (x5_1 < (l0.length : Int)) = false := decide_eq_false c4
     clear c4
     obtain rfl := Option.some.inj H
     go_wp2
     repeat (go_quiet (fail); try go_wp2)
     go_ret
     exact ⟨by first | rfl | (simp; done) | (simp [*]; done) | exact not_isEmpty _ | exact (not_isEmpty _).symm | exact is_empty _ | exact (is_empty _).symm, by repeat (first | exact Drawn0.refl _ | apply Drawn0.step)⟩
 ·rw [if_neg c3] at H
  have c3b0 : ((l0.length : Int) == (l1.length : Int)) = false := beq_eq_false_iff_ne.mpr c3
  have c3b1 : ((l0.length : Int) != (l1.length : Int)) = true := bne_iff_ne.mpr c3
  have c3b2 : (l0.length == l1.length) = false := by first | simpa using c3 | (simp at c3 ⊢; omega)
  obtain rfl := Option.some.inj H
  go_enter Try.func40, Try.ntmps40
  go_wp2
  repeat (go_quiet (fail); try go_wp2)
  go_ret
  exact ⟨by first | rfl | (simp; done) | (simp [*]; done) | exact not_isEmpty _ | exact (not_isEmpty _).symm | exact is_empty _ | exact (is_empty _).symm, by repeat (first | exact Drawn0.refl _ | apply Drawn0.step)⟩
end Go.Proofs.Ytehkpnnidbghhab.PFnExactStaleBetween
namespace Go.Proofs.Ytehkpnnidbghhab.PFnExactStaleBetween
open Go.RowKit Go.Proofs.YtehkpnnidbghhabW.PrintWords Go.Proofs.YtehkpnnidbghhabW.PrintLast Go.Proofs.YtehkpnnidbghhabW.PrintMore
attribute [local go_sem] max2_int min2_int max_two min_two max_three min_three max_four min_four   -- for this text's walks alone
set_option linter.unusedVariables false
set_option linter.unusedSimpArgs false
def laws_eqAsset.f (k : Nat) (a0_0 : ByteArray) (l0_1 : List ByteArray) (l0_2 : List Int) (a1_0 : ByteArray) (l1_1 : List ByteArray) (l1_2 : List Int) : Option (Bool) := if a0_0.toList = a1_0.toList then ((laws_eqStringS.f k l0_1 l1_1).bind fun t275 => (if t275 = true then ((laws_eqByteS.f k l0_2 l1_2).bind fun t276 => (if t276 = true then (some true) else (some false))) else (some false))) else (some false)
theorem laws_eqAsset.mono : ∀ a0 a1 a2 a3 a4 a5 k, LeO (laws_eqAsset.f k a0 a1 a2 a3 a4 a5) (laws_eqAsset.f (k + 1) a0 a1 a2 a3 a4 a5) := by
 intro a0 a1 a2 a3 a4 a5 k
 unfold laws_eqAsset.f
 repeat' first
   | (with_reducible exact laws_eqByteS.mono _ _ _)
   | (with_reducible exact laws_eqStringS.mono _ _ _)
   | (with_reducible first | exact LeO.refl _ | exact LeO.none _ | refine LeO.ite ?_ ?_ | refine LeO.bind ?_ (fun _ => ?_))
   | exact laws_eqByteS.mono _ _ _
   | exact laws_eqStringS.mono _ _ _ | exact LeO.none _ | refine LeO.ite ?_ ?_ | refine LeO.bind ?_ (fun _ => ?_)
set_option maxHeartbeats 8000000 in
set_option maxRecDepth 100000 in
theorem laws_eqAsset.calls (k : Nat) (a0_0 : ByteArray) (A0_1 : Option Addr) (c0_1 : Nat) (l0_1 : List ByteArray) (A0_2 : Option Addr) (c0_2 : Nat) (l0_2 : List Int) (a1_0 : ByteArray) (A1_1 : Option Addr) (c1_1 : Nat) (l1_1 : List ByteArray) (A1_2 : Option Addr) (c1_2 : Nat) (l1_2 : List Int) (r : Bool) (w : World) (hr0_1 : Kd.C Kd.string w A0_1 l0_1.length l0_1) (hc0_1 : l0_1.length ≤ c0_1) (hr0_2 : Kd.C (Kd.int .u8) w A0_2 l0_2.length l0_2) (hc0_2 : l0_2.length ≤ c0_2) (hr1_1 : Kd.C Kd.string w A1_1 l1_1.length l1_1) (hc1_1 : l1_1.length ≤ c1_1) (hr1_2 : Kd.C (Kd.int .u8) w A1_2 l1_2.length l1_2) (hc1_2 : l1_2.length ≤ c1_2) (h : laws_eqAsset.f k a0_0 l0_1 l0_2 a1_0 l1_1 l1_2 = some r) :
  Calls Try.prog 20 #[.agg #[.string a0_0, .slice A0_1 l0_1.length c0_1, .slice A0_2 l0_2.length c0_2], .agg #[.string a1_0, .slice A1_1 l1_1.length c1_1, .slice A1_2 l1_2.length c1_2]] w fun e w' => e = .returned (.bool r) ∧ Below w.heap.size w w' := by
 have hu41 := Try.underlying41
 have HR0_1 := Aside0.mk hr0_1
 have HC0_1 := Aside0.mk hc0_1
 clear hr0_1 hc0_1
 have HR0_2 := Aside0.mk hr0_2
 have HC0_2 := Aside0.mk hc0_2
 clear hr0_2 hc0_2
 have HR1_1 := Aside0.mk hr1_1
 have HC1_1 := Aside0.mk hc1_1
 clear hr1_1 hc1_1
 have HR1_2 := Aside0.mk hr1_2
 have HC1_2 := Aside0.mk hc1_2
 clear hr1_2 hc1_2
 have HB := Aside0.mk (Below.refl w.heap.size w)
 have H : (if a0_0.toList = a1_0.toList then ((laws_eqStringS.f k l0_1 l1_1).bind fun t275 => (if t275 = true then ((laws_eqByteS.f k l0_2 l1_2).bind fun t276 => (if t276 = true then (some true) else (some false))) else (some false))) else (some false)) = some r := h
 clear h
 by_cases c3 : a0_0.toList = a1_0.toList
 ·rw [if_pos c3] at H
  have c3b0 : (a0_0.toList == a1_0.toList) = true := beq_iff_eq.mpr c3
  have c3b1 : (a0_0.toList != a1_0.toList) = false := bne_eq_false_iff_eq.mpr c3
  clear c3
  replace H := Option.bind_eq_some_iff.mp H
  obtain ⟨t275, A40, H⟩ := H
  replace H : (if t275 = true then ((laws_eqByteS.f k l0_2 l1_2).bind fun t276 => (if t276 = true then (some true) else (some false))) else (some false)) = some r := H
  have A4 := Aside0.mk A40
  clear A40
  by_cases c5 : t275 = true
  ·subst c5
   have H1 : ((laws_eqByteS.f k l0_2 l1_2).bind fun t276 => (if t276 = true then (some true) else (some false))) = some r := by rw [if_pos rfl] at H; exact H
   clear H
   have H := H1
   clear H1
   replace H := Option.bind_eq_some_iff.mp H
   obtain ⟨t276, A60, H⟩ := H
   replace H : (if t276 = true then (some true) else (some false)) = some r := H
   have A6 := Aside0.mk A60
   clear A60
   by_cases c7 : t276 = true
   ·subst c7
    have H1 : (some true) = some r := by rw [if_pos rfl] at H; exact H
    clear H
    have H := H1
    clear H1
    obtain rfl := Option.some.inj H
    go_enter Try.func20, Try.ntmps20
    go_wp2_with (first | ((with_reducible refine gate_dst (N := 2) rfl ?_); refine box_event rfl (N := 2) rfl (cs := #[.string a0_0, .slice A0_1 l0_1.length c0_1, .slice A0_2 l0_2.length c0_2]) (t := 41) sE ?_; intro gb273 hg w8 hbox hb; have BK273 := Aside0.mk hbox; have GW273 := gS w hg (lU); have GE273 := gS w hg (lU); replace HB := bH (lU) hb; clear hb hbox hg) | ((with_reducible refine gate_dst (N := 3) rfl ?_); refine box_event rfl (N := 3) rfl (cs := #[.string a1_0, .slice A1_1 l1_1.length c1_1, .slice A1_2 l1_2.length c1_2]) (t := 41) sE ?_; intro gb274 hg w9 hbox hb; have BK274 := Aside0.mk hbox; have GW274 := gS w hg (lV1 GE273); have GE274 := gS w hg (lV1 GE273); replace HB := bH (lV1 GE273) hb; have NB273_274 := nL hg (bV BK273); have NB274_273 := nG hg (bV BK273); replace BK273 := bB (bV BK273) hb; clear hb hbox hg; have hnb10 := NB273_274.out; have hnc10 := NB274_273.out; have hcz11_0 := cz BK273 0 (.string a0_0); have hcz11_1 := cz BK273 1 (.slice A0_1 l0_1.length c0_1); have hcz11_2 := cz BK273 2 (.slice A0_2 l0_2.length c0_2); have hfz11_0 := fz BK273 0; have hfz11_1 := fz BK273 1; have hfz11_2 := fz BK273 2; have hcz12_0 := cz BK274 0 (.string a1_0); have hcz12_1 := cz BK274 1 (.slice A1_1 l1_1.length c1_1); have hcz12_2 := cz BK274 2 (.slice A1_2 l1_2.length c1_2); have hfz12_0 := fz BK274 0; have hfz12_1 := fz BK274 1; have hfz12_2 := fz BK274 2) | ((with_reducible refine gate_callee (f := 8) rfl ?_); refine goesL_ (some 14) rfl rfl Try.func8 (by kernel_rfl) rfl #[.slice A0_1 l0_1.length c0_1, .slice A1_1 l1_1.length c1_1] rfl aE ?_; (with_reducible refine (laws_eqStringS.calls k _ _ l0_1 _ _ l1_1 true _ ?side1 ?side2 ?side3 ?side4 A4.out).mono ?_); (case side1 => exact cU (Kd.C_below HR0_1.out HB.out)); (case side2 => exact HC0_1.out); (case side3 => exact cU (Kd.C_below HR1_1.out HB.out)); (case side4 => exact HC1_1.out); rintro e w' ⟨rfl, ⟨nd, rfl⟩⟩; refine ⟨_, rfl, ?_⟩) | ((with_reducible refine gate_callee (f := 40) rfl ?_); refine goesL_ (some 20) rfl rfl Try.func40 (by kernel_rfl) rfl #[.slice A0_2 l0_2.length c0_2, .slice A1_2 l1_2.length c1_2] rfl aE ?_; (with_reducible refine (laws_eqByteS.calls k _ _ l0_2 _ _ l1_2 true _ ?side1 ?side2 ?side3 ?side4 A6.out).mono ?_); (case side1 => exact cU (Kd.C_below HR0_2.out (lV2 GE273 GE274))); (case side2 => exact HC0_2.out); (case side3 => exact cU (Kd.C_below HR1_2.out (lV2 GE273 GE274))); (case side4 => exact HC1_2.out); rintro e w' ⟨rfl, ⟨nd, rfl⟩⟩; refine ⟨_, rfl, ?_⟩))
    go_ret
    exact ⟨eE, lV2 GE273 GE274⟩
   ·replace c7 := Bool.eq_false_iff.mpr c7
    subst c7
    have H1 : (some false) = some r := by rw [if_neg (show ¬ (false = true) by decide)] at H; exact H
    clear H
    have H := H1
    clear H1
    obtain rfl := Option.some.inj H
    go_enter Try.func20, Try.ntmps20
    go_wp2_with (first | ((with_reducible refine gate_dst (N := 2) rfl ?_); refine box_event rfl (N := 2) rfl (cs := #[.string a0_0, .slice A0_1 l0_1.length c0_1, .slice A0_2 l0_2.length c0_2]) (t := 41) sE ?_; intro gb273 hg w13 hbox hb; have BK273 := Aside0.mk hbox; have GW273 := gS w hg (lU); have GE273 := gS w hg (lU); replace HB := bH (lU) hb; clear hb hbox hg) | ((with_reducible refine gate_dst (N := 3) rfl ?_); refine box_event rfl (N := 3) rfl (cs := #[.string a1_0, .slice A1_1 l1_1.length c1_1, .slice A1_2 l1_2.length c1_2]) (t := 41) sE ?_; intro gb274 hg w14 hbox hb; have BK274 := Aside0.mk hbox; have GW274 := gS w hg (lV1 GE273); have GE274 := gS w hg (lV1 GE273); replace HB := bH (lV1 GE273) hb; have NB273_274 := nL hg (bV BK273); have NB274_273 := nG hg (bV BK273); replace BK273 := bB (bV BK273) hb; clear hb hbox hg; have hnb15 := NB273_274.out; have hnc15 := NB274_273.out; have hcz16_0 := cz BK273 0 (.string a0_0); have hcz16_1 := cz BK273 1 (.slice A0_1 l0_1.length c0_1); have hcz16_2 := cz BK273 2 (.slice A0_2 l0_2.length c0_2); have hfz16_0 := fz BK273 0; have hfz16_1 := fz BK273 1; have hfz16_2 := fz BK273 2; have hcz17_0 := cz BK274 0 (.string a1_0); have hcz17_1 := cz BK274 1 (.slice A1_1 l1_1.length c1_1); have hcz17_2 := cz BK274 2 (.slice A1_2 l1_2.length c1_2); have hfz17_0 := fz BK274 0; have hfz17_1 := fz BK274 1; have hfz17_2 := fz BK274 2) | ((with_reducible refine gate_callee (f := 8) rfl ?_); refine goesL_ (some 14) rfl rfl Try.func8 (by kernel_rfl) rfl #[.slice A0_1 l0_1.length c0_1, .slice A1_1 l1_1.length c1_1] rfl aE ?_; (with_reducible refine (laws_eqStringS.calls k _ _ l0_1 _ _ l1_1 true _ ?side1 ?side2 ?side3 ?side4 A4.out).mono ?_); (case side1 => exact cU (Kd.C_below HR0_1.out HB.out)); (case side2 => exact HC0_1.out); (case side3 => exact cU (Kd.C_below HR1_1.out HB.out)); (case side4 => exact HC1_1.out); rintro e w' ⟨rfl, ⟨nd, rfl⟩⟩; refine ⟨_, rfl, ?_⟩) | ((with_reducible refine gate_callee (f := 40) rfl ?_); refine goesL_ (some 20) rfl rfl Try.func40 (by kernel_rfl) rfl #[.slice A0_2 l0_2.length c0_2, .slice A1_2 l1_2.length c1_2] rfl aE ?_; (with_reducible refine (laws_eqByteS.calls k _ _ l0_2 _ _ l1_2 false _ ?side1 ?side2 ?side3 ?side4 A6.out).mono ?_); (case side1 => exact cU (Kd.C_below HR0_2.out (lV2 GE273 GE274))); (case side2 => exact HC0_2.out); (case side3 => exact cU (Kd.C_below HR1_2.out (lV2 GE273 GE274))); (case side4 => exact HC1_2.out); rintro e w' ⟨rfl, ⟨nd, rfl⟩⟩; refine ⟨_, rfl, ?_⟩))
    go_ret
    exact ⟨eE, lV2 GE273 GE274⟩
  ·replace c5 := Bool.eq_false_iff.mpr c5
   subst c5
   have H1 : (some false) = some r := by rw [if_neg (show ¬ (false = true) by decide)] at H; exact H
   clear H
   have H := H1
   clear H1
   obtain rfl := Option.some.inj H
   go_enter Try.func20, Try.ntmps20
   go_wp2_with (first | ((with_reducible refine gate_dst (N := 2) rfl ?_); refine box_event rfl (N := 2) rfl (cs := #[.string a0_0, .slice A0_1 l0_1.length c0_1, .slice A0_2 l0_2.length c0_2]) (t := 41) sE ?_; intro gb273 hg w18 hbox hb; have BK273 := Aside0.mk hbox; have GW273 := gS w hg (lU); have GE273 := gS w hg (lU); replace HB := bH (lU) hb; clear hb hbox hg) | ((with_reducible refine gate_dst (N := 3) rfl ?_); refine box_event rfl (N := 3) rfl (cs := #[.string a1_0, .slice A1_1 l1_1.length c1_1, .slice A1_2 l1_2.length c1_2]) (t := 41) sE ?_; intro gb274 hg w19 hbox hb; have BK274 := Aside0.mk hbox; have GW274 := gS w hg (lV1 GE273); have GE274 := gS w hg (lV1 GE273); replace HB := bH (lV1 GE273) hb; have NB273_274 := nL hg (bV BK273); have NB274_273 := nG hg (bV BK273); replace BK273 := bB (bV BK273) hb; clear hb hbox hg; have hnb20 := NB273_274.out; have hnc20 := NB274_273.out; have hcz21_0 := cz BK273 0 (.string a0_0); have hcz21_1 := cz BK273 1 (.slice A0_1 l0_1.length c0_1); have hcz21_2 := cz BK273 2 (.slice A0_2 l0_2.length c0_2); have hfz21_0 := fz BK273 0; have hfz21_1 := fz BK273 1; have hfz21_2 := fz BK273 2; have hcz22_0 := cz BK274 0 (.string a1_0); have hcz22_1 := cz BK274 1 (.slice A1_1 l1_1.length c1_1); have hcz22_2 := cz BK274 2 (.slice A1_2 l1_2.length c1_2); have hfz22_0 := fz BK274 0; have hfz22_1 := fz BK274 1; have hfz22_2 := fz BK274 2) | ((with_reducible refine gate_callee (f := 8) rfl ?_); refine goesL_ (some 14) rfl rfl Try.func8 (by kernel_rfl) rfl #[.slice A0_1 l0_1.length c0_1, .slice A1_1 l1_1.length c1_1] rfl aE ?_; (with_reducible refine (laws_eqStringS.calls k _ _ l0_1 _ _ l1_1 false _ ?side1 ?side2 ?side3 ?side4 A4.out).mono ?_); (case side1 => exact cU (Kd.C_below HR0_1.out HB.out)); (case side2 => exact HC0_1.out); (case side3 => exact cU (Kd.C_below HR1_1.out HB.out)); (case side4 => exact HC1_1.out); rintro e w' ⟨rfl, ⟨nd, rfl⟩⟩; refine ⟨_, rfl, ?_⟩))
   go_ret
   exact ⟨eE, lV2 GE273 GE274⟩
 ·rw [if_neg c3] at H
  have c3b0 : (a0_0.toList == a1_0.toList) = false := beq_eq_false_iff_ne.mpr c3
  have c3b1 : (a0_0.toList != a1_0.toList) = true := bne_iff_ne.mpr c3
  obtain rfl := Option.some.inj H
  go_enter Try.func20, Try.ntmps20
  go_wp2_with (first | ((with_reducible refine gate_dst (N := 2) rfl ?_); refine box_event rfl (N := 2) rfl (cs := #[.string a0_0, .slice A0_1 l0_1.length c0_1, .slice A0_2 l0_2.length c0_2]) (t := 41) sE ?_; intro gb273 hg w23 hbox hb; have BK273 := Aside0.mk hbox; have GW273 := gS w hg (lU); have GE273 := gS w hg (lU); replace HB := bH (lU) hb; clear hb hbox hg) | ((with_reducible refine gate_dst (N := 3) rfl ?_); refine box_event rfl (N := 3) rfl (cs := #[.string a1_0, .slice A1_1 l1_1.length c1_1, .slice A1_2 l1_2.length c1_2]) (t := 41) sE ?_; intro gb274 hg w24 hbox hb; have BK274 := Aside0.mk hbox; have GW274 := gS w hg (lV1 GE273); have GE274 := gS w hg (lV1 GE273); replace HB := bH (lV1 GE273) hb; have NB273_274 := nL hg (bV BK273); have NB274_273 := nG hg (bV BK273); replace BK273 := bB (bV BK273) hb; clear hb hbox hg; have hnb25 := NB273_274.out; have hnc25 := NB274_273.out; have hcz26_0 := cz BK273 0 (.string a0_0); have hcz26_1 := cz BK273 1 (.slice A0_1 l0_1.length c0_1); have hcz26_2 := cz BK273 2 (.slice A0_2 l0_2.length c0_2); have hfz26_0 := fz BK273 0; have hfz26_1 := fz BK273 1; have hfz26_2 := fz BK273 2; have hcz27_0 := cz BK274 0 (.string a1_0); have hcz27_1 := cz BK274 1 (.slice A1_1 l1_1.length c1_1); have hcz27_2 := cz BK274 2 (.slice A1_2 l1_2.length c1_2); have hfz27_0 := fz BK274 0; have hfz27_1 := fz BK274 1; have hfz27_2 := fz BK274 2))
  go_ret
  exact ⟨eE, lV2 GE273 GE274⟩
def laws_eqAssetS.l0 : Nat → List (S41) → List (S41) → Int → Option (Bool)
 | 0, _, _, _ => none
 | k + 1, x0, x1, x5 => if x5 < (x0.length : Int) then (if 0 ≤ x5 then (if x5 < (x1.length : Int) then ((laws_eqAsset.f k ((rd_T41 x0 x5).f0) ((rd_T41 x0 x5).f1) ((rd_T41 x0 x5).f2) ((rd_T41 x1 x5).f0) ((rd_T41 x1 x5).f1) ((rd_T41 x1 x5).f2)).bind fun t279 => (if t279 = true then (laws_eqAssetS.l0 k x0 x1 (wrap64 (x5 + 1))) else (some false))) else (none)) else (none)) else (some true)
def laws_eqAssetS.f (k : Nat) (l0 : List (S41)) (l1 : List (S41)) : Option (Bool) := if (l0.length : Int) = (l1.length : Int) then (laws_eqAssetS.l0 k l0 l1 0) else (some false)
theorem laws_eqAssetS.mono_l : ∀ k, (∀ y0 y1 y2, LeO (laws_eqAssetS.l0 k y0 y1 y2) (laws_eqAssetS.l0 (k + 1) y0 y1 y2))
 | 0 => fun _ _ _ r h => by simp [laws_eqAssetS.l0] at h
 | k + 1 => by
  have ih0 := laws_eqAssetS.mono_l k
  ·intro y0 y1 y2
   unfold laws_eqAssetS.l0
   repeat' first
   | (with_reducible exact ih0 _ _ _)
   | (with_reducible exact laws_eqAsset.mono _ _ _ _ _ _ _)
   | (with_reducible first | exact LeO.refl _ | exact LeO.none _ | refine LeO.ite ?_ ?_ | refine LeO.bind ?_ (fun _ => ?_))
   | exact ih0 _ _ _
   | exact laws_eqAsset.mono _ _ _ _ _ _ _ | exact LeO.none _ | refine LeO.ite ?_ ?_ | refine LeO.bind ?_ (fun _ => ?_)
theorem laws_eqAssetS.mono : ∀ a0 a1 k, LeO (laws_eqAssetS.f k a0 a1) (laws_eqAssetS.f (k + 1) a0 a1) := by
 intro a0 a1 k
 have ih0 := laws_eqAssetS.mono_l k
 unfold laws_eqAssetS.f
 repeat' first
   | (with_reducible exact ih0 _ _ _)
   | (with_reducible exact laws_eqAsset.mono _ _ _ _ _ _ _)
   | (with_reducible first | exact LeO.refl _ | exact LeO.none _ | refine LeO.ite ?_ ?_ | refine LeO.bind ?_ (fun _ => ?_))
   | exact ih0 _ _ _
   | exact laws_eqAsset.mono _ _ _ _ _ _ _ | exact LeO.none _ | refine LeO.ite ?_ ?_ | refine LeO.bind ?_ (fun _ => ?_)
def laws_eqAssetS.T6 : Bool × List (List Nat × List Nat) := (true, [([], []), ([], []), ([0, 1], [0, 1]), ([2], [2]), ([], []), ([], []), ([4, 5], [4, 5]), ([6], [6]), ([3, 7], [3, 7]), ([8], [8])])
def laws_eqAssetS.B6 : List Nat := [0, 0, 3, 7, 0, 0, 48, 112, 255, 511]
theorem laws_eqAssetS.tab6 : rtab .any (opsOf Try.f9 6) = laws_eqAssetS.T6 := by kernel_rfl
theorem laws_eqAssetS.bits6 : waitsOk laws_eqAssetS.T6.2 laws_eqAssetS.B6 = true := by kernel_rfl
set_option maxHeartbeats 8000000 in
set_option maxRecDepth 100000 in
theorem laws_eqAssetS.calls (k : Nat) (A0 : Option Addr) (c0 : Nat) (l0 : List (S41)) (A1 : Option Addr) (c1 : Nat) (l1 : List (S41)) (r : Bool) (w : World) (hr0 : Kd.C k41 w A0 l0.length l0) (hc0 : l0.length ≤ c0) (hr1 : Kd.C k41 w A1 l1.length l1) (hc1 : l1.length ≤ c1) (h : laws_eqAssetS.f k l0 l1 = some r) :
  Calls Try.prog 9 #[.slice A0 l0.length c0, .slice A1 l1.length c1] w fun e w' => e = .returned (.bool r) ∧ Below w.heap.size w w' := by
 have hu41 := Try.underlying41
 have HR0 := Aside0.mk hr0
 have HC0 := Aside0.mk hc0
 clear hr0 hc0
 have HR1 := Aside0.mk hr1
 have HC1 := Aside0.mk hc1
 clear hr1 hc1
 have HB := Aside0.mk (Below.refl w.heap.size w)
 have H : (if (l0.length : Int) = (l1.length : Int) then (laws_eqAssetS.l0 k l0 l1 0) else (some false)) = some r := h
 clear h
 by_cases c3 : (l0.length : Int) = (l1.length : Int)
 ·rw [if_pos c3] at H
  have c3b0 : ((l0.length : Int) == (l1.length : Int)) = true := beq_iff_eq.mpr c3
  have c3b1 : ((l0.length : Int) != (l1.length : Int)) = false := bne_eq_false_iff_eq.mpr c3
  have c3b2 : (l0.length == l1.length) = true := by first | simpa using c3 | (simp at c3 ⊢; omega)
  clear c3
  have H' := Aside0.mk H
  clear H
  go_enter Try.func9, Try.ntmps9
  go_wp2
  go_loopg [5] k (fun kq v5 w' => ∃ (x5_1 : Int), v5 = .int .i64 x5_1 ∧ Aside0 (laws_eqAssetS.l0 kq l0 l1 x5_1 = some r) ∧ Aside0 (kq ≤ k) ∧ Aside0 (Below w.heap.size w w'))
  case atStart => exact ⟨(0), tE, H', ⟨Nat.le_refl _⟩, ⟨by repeat (first | (with_reducible first | exact HB.out | apply below_alloc | apply pw_below_drewN | apply below_drew1) | exact HB.out)⟩⟩
  case round =>
   clear H'
   try clear c1
   try clear p2
   try clear c3
   try clear c3b0
   try clear c3b1
   try clear c3b2
   obtain ⟨x5_1, rfl, HA, HK1, HB⟩ := hrel
   cases gk with
   | zero => exact absurd HA.out (by simp [laws_eqAssetS.l0])
   | succ k1 =>
    have H := HA.out
    clear HA
    simp only [laws_eqAssetS.l0] at H
    by_cases c4 : x5_1 < (l0.length : Int)
    ·rw [if_pos c4] at H
     have c4b0 : decide (x5_1 < (l0.length : Int)) = true := decide_eq_true c4
     clear c4
     by_cases c5 : 0 ≤ x5_1
     ·rw [if_pos c5] at H
      have c5b0 : decide (0 ≤ x5_1) = true := decide_eq_true c5
      clear c5
      by_cases c6 : x5_1 < (l1.length : Int)
      ·rw [if_pos c6] at H
       have c6b0 : decide (x5_1 < (l1.length : Int)) = true := decide_eq_true c6
       clear c6
       replace H := Option.bind_eq_some_iff.mp H
       obtain ⟨t279, A70, H⟩ := H
       replace H : (if t279 = true then (laws_eqAssetS.l0 k1 l0 l1 (wrap64 (x5_1 + 1))) else (some false)) = some r := H
       have A7 := Aside0.mk A70
       clear A70
       by_cases c8 : t279 = true
       ·subst c8
        have H1 : (laws_eqAssetS.l0 k1 l0 l1 (wrap64 (x5_1 + 1))) = some r := by rw [if_pos rfl] at H; exact H
        clear H
        have H := H1
        clear H1
        have H' := Aside0.mk H
        clear H
        try go_wp2
        replace HB := Aside0.mk (below_drew1 HB.out)
        have p277 : 0 ≤ (x5_1 : Int) := of_decide_eq_true hE
        have q277 : x5_1 < (l0.length : Int) := of_decide_eq_true hE
        obtain ⟨ad277, A277_1, c277_1, A277_2, c277_2, e277, hx277_0, hx277_1, hx277_2, hl277_1, hi277_1, hl277_2, hi277_2⟩ := at_T41 HR0.out x5_1 p277 q277
        have hw277_2 := hx277_2
        have hw277_1 := hx277_1
        have hw277_0 := hx277_0
        cases e277
        replace hx277_0 := (HB.out.cell (World.block_lt_of_cell? w _ hx277_0)).trans hx277_0
        replace hx277_1 := (HB.out.cell (World.block_lt_of_cell? w _ hx277_1)).trans hx277_1
        replace hx277_2 := (HB.out.cell (World.block_lt_of_cell? w _ hx277_2)).trans hx277_2
        have HR277_1 := Aside0.mk hi277_1
        have HC277_1 := Aside0.mk hl277_1
        clear hi277_1 hl277_1
        have HR277_2 := Aside0.mk hi277_2
        have HC277_2 := Aside0.mk hl277_2
        clear hi277_2 hl277_2
        replace p277 := eq_true p277
        replace q277 := eq_true q277
        have p278 : 0 ≤ (x5_1 : Int) := of_decide_eq_true hE
        have q278 : x5_1 < (l1.length : Int) := of_decide_eq_true hE
        obtain ⟨ad278, A278_1, c278_1, A278_2, c278_2, e278, hx278_0, hx278_1, hx278_2, hl278_1, hi278_1, hl278_2, hi278_2⟩ := at_T41 HR1.out x5_1 p278 q278
        have hw278_2 := hx278_2
        have hw278_1 := hx278_1
        have hw278_0 := hx278_0
        cases e278
        replace hx278_0 := (HB.out.cell (World.block_lt_of_cell? w _ hx278_0)).trans hx278_0
        replace hx278_1 := (HB.out.cell (World.block_lt_of_cell? w _ hx278_1)).trans hx278_1
        replace hx278_2 := (HB.out.cell (World.block_lt_of_cell? w _ hx278_2)).trans hx278_2
        have HR278_1 := Aside0.mk hi278_1
        have HC278_1 := Aside0.mk hl278_1
        clear hi278_1 hl278_1
        have HR278_2 := Aside0.mk hi278_2
        have HC278_2 := Aside0.mk hl278_2
        clear hi278_2 hl278_2
        replace p278 := eq_true p278
        replace q278 := eq_true q278
        refine start_ (n := 10) (S := fun w' => w'.cell? (ad277.add ((x5_1).toNat * 3)) = some (.string ((rd_T41 l0 x5_1).f0)) ∧ w'.cell? ⟨(ad277.add ((x5_1).toNat * 3)).block, (ad277.add ((x5_1).toNat * 3)).off + 1, none⟩ = some (.slice A277_1 ((rd_T41 l0 x5_1).f1).length c277_1) ∧ w'.cell? ⟨(ad277.add ((x5_1).toNat * 3)).block, (ad277.add ((x5_1).toNat * 3)).off + 2, none⟩ = some (.slice A277_2 ((rd_T41 l0 x5_1).f2).length c277_2) ∧ w'.cell? (ad278.add ((x5_1).toNat * 3)) = some (.string ((rd_T41 l1 x5_1).f0)) ∧ w'.cell? ⟨(ad278.add ((x5_1).toNat * 3)).block, (ad278.add ((x5_1).toNat * 3)).off + 1, none⟩ = some (.slice A278_1 ((rd_T41 l1 x5_1).f1).length c278_1) ∧ w'.cell? ⟨(ad278.add ((x5_1).toNat * 3)).block, (ad278.add ((x5_1).toNat * 3)).off + 2, none⟩ = some (.slice A278_2 ((rd_T41 l1 x5_1).f2).length c278_2)) (ds := []) #[false, false, false, false, false, false, false, false, false, false] (by kernel_rfl) rfl rfl ⟨((HB.out.cell (World.block_lt_of_cell? w _ hw277_0)).trans hw277_0), ((HB.out.cell (World.block_lt_of_cell? w _ hw277_1)).trans hw277_1), ((HB.out.cell (World.block_lt_of_cell? w _ hw277_2)).trans hw277_2), ((HB.out.cell (World.block_lt_of_cell? w _ hw278_0)).trans hw278_0), ((HB.out.cell (World.block_lt_of_cell? w _ hw278_1)).trans hw278_1), ((HB.out.cell (World.block_lt_of_cell? w _ hw278_2)).trans hw278_2)⟩ (fun hHeld => ?_); refine with_tabW laws_eqAssetS.tab6 laws_eqAssetS.bits6 (fun HT_ HW_ => ?_)
        generalize wr.drew = w9 at HB HR277_1 HR277_2 HR278_1 HR278_2 hx277_0 hx277_1 hx277_2 hx278_0 hx278_1 hx278_2 hHeld ⊢
        refine pureA 0 17 (bz 10 1) rfl rfl (any_of HT_.out (by kernel_rfl)) ?_
        refine pureA 1 18 (bz 10 3) rfl rfl (any_of HT_.out (by kernel_rfl)) ?_
        refine pureA 2 19 (bz 10 7) rfl rfl (any_of HT_.out (by kernel_rfl)) ?_
        refine pureA 4 21 (bz 10 23) rfl rfl (any_of HT_.out (by kernel_rfl)) ?_
        refine pureA 5 22 (bz 10 55) rfl rfl (any_of HT_.out (by kernel_rfl)) ?_
        refine pureA 6 23 (bz 10 119) rfl rfl (any_of HT_.out (by kernel_rfl)) ?_
        refine takeA 3 20 (bz 10 127) rfl rfl (take_ofW HT_.out HW_.out (by kernel_rfl)) hHeld (by rintro w' ⟨s0, s1, s2, s3, s4, s5⟩; go_simp; with_reducible rfl) ?_
        refine takeA 7 24 (bz 10 255) rfl rfl (take_ofW HT_.out HW_.out (by kernel_rfl)) hHeld (by rintro w' ⟨s0, s1, s2, s3, s4, s5⟩; go_simp; with_reducible rfl) ?_
        refine one_ (i := 8) (N := some 25) (bz 10 511) rfl rfl (one_of HT_.out (by kernel_rfl)) (by decide) (fun K hK => ?_)
        refine goes_ Try.func20 (by kernel_rfl) rfl #[.agg #[.string ((rd_T41 l0 x5_1).f0), .slice A277_1 ((rd_T41 l0 x5_1).f1).length c277_1, .slice A277_2 ((rd_T41 l0 x5_1).f2).length c277_2], .agg #[.string ((rd_T41 l1 x5_1).f0), .slice A278_1 ((rd_T41 l1 x5_1).f1).length c278_1, .slice A278_2 ((rd_T41 l1 x5_1).f2).length c278_2]] (by rfl) rfl rfl aE ?_
        with_reducible refine (laws_eqAsset.calls k1 ((rd_T41 l0 x5_1).f0) _ _ ((rd_T41 l0 x5_1).f1) _ _ ((rd_T41 l0 x5_1).f2) ((rd_T41 l1 x5_1).f0) _ _ ((rd_T41 l1 x5_1).f1) _ _ ((rd_T41 l1 x5_1).f2) true _ ?side1 ?side2 ?side3 ?side4 ?side5 ?side6 ?side7 ?side8 A7.out).mono ?_
        (case side1 => exact cU (Kd.C_below HR277_1.out HB.out))
        (case side2 => exact HC277_1.out)
        (case side3 => exact cU (Kd.C_below HR277_2.out HB.out))
        (case side4 => exact HC277_2.out)
        (case side5 => exact cU (Kd.C_below HR278_1.out HB.out))
        (case side6 => exact HC278_1.out)
        (case side7 => exact cU (Kd.C_below HR278_2.out HB.out))
        (case side8 => exact HC278_2.out)
        rintro e w10 ⟨rfl, hb⟩
        refine ⟨_, rfl, ?_⟩
        replace HB := bH (lU) hb
        (try clear hb)
        (try clear hb2)
        (try clear hk)
        (try clear hi)
        refine hK.out _ _ ⟨((HB.out.cell (World.block_lt_of_cell? w _ hw277_0)).trans hw277_0), ((HB.out.cell (World.block_lt_of_cell? w _ hw277_1)).trans hw277_1), ((HB.out.cell (World.block_lt_of_cell? w _ hw277_2)).trans hw277_2), ((HB.out.cell (World.block_lt_of_cell? w _ hw278_0)).trans hw278_0), ((HB.out.cell (World.block_lt_of_cell? w _ hw278_1)).trans hw278_1), ((HB.out.cell (World.block_lt_of_cell? w _ hw278_2)).trans hw278_2)⟩ (fun hHeld => ?_)
        clear hK K
        refine norm_ (a' := ?_) ?_ ?_
        rotate_left
        ·show Act.put _ (some 25) _ = _
         simp only [Act.put, List.setIfInBounds_toArray, List.set_cons_zero, List.set_cons_succ, i64_w, i32_w]
         rfl
        refine pureA 9 26 (bz 10 1023) rfl rfl (any_of HT_.out (by kernel_rfl)) ?_
        refine done_ (done_of HT_.out (by kernel_rfl)) ?_
        try go_wp2
        go_roundg k1
        case measure => have := HK1.out; omega
        case rel => exact ⟨(wrap64 (x5_1 + 1)), tE, H', ⟨by have := HK1.out; omega⟩, ⟨by repeat (first | (with_reducible first | exact HB.out | apply below_alloc | apply pw_below_drewN | apply below_drew1) | exact HB.out)⟩⟩
       ·replace c8 := Bool.eq_false_iff.mpr c8
        subst c8
        have H1 : (some false) = some r := by rw [if_neg (show ¬ (false = true) by decide)] at H; exact H
        clear H
        have H := H1
        clear H1
        obtain rfl := Option.some.inj H
        try go_wp2
        replace HB := Aside0.mk (below_drew1 HB.out)
        have p277 : 0 ≤ (x5_1 : Int) := of_decide_eq_true hE
        have q277 : x5_1 < (l0.length : Int) := of_decide_eq_true hE
        obtain ⟨ad277, A277_1, c277_1, A277_2, c277_2, e277, hx277_0, hx277_1, hx277_2, hl277_1, hi277_1, hl277_2, hi277_2⟩ := at_T41 HR0.out x5_1 p277 q277
        have hw277_2 := hx277_2
        have hw277_1 := hx277_1
        have hw277_0 := hx277_0
        cases e277
        replace hx277_0 := (HB.out.cell (World.block_lt_of_cell? w _ hx277_0)).trans hx277_0
        replace hx277_1 := (HB.out.cell (World.block_lt_of_cell? w _ hx277_1)).trans hx277_1
        replace hx277_2 := (HB.out.cell (World.block_lt_of_cell? w _ hx277_2)).trans hx277_2
        have HR277_1 := Aside0.mk hi277_1
        have HC277_1 := Aside0.mk hl277_1
        clear hi277_1 hl277_1
        have HR277_2 := Aside0.mk hi277_2
        have HC277_2 := Aside0.mk hl277_2
        clear hi277_2 hl277_2
        replace p277 := eq_true p277
        replace q277 := eq_true q277
        have p278 : 0 ≤ (x5_1 : Int) := of_decide_eq_true hE
        have q278 : x5_1 < (l1.length : Int) := of_decide_eq_true hE
        obtain ⟨ad278, A278_1, c278_1, A278_2, c278_2, e278, hx278_0, hx278_1, hx278_2, hl278_1, hi278_1, hl278_2, hi278_2⟩ := at_T41 HR1.out x5_1 p278 q278
        have hw278_2 := hx278_2
        have hw278_1 := hx278_1
        have hw278_0 := hx278_0
        cases e278
        replace hx278_0 := (HB.out.cell (World.block_lt_of_cell? w _ hx278_0)).trans hx278_0
        replace hx278_1 := (HB.out.cell (World.block_lt_of_cell? w _ hx278_1)).trans hx278_1
        replace hx278_2 := (HB.out.cell (World.block_lt_of_cell? w _ hx278_2)).trans hx278_2
        have HR278_1 := Aside0.mk hi278_1
        have HC278_1 := Aside0.mk hl278_1
        clear hi278_1 hl278_1
        have HR278_2 := Aside0.mk hi278_2
        have HC278_2 := Aside0.mk hl278_2
        clear hi278_2 hl278_2
        replace p278 := eq_true p278
        replace q278 := eq_true q278
        refine start_ (n := 10) (S := fun w' => w'.cell? (ad277.add ((x5_1).toNat * 3)) = some (.string ((rd_T41 l0 x5_1).f0)) ∧ w'.cell? ⟨(ad277.add ((x5_1).toNat * 3)).block, (ad277.add ((x5_1).toNat * 3)).off + 1, none⟩ = some (.slice A277_1 ((rd_T41 l0 x5_1).f1).length c277_1) ∧ w'.cell? ⟨(ad277.add ((x5_1).toNat * 3)).block, (ad277.add ((x5_1).toNat * 3)).off + 2, none⟩ = some (.slice A277_2 ((rd_T41 l0 x5_1).f2).length c277_2) ∧ w'.cell? (ad278.add ((x5_1).toNat * 3)) = some (.string ((rd_T41 l1 x5_1).f0)) ∧ w'.cell? ⟨(ad278.add ((x5_1).toNat * 3)).block, (ad278.add ((x5_1).toNat * 3)).off + 1, none⟩ = some (.slice A278_1 ((rd_T41 l1 x5_1).f1).length c278_1) ∧ w'.cell? ⟨(ad278.add ((x5_1).toNat * 3)).block, (ad278.add ((x5_1).toNat * 3)).off + 2, none⟩ = some (.slice A278_2 ((rd_T41 l1 x5_1).f2).length c278_2)) (ds := []) #[false, false, false, false, false, false, false, false, false, false] (by kernel_rfl) rfl rfl ⟨((HB.out.cell (World.block_lt_of_cell? w _ hw277_0)).trans hw277_0), ((HB.out.cell (World.block_lt_of_cell? w _ hw277_1)).trans hw277_1), ((HB.out.cell (World.block_lt_of_cell? w _ hw277_2)).trans hw277_2), ((HB.out.cell (World.block_lt_of_cell? w _ hw278_0)).trans hw278_0), ((HB.out.cell (World.block_lt_of_cell? w _ hw278_1)).trans hw278_1), ((HB.out.cell (World.block_lt_of_cell? w _ hw278_2)).trans hw278_2)⟩ (fun hHeld => ?_); refine with_tabW laws_eqAssetS.tab6 laws_eqAssetS.bits6 (fun HT_ HW_ => ?_)
        generalize wr.drew = w11 at HB HR277_1 HR277_2 HR278_1 HR278_2 hx277_0 hx277_1 hx277_2 hx278_0 hx278_1 hx278_2 hHeld ⊢
        refine pureA 0 17 (bz 10 1) rfl rfl (any_of HT_.out (by kernel_rfl)) ?_
        refine pureA 1 18 (bz 10 3) rfl rfl (any_of HT_.out (by kernel_rfl)) ?_
        refine pureA 2 19 (bz 10 7) rfl rfl (any_of HT_.out (by kernel_rfl)) ?_
        refine pureA 4 21 (bz 10 23) rfl rfl (any_of HT_.out (by kernel_rfl)) ?_
        refine pureA 5 22 (bz 10 55) rfl rfl (any_of HT_.out (by kernel_rfl)) ?_
        refine pureA 6 23 (bz 10 119) rfl rfl (any_of HT_.out (by kernel_rfl)) ?_
        refine takeA 3 20 (bz 10 127) rfl rfl (take_ofW HT_.out HW_.out (by kernel_rfl)) hHeld (by rintro w' ⟨s0, s1, s2, s3, s4, s5⟩; go_simp; with_reducible rfl) ?_
        refine takeA 7 24 (bz 10 255) rfl rfl (take_ofW HT_.out HW_.out (by kernel_rfl)) hHeld (by rintro w' ⟨s0, s1, s2, s3, s4, s5⟩; go_simp; with_reducible rfl) ?_
        refine one_ (i := 8) (N := some 25) (bz 10 511) rfl rfl (one_of HT_.out (by kernel_rfl)) (by decide) (fun K hK => ?_)
        refine goes_ Try.func20 (by kernel_rfl) rfl #[.agg #[.string ((rd_T41 l0 x5_1).f0), .slice A277_1 ((rd_T41 l0 x5_1).f1).length c277_1, .slice A277_2 ((rd_T41 l0 x5_1).f2).length c277_2], .agg #[.string ((rd_T41 l1 x5_1).f0), .slice A278_1 ((rd_T41 l1 x5_1).f1).length c278_1, .slice A278_2 ((rd_T41 l1 x5_1).f2).length c278_2]] (by rfl) rfl rfl aE ?_
        with_reducible refine (laws_eqAsset.calls k1 ((rd_T41 l0 x5_1).f0) _ _ ((rd_T41 l0 x5_1).f1) _ _ ((rd_T41 l0 x5_1).f2) ((rd_T41 l1 x5_1).f0) _ _ ((rd_T41 l1 x5_1).f1) _ _ ((rd_T41 l1 x5_1).f2) false _ ?side1 ?side2 ?side3 ?side4 ?side5 ?side6 ?side7 ?side8 A7.out).mono ?_
        (case side1 => exact cU (Kd.C_below HR277_1.out HB.out))
        (case side2 => exact HC277_1.out)
        (case side3 => exact cU (Kd.C_below HR277_2.out HB.out))
        (case side4 => exact HC277_2.out)
        (case side5 => exact cU (Kd.C_below HR278_1.out HB.out))
        (case side6 => exact HC278_1.out)
        (case side7 => exact cU (Kd.C_below HR278_2.out HB.out))
        (case side8 => exact HC278_2.out)
        rintro e w12 ⟨rfl, hb⟩
        refine ⟨_, rfl, ?_⟩
        replace HB := bH (lU) hb
        (try clear hb)
        (try clear hb2)
        (try clear hk)
        (try clear hi)
        refine hK.out _ _ ⟨((HB.out.cell (World.block_lt_of_cell? w _ hw277_0)).trans hw277_0), ((HB.out.cell (World.block_lt_of_cell? w _ hw277_1)).trans hw277_1), ((HB.out.cell (World.block_lt_of_cell? w _ hw277_2)).trans hw277_2), ((HB.out.cell (World.block_lt_of_cell? w _ hw278_0)).trans hw278_0), ((HB.out.cell (World.block_lt_of_cell? w _ hw278_1)).trans hw278_1), ((HB.out.cell (World.block_lt_of_cell? w _ hw278_2)).trans hw278_2)⟩ (fun hHeld => ?_)
        clear hK K
        refine norm_ (a' := ?_) ?_ ?_
        rotate_left
        ·show Act.put _ (some 25) _ = _
         simp only [Act.put, List.setIfInBounds_toArray, List.set_cons_zero, List.set_cons_succ, i64_w, i32_w]
         rfl
        refine pureA 9 26 (bz 10 1023) rfl rfl (any_of HT_.out (by kernel_rfl)) ?_
        refine done_ (done_of HT_.out (by kernel_rfl)) ?_
        try go_wp2
        go_ret
        exact ⟨eE, lU⟩
      ·rw [if_neg c6] at H
       exact absurd H (by simp)
     ·rw [if_neg c5] at H
      exact absurd H (by simp)
    ·rw [if_neg c4] at H
     have c4b0 : decide (x5_1 < (l0.length : Int)) = false := decide_eq_false c4
     clear c4
     obtain rfl := Option.some.inj H
     go_wp2
     go_ret
     exact ⟨eE, lU⟩
 ·rw [if_neg c3] at H
  have c3b0 : ((l0.length : Int) == (l1.length : Int)) = false := beq_eq_false_iff_ne.mpr c3
  have c3b1 : ((l0.length : Int) != (l1.length : Int)) = true := bne_iff_ne.mpr c3
  have c3b2 : (l0.length == l1.length) = false := by first | simpa using c3 | (simp at c3 ⊢; omega)
  obtain rfl := Option.some.inj H
  go_enter Try.func9, Try.ntmps9
  go_wp2
  go_ret
  exact ⟨eE, lU⟩
def laws_markText.l0 : Nat → Int → ByteArray → Option (ByteArray)
 | 0, _, _ => none
 | k + 1, x0, x3 => if x0 > 0 then ((some (([(wrap64 (48 + (Int.tmod x0 10))) % 256] : List Int) : List Int)).bind fun y280 => (if (strOfNums y280).size + x3.size ≤ 9223372036854775807 then (laws_markText.l0 k (wrap64 (Int.tdiv x0 10)) ((strOfNums y280) ++ x3)) else (none))) else (if 1 + x3.size ≤ 9223372036854775807 then (some ((⟨#[109]⟩ : ByteArray) ++ x3)) else (none))
def laws_markText.f (k : Nat) (a0 : Int) : Option (ByteArray) := if a0 ≤ 0 then (some (⟨#[109, 48]⟩ : ByteArray)) else (laws_markText.l0 k a0 (⟨#[]⟩ : ByteArray))
theorem laws_markText.mono_l : ∀ k, (∀ y0 y1, LeO (laws_markText.l0 k y0 y1) (laws_markText.l0 (k + 1) y0 y1))
 | 0 => fun _ _ r h => by simp [laws_markText.l0] at h
 | k + 1 => by
  have ih0 := laws_markText.mono_l k
  ·intro y0 y1
   unfold laws_markText.l0
   repeat' first
   | (with_reducible exact ih0 _ _)
   | (with_reducible first | exact LeO.refl _ | exact LeO.none _ | refine LeO.ite ?_ ?_ | refine LeO.bind ?_ (fun _ => ?_))
   | exact ih0 _ _ | exact LeO.none _ | refine LeO.ite ?_ ?_ | refine LeO.bind ?_ (fun _ => ?_)
theorem laws_markText.mono : ∀ a0 k, LeO (laws_markText.f k a0) (laws_markText.f (k + 1) a0) := by
 intro a0 k
 have ih0 := laws_markText.mono_l k
 unfold laws_markText.f
 repeat' first
   | (with_reducible exact ih0 _ _)
   | (with_reducible first | exact LeO.refl _ | exact LeO.none _ | refine LeO.ite ?_ ?_ | refine LeO.bind ?_ (fun _ => ?_))
   | exact ih0 _ _ | exact LeO.none _ | refine LeO.ite ?_ ?_ | refine LeO.bind ?_ (fun _ => ?_)
set_option maxHeartbeats 8000000 in
set_option maxRecDepth 100000 in
theorem laws_markText.calls (k : Nat) (a0 : Int) (r : ByteArray) (w : World) (h : laws_markText.f k a0 = some r) :
  Calls Try.prog 21 #[.int .i64 a0] w fun e w' => e = .returned (.string r) ∧ Below w.heap.size w w' := by
 have HB := Aside0.mk (Below.refl w.heap.size w)
 have H : (if a0 ≤ 0 then (some (⟨#[109, 48]⟩ : ByteArray)) else (laws_markText.l0 k a0 (⟨#[]⟩ : ByteArray))) = some r := h
 clear h
 by_cases c2 : a0 ≤ 0
 ·rw [if_pos c2] at H
  have c2b0 : decide (a0 ≤ 0) = true := decide_eq_true c2
  clear c2
  obtain rfl := Option.some.inj H
  go_enter Try.func21, Try.ntmps21
  go_wp2
  go_ret
  exact ⟨eE, lU⟩
 ·rw [if_neg c2] at H
  have c2b0 : decide (a0 ≤ 0) = false := decide_eq_false c2
  clear c2
  have H' := Aside0.mk H
  clear H
  go_enter Try.func21, Try.ntmps21
  go_wp2
  go_loopg [0, 3] k (fun kq v0 v3 w' => ∃ (x0_1 : Int) (x3_1 : ByteArray), v0 = .int .i64 x0_1 ∧ v3 = .string x3_1 ∧ Aside0 (laws_markText.l0 kq x0_1 x3_1 = some r) ∧ Aside0 (kq ≤ k) ∧ Aside0 (Below w.heap.size w w'))
  case atStart => exact ⟨(a0), ((⟨#[]⟩ : ByteArray)), tE, tE, H', ⟨Nat.le_refl _⟩, ⟨by repeat (first | (with_reducible first | exact HB.out | apply below_alloc | apply pw_below_drewN | apply below_drew1) | exact HB.out)⟩⟩
  case round =>
   clear H'
   try clear c2
   try clear c2b0
   try clear p2
   obtain ⟨x0_1, x3_1, rfl, rfl, HA, HK1, HB⟩ := hrel
   cases gk with
   | zero => exact absurd HA.out (by simp [laws_markText.l0])
   | succ k1 =>
    have H := HA.out
    clear HA
    simp only [laws_markText.l0] at H
    by_cases c3 : x0_1 > 0
    ·rw [if_pos c3] at H
     have c3b0 : decide (0 < x0_1) = true := decide_eq_true c3
     clear c3
     obtain ⟨y280, hy280⟩ : ∃ y_ : List Int, y_ = (([(wrap64 (48 + (Int.tmod x0_1 10))) % 256] : List Int)) := ⟨_, rfl⟩
     replace H : (if (strOfNums y280).size + x3_1.size ≤ 9223372036854775807 then (laws_markText.l0 k1 (wrap64 (Int.tdiv x0_1 10)) ((strOfNums y280) ++ x3_1)) else (none)) = some r := by first | (rw [hy280]; with_reducible exact H) | (have H2_ := (Option.bind_some _ _).symm.trans H; rw [hy280]; with_reducible exact H2_) | (have H2_ := (Option.bind_some _ _).symm.trans H; with_reducible exact H2_) | with_reducible exact H | (rw [hy280]; exact H) | exact H
     have Ny280 := Aside0.mk hy280
     clear hy280
     by_cases c4 : (strOfNums y280).size + x3_1.size ≤ 9223372036854775807
     ·rw [if_pos c4] at H
      have c4b0 := eq_true c4
      have c4b1 : decide ((strOfNums y280).size + x3_1.size ≤ 9223372036854775807) = true := decide_eq_true c4
      try have c4b2 : (9223372036854775807 < (strOfNums y280).size + x3_1.size) = False := eq_false (Nat.not_lt.2 c4)
      have H' := Aside0.mk H
      clear H
      go_wp2_with (first | ((with_reducible refine gate_dst (N := 12) rfl ?_); refine Kd.R_lit (Kd.int .u8) _ 5 ?hg (N := 12) ?hd (xs := ([(wrap64 (48 + (Int.tmod x0_1 10))) % 256] : List Int)) (inner := [.int .u8 ((wrap64 (48 + (Int.tmod x0_1 10))) % 256)]) (ok := fun _ => True) (okp := fun _ => True) ?hr ?hp (fun _ hk => hk) trivial (Below.refl _ _) (Nat.le_refl _) (by simp) ?_; (case hd => rfl); (case hg => rfl); (case hr => exact sE); (case hp => exact (Reps.one (show Kd.M (Kd.int .u8) _ _ _ ((wrap64 (48 + (Int.tmod x0_1 10))) % 256) [.int .u8 ((wrap64 (48 + (Int.tmod x0_1 10))) % 256)] from rfl) (Reps.none _ _))); intro v281 w5 ho6 hb hg_ hnew_; clear hg_ hnew_; (first | rw [← Ny280.out] at ho6 | (simp only [Int.reduceToNat] at ho6; rw [← Ny280.out] at ho6)); have HO282 := Aside0.mk (Kd.R_lower ho6 (below_size (lU))); replace HB := bH (lU) hb; clear hb ho6; have hcv7 := own_string (P := Try.prog) Try.underlying35 Try.underlying5 Try.underlying9 (Kd.own_of_R HO282.out)))
      go_roundg k1
      case measure => have := HK1.out; omega
      case rel => exact ⟨(wrap64 (Int.tdiv x0_1 10)), ((strOfNums y280) ++ x3_1), tE, tE, H', ⟨by have := HK1.out; omega⟩, ⟨by repeat (first | (with_reducible first | exact HB.out | apply below_alloc | apply pw_below_drewN | apply below_drew1) | exact HB.out)⟩⟩
     ·rw [if_neg c4] at H
      exact absurd H (by simp)
    ·rw [if_neg c3] at H
     have c3b0 : decide (0 < x0_1) = false := decide_eq_false c3
     clear c3
     by_cases c8 : 1 + x3_1.size ≤ 9223372036854775807
     ·rw [if_pos c8] at H
      have c8b0 := eq_true c8
      have c8b1 : decide (1 + x3_1.size ≤ 9223372036854775807) = true := decide_eq_true c8
      try have c8b2 : (9223372036854775807 < 1 + x3_1.size) = False := eq_false (Nat.not_lt.2 c8)
      obtain rfl := Option.some.inj H
      go_wp2
      go_ret
      exact ⟨eE, lU⟩
     ·rw [if_neg c8] at H
      exact absurd H (by simp)
def laws_markStringS.l0 : Nat → List ByteArray → Int → Int → Option (Int × List ByteArray)
 | 0, _, _, _ => none
 | k + 1, x0, x1, x5 => if x5 < (x0.length : Int) then ((laws_markText.f k x1).bind fun t283 => (if 0 ≤ x5 then (laws_markStringS.l0 k (x0.set (x5 : Int).toNat t283) (wrap64 (x1 + 1)) (wrap64 (x5 + 1))) else (none))) else (some (x1, x0))
def laws_markStringS.f (k : Nat) (l0 : List ByteArray) (a1 : Int) : Option (Int × List ByteArray) := laws_markStringS.l0 k l0 a1 0
theorem laws_markStringS.mono_l : ∀ k, (∀ y0 y1 y2, LeO (laws_markStringS.l0 k y0 y1 y2) (laws_markStringS.l0 (k + 1) y0 y1 y2))
 | 0 => fun _ _ _ r h => by simp [laws_markStringS.l0] at h
 | k + 1 => by
  have ih0 := laws_markStringS.mono_l k
  ·intro y0 y1 y2
   unfold laws_markStringS.l0
   repeat' first
   | (with_reducible exact ih0 _ _ _)
   | (with_reducible exact laws_markText.mono _ _)
   | (with_reducible first | exact LeO.refl _ | exact LeO.none _ | refine LeO.ite ?_ ?_ | refine LeO.bind ?_ (fun _ => ?_))
   | exact ih0 _ _ _
   | exact laws_markText.mono _ _ | exact LeO.none _ | refine LeO.ite ?_ ?_ | refine LeO.bind ?_ (fun _ => ?_)
theorem laws_markStringS.mono : ∀ a0 a1 k, LeO (laws_markStringS.f k a0 a1) (laws_markStringS.f (k + 1) a0 a1) := by
 intro a0 a1 k
 have ih0 := laws_markStringS.mono_l k
 unfold laws_markStringS.f
 repeat' first
   | (with_reducible exact ih0 _ _ _)
   | (with_reducible exact laws_markText.mono _ _)
   | (with_reducible first | exact LeO.refl _ | exact LeO.none _ | refine LeO.ite ?_ ?_ | refine LeO.bind ?_ (fun _ => ?_))
   | exact ih0 _ _ _
   | exact laws_markText.mono _ _ | exact LeO.none _ | refine LeO.ite ?_ ?_ | refine LeO.bind ?_ (fun _ => ?_)
set_option maxHeartbeats 8000000 in
set_option maxRecDepth 100000 in
theorem laws_markStringS.calls (k : Nat) (P0_ : Nat → Prop) (u9000_ : Value) (l0 : List ByteArray) (a1 : Int) (r1 : Int) (r2 : List ByteArray) (w0 w : World) (hB : Below w0.heap.size w0 w) (ho0 : Kd.R Kd.string 9 w w0.heap.size P0_ u9000_ l0) (h : laws_markStringS.f k l0 a1 = some (r1, r2)) :
  Calls Try.prog 11 #[u9000_, .int .i64 a1] w fun e w' => e = .returned (.int .i64 r1) ∧ Kd.R Kd.string 9 w' w0.heap.size (fun k_ => (P0_ k_ ∨ w.heap.size ≤ k_)) u9000_ r2 ∧ Below w0.heap.size w0 w' ∧ Kept w w' (fun k_ => P0_ k_) := by
 have HO0 := Aside0.mk (show Kd.R Kd.string 9 w w0.heap.size (fun k_ => (P0_ k_ ∨ w.heap.size ≤ k_)) u9000_ l0 from Kd.R_mono ho0 (fun k_ hk => (.inl hk)))
 have HK := Aside0.mk (Kept.refl w (fun k_ => P0_ k_))
 have HW0 := Aside0.mk hB.size
 have HB := Aside0.mk hB
 clear hB
 have H : (laws_markStringS.l0 k l0 a1 0) = some (r1, r2) := h
 clear h
 have H' := Aside0.mk H
 clear H
 go_enter Try.func11, Try.ntmps11
 go_wp2
 go_loopg [1, 5] k (fun kq v1 v5 w' => ∃ (x0_1 : List ByteArray) (x1_1 : Int) (x5_1 : Int), v1 = .int .i64 x1_1 ∧ v5 = .int .i64 x5_1 ∧ Aside0 (laws_markStringS.l0 kq x0_1 x1_1 x5_1 = some (r1, r2)) ∧ Aside0 (kq ≤ k) ∧ Aside0 (Kd.R Kd.string 9 w' w0.heap.size (fun k_ => (P0_ k_ ∨ w.heap.size ≤ k_)) u9000_ x0_1) ∧ Aside0 (Kept w w' (fun k_ => P0_ k_)) ∧ Aside0 (Below w0.heap.size w0 w'))
 case atStart => exact ⟨(l0), (a1), (0), tE, tE, H', ⟨Nat.le_refl _⟩, ⟨by (with_reducible repeat (first | apply Kd.R_alloc | apply Kd.R_drewN | apply Kd.R_drew)); exact HO0.out⟩, ⟨by repeat (first | (with_reducible first | exact HK.out | apply Kept.alloc | apply Kept.drewN | apply Kept.drew) | exact HK.out)⟩, ⟨by repeat (first | (with_reducible first | exact HB.out | apply below_alloc | apply pw_below_drewN | apply below_drew1) | exact HB.out)⟩⟩
 case round =>
  clear H'
  try clear c1
  try clear p2
  obtain ⟨x0_1, x1_1, x5_1, rfl, rfl, HA, HK1, HO_0, HK, HB⟩ := hrel
  cases gk with
  | zero => exact absurd HA.out (by simp [laws_markStringS.l0])
  | succ k1 =>
   have H := HA.out
   clear HA
   simp only [laws_markStringS.l0] at H
   by_cases c3 : x5_1 < (x0_1.length : Int)
   ·rw [if_pos c3] at H
    have c3b0 : decide (x5_1 < (x0_1.length : Int)) = true := decide_eq_true c3
    clear c3
    replace H := Option.bind_eq_some_iff.mp H
    obtain ⟨t283, A40, H⟩ := H
    replace H : (if 0 ≤ x5_1 then (laws_markStringS.l0 k1 (x0_1.set (x5_1 : Int).toNat t283) (wrap64 (x1_1 + 1)) (wrap64 (x5_1 + 1))) else (none)) = some (r1, r2) := H
    have A4 := Aside0.mk A40
    clear A40
    by_cases c5 : 0 ≤ x5_1
    ·rw [if_pos c5] at H
     have c5b0 : decide (0 ≤ x5_1) = true := decide_eq_true c5
     clear c5
     obtain ⟨y284, hy284⟩ : ∃ y_ : List ByteArray, y_ = (x0_1.set (x5_1 : Int).toNat t283) := ⟨_, rfl⟩
     replace H : (laws_markStringS.l0 k1 y284 (wrap64 (x1_1 + 1)) (wrap64 (x5_1 + 1))) = some (r1, r2) := by first | (rw [hy284]; with_reducible exact H) | (have H2_ := (Option.bind_some _ _).symm.trans H; rw [hy284]; with_reducible exact H2_) | (have H2_ := (Option.bind_some _ _).symm.trans H; with_reducible exact H2_) | with_reducible exact H | (rw [hy284]; exact H) | exact H
     have Ny284 := Aside0.mk hy284
     clear hy284
     have H' := Aside0.mk H
     clear H
     obtain ⟨Ao7, co7, eo7⟩ := Kd.R_slice HO_0.out
     subst eo7
     go_wp2_with (first | ((with_reducible refine gate_callee (f := 21) rfl ?_); refine goesL_ (some 15) rfl rfl Try.func21 (by kernel_rfl) rfl #[.int .i64 x1_1] rfl aE ?_; (with_reducible refine (laws_markText.calls k1 x1_1 t283 _ A4.out).mono ?_); rintro e w8 ⟨rfl, hb⟩; refine ⟨_, rfl, ?_⟩; replace HO_0 := Aside0.mk (Kd.R_below (rU HO_0.out) hb); replace HK := Aside0.mk (Kept.below (S := (fun k_ => P0_ k_)) (by repeat (first | (with_reducible first | exact HK.out | apply Kept.alloc | apply Kept.drewN | apply Kept.drew) | exact HK.out)) hb); replace HB := bH (lU) hb; (try clear hb); have p6 : 0 ≤ (x5_1 : Int) := of_decide_eq_true hE; have q6 : (x5_1 : Int) < ((x0_1.length : Int) : Int) := of_decide_eq_true hE; obtain ⟨go6, co6, eo6, gb6, gl6, cl6, HG6⟩ := Kd.R_form HO_0.out (by omega); (first | cases eo6 | (injection eo6 with ea_ en_ ec_; (first | subst ea_ | (injection ea_ with ea_; subst ea_)); subst ec_; clear en_)); have GB6 := Aside0.mk gb6; have GG6 := Aside0.mk HG6; clear gb6 gl6 HG6; have HMgo6 := Aside0.mk (show (P0_ go6 ∨ w.heap.size ≤ go6) from (HO_0.out.1 _ rfl)); obtain ⟨hx6_0, hf6_0⟩ := Kd.R_celln (⟨#[]⟩ : ByteArray) HO_0.out (x5_1 : Int) p6 q6; replace p6 := eq_true p6; replace q6 := eq_true q6; obtain ⟨hy9_, hz9_⟩ := Kd.R_celln (⟨#[]⟩ : ByteArray) HO_0.out (x5_1 : Int) (of_decide_eq_true hE) (of_decide_eq_true hE); have HP9 := Kd.R_putg HO_0.out (x5_1 : Int) t283) | ((with_reducible refine gate_store (t := 9) (p := 16) rfl ?_); refine store_event (t := 9) (p := 16) (v := ?vo_w10) (w1 := (w8.setCell ⟨go6, (x5_1 : Int).toNat, none⟩ (.string t283))) ?hg ?ho ?hn ?hr ?_; (case ho => rfl); (case hg => rfl); (case hn => rfl); (case hr => exact sE); intro w10 hw; have hg : w8.grownBy w10 (some go6) := (by rw [hw]; exact HP9.2); have hp_ : Kd.R Kd.string 9 w10 w0.heap.size (fun k_ => (P0_ k_ ∨ w.heap.size ≤ k_)) (.slice (some ⟨go6, 0, none⟩) x0_1.length co7) y284 := (by rw [hw, Ny284.out]; exact HP9.1); clear HP9; replace HB := Aside0.mk ((by rw [hw]; exact below_set (HB.out) GB6.out : Below w0.heap.size w0 w10)); replace HK := Aside0.mk (Kept.of_grown (S := (fun k_ => P0_ k_)) hg (by repeat (first | (with_reducible first | exact HK.out | apply Kept.alloc | apply Kept.drewN | apply Kept.drew) | exact HK.out)) (fun k_ e_ => (HO_0.out.1 k_ e_))); replace HO_0 := Aside0.mk hp_; clear hg hw hp_))
     go_roundg k1
     case measure => have := HK1.out; omega
     case rel => exact ⟨(y284), (wrap64 (x1_1 + 1)), (wrap64 (x5_1 + 1)), tE, tE, H', ⟨by have := HK1.out; omega⟩, ⟨by (with_reducible repeat (first | apply Kd.R_alloc | apply Kd.R_drewN | apply Kd.R_drew)); exact HO_0.out⟩, ⟨by repeat (first | (with_reducible first | exact HK.out | apply Kept.alloc | apply Kept.drewN | apply Kept.drew) | exact HK.out)⟩, ⟨by repeat (first | (with_reducible first | exact HB.out | apply below_alloc | apply pw_below_drewN | apply below_drew1) | exact HB.out)⟩⟩
    ·rw [if_neg c5] at H
     exact absurd H (by simp)
   ·rw [if_neg c3] at H
    have c3b0 : decide (x5_1 < (x0_1.length : Int)) = false := decide_eq_false c3
    clear c3
    simp only [Option.some.injEq, Prod.mk.injEq] at H
    obtain ⟨rfl, rfl⟩ := H
    obtain ⟨Ao11, co11, eo11⟩ := Kd.R_slice HO_0.out
    subst eo11
    go_wp2
    go_ret
    exact ⟨eE, by (with_reducible repeat (first | apply Kd.R_alloc | apply Kd.R_drewN | apply Kd.R_drew)); exact HO_0.out, lU, by repeat (first | (with_reducible first | exact HK.out | apply Kept.alloc | apply Kept.drewN | apply Kept.drew) | exact HK.out)⟩
def laws_markByteS.l0 : Nat → List Int → Int → Int → Option (Int × List Int)
 | 0, _, _, _ => none
 | k + 1, x0, x1, x5 => if x5 < (x0.length : Int) then (if 0 ≤ x5 then (laws_markByteS.l0 k (x0.set (x5 : Int).toNat ((x1) % 256)) (wrap64 (x1 + 1)) (wrap64 (x5 + 1))) else (none)) else (some (x1, x0))
def laws_markByteS.f (k : Nat) (l0 : List Int) (a1 : Int) : Option (Int × List Int) := laws_markByteS.l0 k l0 a1 0
theorem laws_markByteS.mono_l : ∀ k, (∀ y0 y1 y2, LeO (laws_markByteS.l0 k y0 y1 y2) (laws_markByteS.l0 (k + 1) y0 y1 y2))
 | 0 => fun _ _ _ r h => by simp [laws_markByteS.l0] at h
 | k + 1 => by
  have ih0 := laws_markByteS.mono_l k
  ·intro y0 y1 y2
   unfold laws_markByteS.l0
   repeat' first
   | (with_reducible exact ih0 _ _ _)
   | (with_reducible first | exact LeO.refl _ | exact LeO.none _ | refine LeO.ite ?_ ?_ | refine LeO.bind ?_ (fun _ => ?_))
   | exact ih0 _ _ _ | exact LeO.none _ | refine LeO.ite ?_ ?_ | refine LeO.bind ?_ (fun _ => ?_)
theorem laws_markByteS.mono : ∀ a0 a1 k, LeO (laws_markByteS.f k a0 a1) (laws_markByteS.f (k + 1) a0 a1) := by
 intro a0 a1 k
 have ih0 := laws_markByteS.mono_l k
 unfold laws_markByteS.f
 repeat' first
   | (with_reducible exact ih0 _ _ _)
   | (with_reducible first | exact LeO.refl _ | exact LeO.none _ | refine LeO.ite ?_ ?_ | refine LeO.bind ?_ (fun _ => ?_))
   | exact ih0 _ _ _ | exact LeO.none _ | refine LeO.ite ?_ ?_ | refine LeO.bind ?_ (fun _ => ?_)
set_option maxHeartbeats 8000000 in
set_option maxRecDepth 100000 in
theorem laws_markByteS.calls (k : Nat) (P0_ : Nat → Prop) (u9000_ : Value) (l0 : List Int) (a1 : Int) (r1 : Int) (r2 : List Int) (w0 w : World) (hB : Below w0.heap.size w0 w) (ho0 : Kd.R (Kd.int .u8) 5 w w0.heap.size P0_ u9000_ l0) (h : laws_markByteS.f k l0 a1 = some (r1, r2)) :
  Calls Try.prog 22 #[u9000_, .int .i64 a1] w fun e w' => e = .returned (.int .i64 r1) ∧ Kd.R (Kd.int .u8) 5 w' w0.heap.size (fun k_ => (P0_ k_ ∨ w.heap.size ≤ k_)) u9000_ r2 ∧ Below w0.heap.size w0 w' ∧ Kept w w' (fun k_ => P0_ k_) := by
 have HO0 := Aside0.mk (show Kd.R (Kd.int .u8) 5 w w0.heap.size (fun k_ => (P0_ k_ ∨ w.heap.size ≤ k_)) u9000_ l0 from Kd.R_mono ho0 (fun k_ hk => (.inl hk)))
 have HK := Aside0.mk (Kept.refl w (fun k_ => P0_ k_))
 have HW0 := Aside0.mk hB.size
 have HB := Aside0.mk hB
 clear hB
 have H : (laws_markByteS.l0 k l0 a1 0) = some (r1, r2) := h
 clear h
 have H' := Aside0.mk H
 clear H
 go_enter Try.func22, Try.ntmps22
 go_wp2
 go_loopg [1, 5] k (fun kq v1 v5 w' => ∃ (x0_1 : List Int) (x1_1 : Int) (x5_1 : Int), v1 = .int .i64 x1_1 ∧ v5 = .int .i64 x5_1 ∧ Aside0 (laws_markByteS.l0 kq x0_1 x1_1 x5_1 = some (r1, r2)) ∧ Aside0 (kq ≤ k) ∧ Aside0 (Kd.R (Kd.int .u8) 5 w' w0.heap.size (fun k_ => (P0_ k_ ∨ w.heap.size ≤ k_)) u9000_ x0_1) ∧ Aside0 (Kept w w' (fun k_ => P0_ k_)) ∧ Aside0 (Below w0.heap.size w0 w'))
 case atStart => exact ⟨(l0), (a1), (0), tE, tE, H', ⟨Nat.le_refl _⟩, ⟨by (with_reducible repeat (first | apply Kd.R_alloc | apply Kd.R_drewN | apply Kd.R_drew)); exact HO0.out⟩, ⟨by repeat (first | (with_reducible first | exact HK.out | apply Kept.alloc | apply Kept.drewN | apply Kept.drew) | exact HK.out)⟩, ⟨by repeat (first | (with_reducible first | exact HB.out | apply below_alloc | apply pw_below_drewN | apply below_drew1) | exact HB.out)⟩⟩
 case round =>
  clear H'
  try clear c2
  try clear p2
  obtain ⟨x0_1, x1_1, x5_1, rfl, rfl, HA, HK1, HO_0, HK, HB⟩ := hrel
  cases gk with
  | zero => exact absurd HA.out (by simp [laws_markByteS.l0])
  | succ k1 =>
   have H := HA.out
   clear HA
   simp only [laws_markByteS.l0] at H
   by_cases c3 : x5_1 < (x0_1.length : Int)
   ·rw [if_pos c3] at H
    have c3b0 : decide (x5_1 < (x0_1.length : Int)) = true := decide_eq_true c3
    clear c3
    by_cases c4 : 0 ≤ x5_1
    ·rw [if_pos c4] at H
     have c4b0 : decide (0 ≤ x5_1) = true := decide_eq_true c4
     clear c4
     obtain ⟨y285, hy285⟩ : ∃ y_ : List Int, y_ = (x0_1.set (x5_1 : Int).toNat ((x1_1) % 256)) := ⟨_, rfl⟩
     replace H : (laws_markByteS.l0 k1 y285 (wrap64 (x1_1 + 1)) (wrap64 (x5_1 + 1))) = some (r1, r2) := by first | (rw [hy285]; with_reducible exact H) | (have H2_ := (Option.bind_some _ _).symm.trans H; rw [hy285]; with_reducible exact H2_) | (have H2_ := (Option.bind_some _ _).symm.trans H; with_reducible exact H2_) | with_reducible exact H | (rw [hy285]; exact H) | exact H
     have Ny285 := Aside0.mk hy285
     clear hy285
     have H' := Aside0.mk H
     clear H
     obtain ⟨Ao6, co6, eo6⟩ := Kd.R_slice HO_0.out
     subst eo6
     have p5 : 0 ≤ (x5_1 : Int) := of_decide_eq_true hE
     have q5 : (x5_1 : Int) < ((x0_1.length : Int) : Int) := of_decide_eq_true hE
     obtain ⟨go5, co5, eo5, gb5, gl5, cl5, HG5⟩ := Kd.R_form HO_0.out (by omega)
     (first | cases eo5 | (injection eo5 with ea_ en_ ec_; (first | subst ea_ | (injection ea_ with ea_; subst ea_)); subst ec_; clear en_))
     have GB5 := Aside0.mk gb5
     have GG5 := Aside0.mk HG5
     clear gb5 gl5 HG5
     have HMgo5 := Aside0.mk (show (P0_ go5 ∨ w.heap.size ≤ go5) from (HO_0.out.1 _ rfl))
     obtain ⟨hx5_0, hf5_0⟩ := Kd.R_celln 0 HO_0.out (x5_1 : Int) p5 q5
     replace p5 := eq_true p5
     replace q5 := eq_true q5
     have HP7 := Kd.R_putg HO_0.out (x5_1 : Int) ((x1_1) % 256)
     go_wp2_with (first | ((with_reducible refine gate_store (t := 5) (p := 16) rfl ?_); refine store_event (t := 5) (p := 16) (v := ?vo_w8) (w1 := (wr.setCell ⟨go5, (x5_1 : Int).toNat, none⟩ (.int .u8 ((x1_1) % 256)))) ?hg ?ho ?hn ?hr ?_; (case ho => rfl); (case hg => rfl); (case hn => rfl); (case hr => exact sE); intro w8 hw; have hg : wr.grownBy w8 (some go5) := (by rw [hw]; exact HP7.2); have hp_ : Kd.R (Kd.int .u8) 5 w8 w0.heap.size (fun k_ => (P0_ k_ ∨ w.heap.size ≤ k_)) (.slice (some ⟨go5, 0, none⟩) x0_1.length co6) y285 := (by rw [hw, Ny285.out]; exact HP7.1); clear HP7; replace HB := Aside0.mk ((by rw [hw]; exact below_set (HB.out) GB5.out : Below w0.heap.size w0 w8)); replace HK := Aside0.mk (Kept.of_grown (S := (fun k_ => P0_ k_)) hg (by repeat (first | (with_reducible first | exact HK.out | apply Kept.alloc | apply Kept.drewN | apply Kept.drew) | exact HK.out)) (fun k_ e_ => (HO_0.out.1 k_ e_))); replace HO_0 := Aside0.mk hp_; clear hg hw hp_))
     go_roundg k1
     case measure => have := HK1.out; omega
     case rel => exact ⟨(y285), (wrap64 (x1_1 + 1)), (wrap64 (x5_1 + 1)), tE, tE, H', ⟨by have := HK1.out; omega⟩, ⟨by (with_reducible repeat (first | apply Kd.R_alloc | apply Kd.R_drewN | apply Kd.R_drew)); exact HO_0.out⟩, ⟨by repeat (first | (with_reducible first | exact HK.out | apply Kept.alloc | apply Kept.drewN | apply Kept.drew) | exact HK.out)⟩, ⟨by repeat (first | (with_reducible first | exact HB.out | apply below_alloc | apply pw_below_drewN | apply below_drew1) | exact HB.out)⟩⟩
    ·rw [if_neg c4] at H
     exact absurd H (by simp)
   ·rw [if_neg c3] at H
    have c3b0 : decide (x5_1 < (x0_1.length : Int)) = false := decide_eq_false c3
    clear c3
    simp only [Option.some.injEq, Prod.mk.injEq] at H
    obtain ⟨rfl, rfl⟩ := H
    obtain ⟨Ao9, co9, eo9⟩ := Kd.R_slice HO_0.out
    subst eo9
    go_wp2
    go_ret
    exact ⟨eE, by (with_reducible repeat (first | apply Kd.R_alloc | apply Kd.R_drewN | apply Kd.R_drew)); exact HO_0.out, lU, by repeat (first | (with_reducible first | exact HK.out | apply Kept.alloc | apply Kept.drewN | apply Kept.drew) | exact HK.out)⟩
end Go.Proofs.Ytehkpnnidbghhab.PFnExactStaleBetween
