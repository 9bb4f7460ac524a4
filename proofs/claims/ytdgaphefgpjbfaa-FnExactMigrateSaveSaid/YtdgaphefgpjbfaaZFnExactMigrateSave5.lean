/- Texts of a row. -/
import Derived.Test.YtdgaphefgpjbfaaZFnExactMigrateSave3
namespace Go.Proofs.Ytdgaphefgpjbfaa.PFnExactMigrateSave
open Go.RowKit Go.Proofs.YtdgaphefgpjbfaaW.PrintWords Go.Proofs.YtdgaphefgpjbfaaW.PrintLast Go.Proofs.YtdgaphefgpjbfaaW.PrintMore
attribute [local go_sem] max2_int min2_int max_two min_two max_three min_three max_four min_four   -- for this text's walks alone
set_option linter.unusedVariables false
set_option linter.unusedSimpArgs false
def laws_toValue.f (a0_0 : ByteArray) (a0_1 : Int) (a0_2 : ByteArray) : Option (ByteArray × Int × ByteArray) := some (a0_0, a0_1, a0_2)
set_option maxHeartbeats 8000000 in
set_option maxRecDepth 100000 in
theorem laws_toValue.calls (a0_0 : ByteArray) (a0_1 : Int) (a0_2 : ByteArray) (r1 : ByteArray) (r2 : Int) (r3 : ByteArray) (w : World) (h : laws_toValue.f a0_0 a0_1 a0_2 = some (r1, r2, r3)) :
  Calls Try.prog 33 #[.agg #[.string a0_0, .int .i64 a0_1, .string a0_2]] w fun e w' => e = .returned (.agg #[.string r1, .int .i64 r2, .string r3]) ∧ Below w.heap.size w w' := by
 have hu49 := Try.underlying49
 have hu59 := Try.underlying59
 have HB := Aside0.mk (Below.refl w.heap.size w)
 have H : (some (a0_0, a0_1, a0_2)) = some (r1, r2, r3) := h
 clear h
 simp only [Option.some.injEq, Prod.mk.injEq] at H
 obtain ⟨rfl, rfl, rfl⟩ := H
 go_enter Try.func33, Try.ntmps33
 go_wp2_with (first | ((with_reducible refine gate_dst (N := 1) rfl ?_); refine box_event rfl (N := 1) rfl (cs := #[.string a0_0, .int .i64 a0_1, .string a0_2]) (t := 49) sE ?_; intro gb217 hg w2 hbox hb; have BK217 := Aside0.mk hbox; have GW217 := gS w hg (lU); have GE217 := gS w hg (lU); replace HB := bH (lU) hb; clear hb hbox hg) | ((with_reducible refine gate_dst (N := 2) rfl ?_); refine box_event rfl (N := 2) rfl (cs := #[.string (⟨#[]⟩ : ByteArray), .int .i64 0, .string (⟨#[]⟩ : ByteArray)]) (t := 59) sE ?_; intro gb218 hg w3 hbox hb; have BK218 := Aside0.mk hbox; have GW218 := gS w hg (lV1 GE217); have GE218 := gS w hg (lV1 GE217); replace HB := bH (lV1 GE217) hb; have NB217_218 := nL hg (bV BK217); have NB218_217 := nG hg (bV BK217); replace BK217 := bB (bV BK217) hb; clear hb hbox hg) | ((with_reducible refine gate_dst (N := 3) rfl ?_); refine box_event rfl (N := 3) rfl (cs := #[.string (⟨#[]⟩ : ByteArray), .int .i64 0, .string (⟨#[]⟩ : ByteArray)]) (t := 59) sE ?_; intro gb219 hg w4 hbox hb; have BK219 := Aside0.mk hbox; have GW219 := gS w hg (lV2 GE217 GE218); have GE219 := gS w hg (lV2 GE217 GE218); replace HB := bH (lV2 GE217 GE218) hb; have NB217_219 := nL hg (bV BK217); have NB219_217 := nG hg (bV BK217); replace BK217 := bB (bV BK217) hb; have NB218_219 := nL hg (bV BK218); have NB219_218 := nG hg (bV BK218); replace BK218 := bB (bV BK218) hb; clear hb hbox hg; have hnb5 := NB217_218.out; have hnc5 := NB218_217.out; have hnb6 := NB217_219.out; have hnc6 := NB219_217.out; have hcz7_0 := cz BK217 0 (.string a0_0); have hcz7_1 := cz BK217 1 (.int .i64 a0_1); have hcz7_2 := cz BK217 2 (.string a0_2); have hfz7_0 := fz BK217 0; have hfz7_1 := fz BK217 1; have hfz7_2 := fz BK217 2; have hnb8 := NB219_218.out; have hnc8 := NB218_219.out; have hcz9_0 := cz BK219 0 (.string (⟨#[]⟩ : ByteArray)); have hcz9_1 := cz BK219 1 (.int .i64 0); have hcz9_2 := cz BK219 2 (.string (⟨#[]⟩ : ByteArray)); have hfz9_0 := fz BK219 0; have hfz9_1 := fz BK219 1; have hfz9_2 := fz BK219 2) | ((with_reducible refine gate_store (t := 9) (p := 6) rfl ?_); refine store_event (t := 9) (p := 6) (v := ?vo_w10) (w1 := (w4.setCell ⟨gb219, 0, none⟩ (.string a0_0))) ?hg ?ho ?hn ?hr ?_; (case ho => rfl); (case hg => rfl); (case hn => rfl); (case hr => first | (go_simp; done) | (go_simp; rfl) | (have hq0_ := (blk_cell BK219.out 0).trans (show _ = some _ from rfl); have hf0_ := blk_frozen BK219.out 0; first | (go_simp; done) | (go_simp; rfl))); intro w10 hw; replace BK217 : Aside0 (w10.heap[gb217]? = some (.cells #[.string a0_0, .int .i64 a0_1, .string a0_2] 49 (0, 0))) := ⟨(by rw [hw]; exact (bG NB217_219 BK217))⟩; replace BK218 : Aside0 (w10.heap[gb218]? = some (.cells #[.string (⟨#[]⟩ : ByteArray), .int .i64 0, .string (⟨#[]⟩ : ByteArray)] 59 (0, 0))) := ⟨(by rw [hw]; exact (bG NB218_219 BK218))⟩; replace BK219 : Aside0 (w10.heap[gb219]? = some (.cells #[.string a0_0, .int .i64 0, .string (⟨#[]⟩ : ByteArray)] 59 (0, 0))) := ⟨(by rw [hw]; exact (by refine bU ?_; refine blk_put (cs := #[.string (⟨#[]⟩ : ByteArray), .int .i64 0, .string (⟨#[]⟩ : ByteArray)]) ?_ 0 _ rfl; refine bU ?_; exact BK219.out))⟩; replace HB : Aside0 (Below w.heap.size w w10) := ⟨(by rw [hw]; exact (lV3 GE217 GE218 GE219))⟩; clear hw; have hcz11_0 := cz BK217 0 (.string a0_0); have hcz11_1 := cz BK217 1 (.int .i64 a0_1); have hcz11_2 := cz BK217 2 (.string a0_2); have hfz11_0 := fz BK217 0; have hfz11_1 := fz BK217 1; have hfz11_2 := fz BK217 2; have hcz12_0 := cz BK219 0 (.string a0_0); have hcz12_1 := cz BK219 1 (.int .i64 0); have hcz12_2 := cz BK219 2 (.string (⟨#[]⟩ : ByteArray)); have hfz12_0 := fz BK219 0; have hfz12_1 := fz BK219 1; have hfz12_2 := fz BK219 2) | ((with_reducible refine gate_store (t := 3) (p := 9) rfl ?_); refine store_event (t := 3) (p := 9) (v := ?vo_w13) (w1 := (w10.setCell ⟨gb219, 1, none⟩ (.int .i64 a0_1))) ?hg ?ho ?hn ?hr ?_; (case ho => rfl); (case hg => rfl); (case hn => rfl); (case hr => first | (go_simp; done) | (go_simp; rfl) | (have hq0_ := (blk_cell BK219.out 1).trans (show _ = some _ from rfl); have hf0_ := blk_frozen BK219.out 1; first | (go_simp; done) | (go_simp; rfl))); intro w13 hw; replace BK217 : Aside0 (w13.heap[gb217]? = some (.cells #[.string a0_0, .int .i64 a0_1, .string a0_2] 49 (0, 0))) := ⟨(by rw [hw]; exact (bG NB217_219 BK217))⟩; replace BK218 : Aside0 (w13.heap[gb218]? = some (.cells #[.string (⟨#[]⟩ : ByteArray), .int .i64 0, .string (⟨#[]⟩ : ByteArray)] 59 (0, 0))) := ⟨(by rw [hw]; exact (bG NB218_219 BK218))⟩; replace BK219 : Aside0 (w13.heap[gb219]? = some (.cells #[.string a0_0, .int .i64 a0_1, .string (⟨#[]⟩ : ByteArray)] 59 (0, 0))) := ⟨(by rw [hw]; exact (by refine bU ?_; refine blk_put (cs := #[.string a0_0, .int .i64 0, .string (⟨#[]⟩ : ByteArray)]) ?_ 1 _ rfl; refine bU ?_; exact BK219.out))⟩; replace HB : Aside0 (Below w.heap.size w w13) := ⟨(by rw [hw]; exact (lV3 GE217 GE218 GE219))⟩; clear hw; have hcz14_0 := cz BK217 0 (.string a0_0); have hcz14_1 := cz BK217 1 (.int .i64 a0_1); have hcz14_2 := cz BK217 2 (.string a0_2); have hfz14_0 := fz BK217 0; have hfz14_1 := fz BK217 1; have hfz14_2 := fz BK217 2; have hcz15_0 := cz BK219 0 (.string a0_0); have hcz15_1 := cz BK219 1 (.int .i64 a0_1); have hcz15_2 := cz BK219 2 (.string (⟨#[]⟩ : ByteArray)); have hfz15_0 := fz BK219 0; have hfz15_1 := fz BK219 1; have hfz15_2 := fz BK219 2) | ((with_reducible refine gate_store (t := 9) (p := 12) rfl ?_); refine store_event (t := 9) (p := 12) (v := ?vo_w16) (w1 := (w13.setCell ⟨gb219, 2, none⟩ (.string a0_2))) ?hg ?ho ?hn ?hr ?_; (case ho => rfl); (case hg => rfl); (case hn => rfl); (case hr => first | (go_simp; done) | (go_simp; rfl) | (have hq0_ := (blk_cell BK219.out 2).trans (show _ = some _ from rfl); have hf0_ := blk_frozen BK219.out 2; first | (go_simp; done) | (go_simp; rfl))); intro w16 hw; replace BK217 : Aside0 (w16.heap[gb217]? = some (.cells #[.string a0_0, .int .i64 a0_1, .string a0_2] 49 (0, 0))) := ⟨(by rw [hw]; exact (bG NB217_219 BK217))⟩; replace BK218 : Aside0 (w16.heap[gb218]? = some (.cells #[.string (⟨#[]⟩ : ByteArray), .int .i64 0, .string (⟨#[]⟩ : ByteArray)] 59 (0, 0))) := ⟨(by rw [hw]; exact (bG NB218_219 BK218))⟩; replace BK219 : Aside0 (w16.heap[gb219]? = some (.cells #[.string a0_0, .int .i64 a0_1, .string a0_2] 59 (0, 0))) := ⟨(by rw [hw]; exact (by refine bU ?_; refine blk_put (cs := #[.string a0_0, .int .i64 a0_1, .string (⟨#[]⟩ : ByteArray)]) ?_ 2 _ rfl; refine bU ?_; exact BK219.out))⟩; replace HB : Aside0 (Below w.heap.size w w16) := ⟨(by rw [hw]; exact (lV3 GE217 GE218 GE219))⟩; clear hw; have hcz17_0 := cz BK219 0 (.string a0_0); have hcz17_1 := cz BK219 1 (.int .i64 a0_1); have hcz17_2 := cz BK219 2 (.string a0_2); have hfz17_0 := fz BK219 0; have hfz17_1 := fz BK219 1; have hfz17_2 := fz BK219 2; have hcz18_0 := cz BK218 0 (.string (⟨#[]⟩ : ByteArray)); have hcz18_1 := cz BK218 1 (.int .i64 0); have hcz18_2 := cz BK218 2 (.string (⟨#[]⟩ : ByteArray)); have hfz18_0 := fz BK218 0; have hfz18_1 := fz BK218 1; have hfz18_2 := fz BK218 2) | ((with_reducible refine gate_store (t := 59) (p := 2) rfl ?_); refine store_event (t := 59) (p := 2) (v := ?vo_w19) (w1 := (((w16.setCell ⟨gb218, 0, none⟩ (.string a0_0)).setCell ⟨gb218, 1, none⟩ (.int .i64 a0_1)).setCell ⟨gb218, 2, none⟩ (.string a0_2))) ?hg ?ho ?hn ?hr ?_; (case ho => rfl); (case hg => rfl); (case hn => rfl); (case hr => first | (go_simp; done) | (go_simp; rfl) | (have hq0_ := (blk_cell BK218.out 0).trans (show _ = some _ from rfl); have hf0_ := blk_frozen BK218.out 0; have hq1_ := (blk_cell BK218.out 1).trans (show _ = some _ from rfl); have hf1_ := blk_frozen BK218.out 1; have hq2_ := (blk_cell BK218.out 2).trans (show _ = some _ from rfl); have hf2_ := blk_frozen BK218.out 2; first | (go_simp; done) | (go_simp; rfl))); intro w19 hw; replace BK217 : Aside0 (w19.heap[gb217]? = some (.cells #[.string a0_0, .int .i64 a0_1, .string a0_2] 49 (0, 0))) := ⟨(by rw [hw]; exact (bG NB217_218 BK217))⟩; replace BK218 : Aside0 (w19.heap[gb218]? = some (.cells #[.string a0_0, .int .i64 a0_1, .string a0_2] 59 (0, 0))) := ⟨(by rw [hw]; exact (by refine bU ?_; refine blk_put (cs := #[.string a0_0, .int .i64 a0_1, .string (⟨#[]⟩ : ByteArray)]) ?_ 2 _ rfl; refine bU ?_; refine blk_put (cs := #[.string a0_0, .int .i64 0, .string (⟨#[]⟩ : ByteArray)]) ?_ 1 _ rfl; refine bU ?_; refine blk_put (cs := #[.string (⟨#[]⟩ : ByteArray), .int .i64 0, .string (⟨#[]⟩ : ByteArray)]) ?_ 0 _ rfl; refine bU ?_; exact BK218.out))⟩; replace BK219 : Aside0 (w19.heap[gb219]? = some (.cells #[.string a0_0, .int .i64 a0_1, .string a0_2] 59 (0, 0))) := ⟨(by rw [hw]; exact (bG NB219_218 BK219))⟩; replace HB : Aside0 (Below w.heap.size w w19) := ⟨(by rw [hw]; exact (lV3 GE217 GE218 GE219))⟩; clear hw))
 refine bodyPost_ret (results_cell_row rfl _ _ gb218 59 #[.string a0_0, .int .i64 a0_1, .string a0_2] (0, 0) _ rfl (bV BK218) Try.underlying59 rfl (by kernel_rfl)) rfl ?_
 exact ⟨eE, lV3 GE217 GE218 GE219⟩
def laws_toValueS.l0 : Nat → List (S49) → List (S59) → Int → Option ((List (S59)))
 | 0, _, _, _ => none
 | k + 1, x0, x3, x4 => if x4 < (x0.length : Int) then (if 0 ≤ x4 then ((laws_toValue.f ((rd_T49 x0 x4).f0) ((rd_T49 x0 x4).f1) ((rd_T49 x0 x4).f2)).bind fun bt224 => (if x4 < (x3.length : Int) then (laws_toValueS.l0 k x0 (x3.set (x4 : Int).toNat (⟨bt224.1, bt224.2.1, bt224.2.2⟩ : S59)) (wrap64 (x4 + 1))) else (none))) else (none)) else (some x3)
def laws_toValueS.f (k : Nat) (l0 : List (S49)) : Option ((List (S59))) := if 0 ≤ (l0.length : Int) then (if ((l0.length : Int) : Int).toNat ≤ 7036874417766 then (laws_toValueS.l0 k l0 (List.replicate ((l0.length : Int) : Int).toNat z59) 0) else (none)) else (none)
theorem laws_toValueS.mono_l : ∀ k, (∀ y0 y1 y2, LeO (laws_toValueS.l0 k y0 y1 y2) (laws_toValueS.l0 (k + 1) y0 y1 y2))
 | 0 => fun _ _ _ r h => by simp [laws_toValueS.l0] at h
 | k + 1 => by
  have ih0 := laws_toValueS.mono_l k
  ·intro y0 y1 y2
   unfold laws_toValueS.l0
   repeat' first
   | (with_reducible exact ih0 _ _ _)
   | (with_reducible first | exact LeO.refl _ | exact LeO.none _ | refine LeO.ite ?_ ?_ | refine LeO.bind ?_ (fun _ => ?_))
   | exact ih0 _ _ _ | exact LeO.none _ | refine LeO.ite ?_ ?_ | refine LeO.bind ?_ (fun _ => ?_)
theorem laws_toValueS.mono : ∀ a0 k, LeO (laws_toValueS.f k a0) (laws_toValueS.f (k + 1) a0) := by
 intro a0 k
 have ih0 := laws_toValueS.mono_l k
 unfold laws_toValueS.f
 repeat' first
   | (with_reducible exact ih0 _ _ _)
   | (with_reducible first | exact LeO.refl _ | exact LeO.none _ | refine LeO.ite ?_ ?_ | refine LeO.bind ?_ (fun _ => ?_))
   | exact ih0 _ _ _ | exact LeO.none _ | refine LeO.ite ?_ ?_ | refine LeO.bind ?_ (fun _ => ?_)
set_option maxHeartbeats 8000000 in
set_option maxRecDepth 100000 in
theorem laws_toValueS.calls (k : Nat) (A0 : Option Addr) (c0 : Nat) (l0 : List (S49)) (r : List (S59)) (w : World) (hr0 : Kd.C k49 w A0 l0.length l0) (hc0 : l0.length ≤ c0) (h : laws_toValueS.f k l0 = some r) :
  Calls Try.prog 9 #[.slice A0 l0.length c0] w fun e w' => ∃ v0_ : Value, e = .returned (v0_) ∧ Kd.R k59 59 w' w.heap.size (fun _ => True) v0_ r ∧ Below w.heap.size w w' := by
 have hu49 := Try.underlying49
 have hu59 := Try.underlying59
 have HR0 := Aside0.mk hr0
 have HC0 := Aside0.mk hc0
 clear hr0 hc0
 have HB := Aside0.mk (Below.refl w.heap.size w)
 have H : (if 0 ≤ (l0.length : Int) then (if ((l0.length : Int) : Int).toNat ≤ 7036874417766 then (laws_toValueS.l0 k l0 (List.replicate ((l0.length : Int) : Int).toNat z59) 0) else (none)) else (none)) = some r := h
 clear h
 by_cases c2 : 0 ≤ (l0.length : Int)
 ·rw [if_pos c2] at H
  have c2b0 := eq_true c2
  have c2b1 : decide (0 ≤ (l0.length : Int)) = true := decide_eq_true c2
  clear c2
  by_cases c3 : ((l0.length : Int) : Int).toNat ≤ 7036874417766
  ·rw [if_pos c3] at H
   have c3b0 := eq_true c3
   have c3b1 : decide (((l0.length : Int) : Int).toNat ≤ 7036874417766) = true := decide_eq_true c3
   clear c3
   obtain ⟨y220, hy220⟩ : ∃ y_ : List (S59), y_ = (List.replicate ((l0.length : Int) : Int).toNat z59) := ⟨_, rfl⟩
   replace H : (laws_toValueS.l0 k l0 y220 0) = some r := by first | (rw [hy220]; with_reducible exact H) | (have H2_ := (Option.bind_some _ _).symm.trans H; rw [hy220]; with_reducible exact H2_) | (have H2_ := (Option.bind_some _ _).symm.trans H; with_reducible exact H2_) | with_reducible exact H | (rw [hy220]; exact H) | exact H
   have Ny220 := Aside0.mk hy220
   clear hy220
   have H' := Aside0.mk H
   clear H
   go_enter Try.func9, Try.ntmps9
   go_wp2_with (first | ((with_reducible refine gate_dst (N := 7) rfl ?_); refine Kd.R_make k59 _ 59 rfl (N := 7) rfl 26 _ _ rfl (l0.length : Int) rfl rfl Try.underlying26 (.agg #[(.string ⟨#[]⟩), (.int .i64 0), (.string ⟨#[]⟩)]) 40 info59 rfl (by decide) (by omega) z59 (ok := fun _ => True) (okp := fun _ => True) (k59_mkM _ _ _ z59 ) (fun _ hk => hk) trivial (of_decide_eq_true hE) (Nat.le_trans (Nat.mul_le_mul_right _ (of_decide_eq_true hE : (l0.length : Int).toNat ≤ 7036874417766)) (by omega)) (Below.refl _ _) (Nat.le_refl _) ?_; intro v221 w4 ho5 hb hg_ hnew_; clear hg_ hnew_; (first | rw [← Ny220.out] at ho5 | (simp only [Int.reduceToNat] at ho5; rw [← Ny220.out] at ho5)); have HO222 := Aside0.mk (Kd.R_lower ho5 (below_size (lU))); replace HB := bH (lU) hb; clear hb ho5))
   (try simp only [Act.put, List.setIfInBounds_toArray, List.set_cons_zero, List.set_cons_succ])
   go_loopg [4] k (fun kq v4 w' => ∃ (x3_1 : List (S59)) (x4_1 : Int), v4 = .int .i64 x4_1 ∧ Aside0 (laws_toValueS.l0 kq l0 x3_1 x4_1 = some r) ∧ Aside0 (kq ≤ k) ∧ Aside0 (Kd.R k59 59 w' w.heap.size (fun _ => True) v221 x3_1) ∧ Aside0 (Below w.heap.size w w'))
   case atStart => exact ⟨(y220), (0), tE, H', ⟨Nat.le_refl _⟩, ⟨by (with_reducible repeat (first | apply Kd.R_alloc | apply Kd.R_drewN | apply Kd.R_drew)); exact HO222.out⟩, ⟨by repeat (first | (with_reducible first | exact HB.out | apply below_alloc | apply pw_below_drewN | apply below_drew1) | exact HB.out)⟩⟩
   case round =>
    clear H'
    try clear c2
    try clear c2b0
    try clear c2b1
    try clear p2
    try clear c3
    try clear c3b0
    try clear c3b1
    obtain ⟨x3_1, x4_1, rfl, HA, HK1, HO_3, HB⟩ := hrel
    cases gk with
    | zero => exact absurd HA.out (by simp [laws_toValueS.l0])
    | succ k1 =>
     have H := HA.out
     clear HA
     simp only [laws_toValueS.l0] at H
     by_cases c6 : x4_1 < (l0.length : Int)
     ·rw [if_pos c6] at H
      have c6b0 : decide (x4_1 < (l0.length : Int)) = true := decide_eq_true c6
      clear c6
      by_cases c7 : 0 ≤ x4_1
      ·rw [if_pos c7] at H
       have c7b0 : decide (0 ≤ x4_1) = true := decide_eq_true c7
       clear c7
       replace H := Option.bind_eq_some_iff.mp H
       obtain ⟨⟨t224, t225, t226⟩, A80, H⟩ := H
       replace H : (if x4_1 < (x3_1.length : Int) then (laws_toValueS.l0 k1 l0 (x3_1.set (x4_1 : Int).toNat (⟨t224, t225, t226⟩ : S59)) (wrap64 (x4_1 + 1))) else (none)) = some r := H
       have A8 := Aside0.mk A80
       clear A80
       by_cases c9 : x4_1 < (x3_1.length : Int)
       ·rw [if_pos c9] at H
        have c9b0 : decide (x4_1 < (x3_1.length : Int)) = true := decide_eq_true c9
        clear c9
        obtain ⟨y227, hy227⟩ : ∃ y_ : List (S59), y_ = (x3_1.set (x4_1 : Int).toNat (⟨t224, t225, t226⟩ : S59)) := ⟨_, rfl⟩
        replace H : (laws_toValueS.l0 k1 l0 y227 (wrap64 (x4_1 + 1))) = some r := by first | (rw [hy227]; with_reducible exact H) | (have H2_ := (Option.bind_some _ _).symm.trans H; rw [hy227]; with_reducible exact H2_) | (have H2_ := (Option.bind_some _ _).symm.trans H; with_reducible exact H2_) | with_reducible exact H | (rw [hy227]; exact H) | exact H
        have Ny227 := Aside0.mk hy227
        clear hy227
        have H' := Aside0.mk H
        clear H
        have p223 : 0 ≤ (x4_1 : Int) := of_decide_eq_true hE
        have q223 : x4_1 < (l0.length : Int) := of_decide_eq_true hE
        obtain ⟨ad223, e223, hx223_0, hx223_1, hx223_2⟩ := at_T49 HR0.out x4_1 p223 q223
        cases e223
        replace hx223_0 := (HB.out.cell (World.block_lt_of_cell? w _ hx223_0)).trans hx223_0
        replace hx223_1 := (HB.out.cell (World.block_lt_of_cell? w _ hx223_1)).trans hx223_1
        replace hx223_2 := (HB.out.cell (World.block_lt_of_cell? w _ hx223_2)).trans hx223_2
        replace p223 := eq_true p223
        replace q223 := eq_true q223
        go_wp2_with (first | ((with_reducible refine gate_callee (f := 33) rfl ?_); refine goesL_ (some 20) rfl rfl Try.func33 (by kernel_rfl) rfl #[.agg #[.string ((rd_T49 l0 x4_1).f0), .int .i64 ((rd_T49 l0 x4_1).f1), .string ((rd_T49 l0 x4_1).f2)]] rfl aE ?_; (with_reducible refine (laws_toValue.calls ((rd_T49 l0 x4_1).f0) ((rd_T49 l0 x4_1).f1) ((rd_T49 l0 x4_1).f2) t224 t225 t226 _ A8.out).mono ?_); rintro e w11 ⟨rfl, hb⟩; refine ⟨_, rfl, ?_⟩; replace HO_3 := Aside0.mk (Kd.R_below (rU HO_3.out) hb); replace HB := bH (lU) hb; (try clear hb); have p10 : 0 ≤ (x4_1 : Int) := of_decide_eq_true hE; have q10 : (x4_1 : Int) < ((x3_1.length : Int) : Int) := of_decide_eq_true hE; obtain ⟨go10, co10, eo10, gb10, gl10, cl10, HG10⟩ := Kd.R_form HO_3.out (by omega); (first | cases eo10 | (injection eo10 with ea_ en_ ec_; (first | subst ea_ | (injection ea_ with ea_; subst ea_)); subst ec_; clear en_)); have GB10 := Aside0.mk gb10; have GG10 := Aside0.mk HG10; clear gb10 gl10 HG10; obtain ⟨ce10, hcl10, hM10, hcc10, hfr10⟩ := Kd.R_elem HO_3.out z59 (x4_1 : Int) p10 q10; obtain rfl := k59_openM hM10; have hx10_0 : w11.cell? ⟨go10, (x4_1 : Int).toNat * 3, none⟩ = some (.string ((rd_T59 x3_1 x4_1).f0)) := hcc10 0 _ rfl; have hx10_1 : w11.cell? ⟨go10, (x4_1 : Int).toNat * 3 + 1, none⟩ = some (.int .i64 ((rd_T59 x3_1 x4_1).f1)) := hcc10 1 _ rfl; have hx10_2 : w11.cell? ⟨go10, (x4_1 : Int).toNat * 3 + 2, none⟩ = some (.string ((rd_T59 x3_1 x4_1).f2)) := hcc10 2 _ rfl; have hf10_0 : w11.frozen? ⟨go10, (x4_1 : Int).toNat * 3, none⟩ = false := hfr10 0; have hf10_1 : w11.frozen? ⟨go10, (x4_1 : Int).toNat * 3 + 1, none⟩ = false := hfr10 1; have hf10_2 : w11.frozen? ⟨go10, (x4_1 : Int).toNat * 3 + 2, none⟩ = false := hfr10 2; (try clear hcl10); (try clear hcc10); (try clear hfr10); (try clear hM10); replace p10 := eq_true p10; replace q10 := eq_true q10; have HX12 := Aside0.mk (show Kd.R k59 59 w11 w.heap.size (fun _ => True) (.slice (some ⟨go10, 0, none⟩) x3_1.length co10) x3_1 from (rU HO_3.out)); obtain ⟨ce12, hcl12, hM12, hcc12, hfr12⟩ := Kd.R_elem HX12.out z59 (x4_1 : Int) (of_decide_eq_true hE) (by have h_ : (x4_1 : Int) < ((x3_1.length : Int) : Int) := of_decide_eq_true hE; first | exact h_ | (have e_ := (Kd.R_reads' HO_3.out).1; omega) | simpa using h_); obtain rfl := k59_openM hM12; have HP12 := Kd.R_seg HX12.out (x4_1 : Int) (of_decide_eq_true hE) (by have h_ : (x4_1 : Int) < ((x3_1.length : Int) : Int) := of_decide_eq_true hE; first | exact h_ | (have e_ := (Kd.R_reads' HO_3.out).1; omega) | simpa using h_) (seg := [.string t224, .int .i64 t225, .string t226]) (j := 0) hcl12 hcc12 (show 3 ≤ 3 from by decide) (x' := (⟨t224, t225, t226⟩ : S59)) (k59_mkM _ _ _ (⟨t224, t225, t226⟩ : S59) ) (fun _ hk => hk); have hx12_0 := hcc12 0 _ rfl; (try simp only [show (k59).sz = 3 from rfl, Nat.mul_one, Nat.add_zero] at hx12_0); have hf12_0 := hfr12 0; (try simp only [show (k59).sz = 3 from rfl, Nat.mul_one, Nat.add_zero] at hf12_0); have hx12_1 := hcc12 1 _ rfl; (try simp only [show (k59).sz = 3 from rfl, Nat.mul_one, Nat.add_zero] at hx12_1); have hf12_1 := hfr12 1; (try simp only [show (k59).sz = 3 from rfl, Nat.mul_one, Nat.add_zero] at hf12_1); have hx12_2 := hcc12 2 _ rfl; (try simp only [show (k59).sz = 3 from rfl, Nat.mul_one, Nat.add_zero] at hx12_2); have hf12_2 := hfr12 2; (try simp only [show (k59).sz = 3 from rfl, Nat.mul_one, Nat.add_zero] at hf12_2); (try clear hcl12); (try clear hcc12); (try clear hfr12); (try clear hM12)) | ((with_reducible refine gate_store (t := 59) (p := 21) rfl ?_); refine store_event (t := 59) (p := 21) (v := ?vo_w13) (w1 := (((w11.setCell ⟨go10, (x4_1 : Int).toNat * 3, none⟩ (.string t224)).setCell ⟨go10, (x4_1 : Int).toNat * 3 + 1, none⟩ (.int .i64 t225)).setCell ⟨go10, (x4_1 : Int).toNat * 3 + 2, none⟩ (.string t226))) ?hg ?ho ?hn ?hr ?_; (case ho => rfl); (case hg => rfl); (case hn => rfl); (case hr => exact sE); intro w13 hw; have hg : w11.grownBy w13 (some go10) := (by rw [hw]; exact HP12.2); have hp_ : Kd.R k59 59 w13 w.heap.size (fun _ => True) (.slice (some ⟨go10, 0, none⟩) x3_1.length co10) y227 := (by rw [hw, Ny227.out]; exact HP12.1); clear HP12; replace HO_3 := Aside0.mk hp_; replace HB := Aside0.mk ((by rw [hw]; exact below_set (below_set (below_set (HB.out) GB10.out) GB10.out) GB10.out : Below w.heap.size w w13)); clear hg hw hp_))
        go_roundg k1
        case measure => have := HK1.out; omega
        case rel => exact ⟨(y227), (wrap64 (x4_1 + 1)), tE, H', ⟨by have := HK1.out; omega⟩, ⟨by (with_reducible repeat (first | apply Kd.R_alloc | apply Kd.R_drewN | apply Kd.R_drew)); exact HO_3.out⟩, ⟨by repeat (first | (with_reducible first | exact HB.out | apply below_alloc | apply pw_below_drewN | apply below_drew1) | exact HB.out)⟩⟩
       ·rw [if_neg c9] at H
        exact absurd H (by simp)
      ·rw [if_neg c7] at H
       exact absurd H (by simp)
     ·rw [if_neg c6] at H
      have c6b0 : decide (x4_1 < (l0.length : Int)) = false := decide_eq_false c6
      clear c6
      obtain rfl := Option.some.inj H
      go_wp2
      go_ret
      exact ⟨_, eE, by (with_reducible repeat (first | apply Kd.R_alloc | apply Kd.R_drewN | apply Kd.R_drew)); exact HO_3.out, lU⟩
  ·rw [if_neg c3] at H
   exact absurd H (by simp)
 ·rw [if_neg c2] at H
  exact absurd H (by simp)
def laws_toChange.f (a0_0 : Int) (a0_1 : Int) (a0_2 : ByteArray) (a0_3 : ByteArray) (a0_4 : Int) : Option (Int × Int × ByteArray × ByteArray × Int) := some (a0_0, a0_1, a0_2, a0_3, a0_4)
set_option maxHeartbeats 8000000 in
set_option maxRecDepth 100000 in
theorem laws_toChange.calls (a0_0 : Int) (a0_1 : Int) (a0_2 : ByteArray) (a0_3 : ByteArray) (a0_4 : Int) (r1 : Int) (r2 : Int) (r3 : ByteArray) (r4 : ByteArray) (r5 : Int) (w : World) (h : laws_toChange.f a0_0 a0_1 a0_2 a0_3 a0_4 = some (r1, r2, r3, r4, r5)) :
  Calls Try.prog 34 #[.agg #[.int .i64 a0_0, .int .i64 a0_1, .string a0_2, .string a0_3, .int .i64 a0_4]] w fun e w' => e = .returned (.agg #[.int .i64 r1, .int .i64 r2, .string r3, .string r4, .int .i64 r5]) ∧ Below w.heap.size w w' := by
 have hu52 := Try.underlying52
 have hu56 := Try.underlying56
 have HB := Aside0.mk (Below.refl w.heap.size w)
 have H : (some (a0_0, a0_1, a0_2, a0_3, a0_4)) = some (r1, r2, r3, r4, r5) := h
 clear h
 simp only [Option.some.injEq, Prod.mk.injEq] at H
 obtain ⟨rfl, rfl, rfl, rfl, rfl⟩ := H
 go_enter Try.func34, Try.ntmps34
 go_wp2_with (first | ((with_reducible refine gate_dst (N := 1) rfl ?_); refine box_event rfl (N := 1) rfl (cs := #[.int .i64 a0_0, .int .i64 a0_1, .string a0_2, .string a0_3, .int .i64 a0_4]) (t := 52) sE ?_; intro gb228 hg w2 hbox hb; have BK228 := Aside0.mk hbox; have GW228 := gS w hg (lU); have GE228 := gS w hg (lU); replace HB := bH (lU) hb; clear hb hbox hg) | ((with_reducible refine gate_dst (N := 2) rfl ?_); refine box_event rfl (N := 2) rfl (cs := #[.int .i64 0, .int .i64 0, .string (⟨#[]⟩ : ByteArray), .string (⟨#[]⟩ : ByteArray), .int .i64 0]) (t := 56) sE ?_; intro gb229 hg w3 hbox hb; have BK229 := Aside0.mk hbox; have GW229 := gS w hg (lV1 GE228); have GE229 := gS w hg (lV1 GE228); replace HB := bH (lV1 GE228) hb; have NB228_229 := nL hg (bV BK228); have NB229_228 := nG hg (bV BK228); replace BK228 := bB (bV BK228) hb; clear hb hbox hg) | ((with_reducible refine gate_dst (N := 3) rfl ?_); refine box_event rfl (N := 3) rfl (cs := #[.int .i64 0, .int .i64 0, .string (⟨#[]⟩ : ByteArray), .string (⟨#[]⟩ : ByteArray), .int .i64 0]) (t := 56) sE ?_; intro gb230 hg w4 hbox hb; have BK230 := Aside0.mk hbox; have GW230 := gS w hg (lV2 GE228 GE229); have GE230 := gS w hg (lV2 GE228 GE229); replace HB := bH (lV2 GE228 GE229) hb; have NB228_230 := nL hg (bV BK228); have NB230_228 := nG hg (bV BK228); replace BK228 := bB (bV BK228) hb; have NB229_230 := nL hg (bV BK229); have NB230_229 := nG hg (bV BK229); replace BK229 := bB (bV BK229) hb; clear hb hbox hg; have hnb5 := NB228_229.out; have hnc5 := NB229_228.out; have hnb6 := NB228_230.out; have hnc6 := NB230_228.out; have hcz7_0 := cz BK228 0 (.int .i64 a0_0); have hcz7_1 := cz BK228 1 (.int .i64 a0_1); have hcz7_2 := cz BK228 2 (.string a0_2); have hcz7_3 := cz BK228 3 (.string a0_3); have hcz7_4 := cz BK228 4 (.int .i64 a0_4); have hfz7_0 := fz BK228 0; have hfz7_1 := fz BK228 1; have hfz7_2 := fz BK228 2; have hfz7_3 := fz BK228 3; have hfz7_4 := fz BK228 4; have hnb8 := NB230_229.out; have hnc8 := NB229_230.out; have hcz9_0 := cz BK230 0 (.int .i64 0); have hcz9_1 := cz BK230 1 (.int .i64 0); have hcz9_2 := cz BK230 2 (.string (⟨#[]⟩ : ByteArray)); have hcz9_3 := cz BK230 3 (.string (⟨#[]⟩ : ByteArray)); have hcz9_4 := cz BK230 4 (.int .i64 0); have hfz9_0 := fz BK230 0; have hfz9_1 := fz BK230 1; have hfz9_2 := fz BK230 2; have hfz9_3 := fz BK230 3; have hfz9_4 := fz BK230 4) | ((with_reducible refine gate_store (t := 3) (p := 6) rfl ?_); refine store_event (t := 3) (p := 6) (v := ?vo_w10) (w1 := (w4.setCell ⟨gb230, 0, none⟩ (.int .i64 a0_0))) ?hg ?ho ?hn ?hr ?_; (case ho => rfl); (case hg => rfl); (case hn => rfl); (case hr => first | (go_simp; done) | (go_simp; rfl) | (have hq0_ := (blk_cell BK230.out 0).trans (show _ = some _ from rfl); have hf0_ := blk_frozen BK230.out 0; first | (go_simp; done) | (go_simp; rfl))); intro w10 hw; replace BK228 : Aside0 (w10.heap[gb228]? = some (.cells #[.int .i64 a0_0, .int .i64 a0_1, .string a0_2, .string a0_3, .int .i64 a0_4] 52 (0, 0))) := ⟨(by rw [hw]; exact (bG NB228_230 BK228))⟩; replace BK229 : Aside0 (w10.heap[gb229]? = some (.cells #[.int .i64 0, .int .i64 0, .string (⟨#[]⟩ : ByteArray), .string (⟨#[]⟩ : ByteArray), .int .i64 0] 56 (0, 0))) := ⟨(by rw [hw]; exact (bG NB229_230 BK229))⟩; replace BK230 : Aside0 (w10.heap[gb230]? = some (.cells #[.int .i64 a0_0, .int .i64 0, .string (⟨#[]⟩ : ByteArray), .string (⟨#[]⟩ : ByteArray), .int .i64 0] 56 (0, 0))) := ⟨(by rw [hw]; exact (by refine bU ?_; refine blk_put (cs := #[.int .i64 0, .int .i64 0, .string (⟨#[]⟩ : ByteArray), .string (⟨#[]⟩ : ByteArray), .int .i64 0]) ?_ 0 _ rfl; refine bU ?_; exact BK230.out))⟩; replace HB : Aside0 (Below w.heap.size w w10) := ⟨(by rw [hw]; exact (lV3 GE228 GE229 GE230))⟩; clear hw; have hcz11_0 := cz BK228 0 (.int .i64 a0_0); have hcz11_1 := cz BK228 1 (.int .i64 a0_1); have hcz11_2 := cz BK228 2 (.string a0_2); have hcz11_3 := cz BK228 3 (.string a0_3); have hcz11_4 := cz BK228 4 (.int .i64 a0_4); have hfz11_0 := fz BK228 0; have hfz11_1 := fz BK228 1; have hfz11_2 := fz BK228 2; have hfz11_3 := fz BK228 3; have hfz11_4 := fz BK228 4; have hcz12_0 := cz BK230 0 (.int .i64 a0_0); have hcz12_1 := cz BK230 1 (.int .i64 0); have hcz12_2 := cz BK230 2 (.string (⟨#[]⟩ : ByteArray)); have hcz12_3 := cz BK230 3 (.string (⟨#[]⟩ : ByteArray)); have hcz12_4 := cz BK230 4 (.int .i64 0); have hfz12_0 := fz BK230 0; have hfz12_1 := fz BK230 1; have hfz12_2 := fz BK230 2; have hfz12_3 := fz BK230 3; have hfz12_4 := fz BK230 4) | ((with_reducible refine gate_store (t := 3) (p := 9) rfl ?_); refine store_event (t := 3) (p := 9) (v := ?vo_w13) (w1 := (w10.setCell ⟨gb230, 1, none⟩ (.int .i64 a0_1))) ?hg ?ho ?hn ?hr ?_; (case ho => rfl); (case hg => rfl); (case hn => rfl); (case hr => first | (go_simp; done) | (go_simp; rfl) | (have hq0_ := (blk_cell BK230.out 1).trans (show _ = some _ from rfl); have hf0_ := blk_frozen BK230.out 1; first | (go_simp; done) | (go_simp; rfl))); intro w13 hw; replace BK228 : Aside0 (w13.heap[gb228]? = some (.cells #[.int .i64 a0_0, .int .i64 a0_1, .string a0_2, .string a0_3, .int .i64 a0_4] 52 (0, 0))) := ⟨(by rw [hw]; exact (bG NB228_230 BK228))⟩; replace BK229 : Aside0 (w13.heap[gb229]? = some (.cells #[.int .i64 0, .int .i64 0, .string (⟨#[]⟩ : ByteArray), .string (⟨#[]⟩ : ByteArray), .int .i64 0] 56 (0, 0))) := ⟨(by rw [hw]; exact (bG NB229_230 BK229))⟩; replace BK230 : Aside0 (w13.heap[gb230]? = some (.cells #[.int .i64 a0_0, .int .i64 a0_1, .string (⟨#[]⟩ : ByteArray), .string (⟨#[]⟩ : ByteArray), .int .i64 0] 56 (0, 0))) := ⟨(by rw [hw]; exact (by refine bU ?_; refine blk_put (cs := #[.int .i64 a0_0, .int .i64 0, .string (⟨#[]⟩ : ByteArray), .string (⟨#[]⟩ : ByteArray), .int .i64 0]) ?_ 1 _ rfl; refine bU ?_; exact BK230.out))⟩; replace HB : Aside0 (Below w.heap.size w w13) := ⟨(by rw [hw]; exact (lV3 GE228 GE229 GE230))⟩; clear hw; have hcz14_0 := cz BK228 0 (.int .i64 a0_0); have hcz14_1 := cz BK228 1 (.int .i64 a0_1); have hcz14_2 := cz BK228 2 (.string a0_2); have hcz14_3 := cz BK228 3 (.string a0_3); have hcz14_4 := cz BK228 4 (.int .i64 a0_4); have hfz14_0 := fz BK228 0; have hfz14_1 := fz BK228 1; have hfz14_2 := fz BK228 2; have hfz14_3 := fz BK228 3; have hfz14_4 := fz BK228 4; have hcz15_0 := cz BK230 0 (.int .i64 a0_0); have hcz15_1 := cz BK230 1 (.int .i64 a0_1); have hcz15_2 := cz BK230 2 (.string (⟨#[]⟩ : ByteArray)); have hcz15_3 := cz BK230 3 (.string (⟨#[]⟩ : ByteArray)); have hcz15_4 := cz BK230 4 (.int .i64 0); have hfz15_0 := fz BK230 0; have hfz15_1 := fz BK230 1; have hfz15_2 := fz BK230 2; have hfz15_3 := fz BK230 3; have hfz15_4 := fz BK230 4) | ((with_reducible refine gate_store (t := 9) (p := 12) rfl ?_); refine store_event (t := 9) (p := 12) (v := ?vo_w16) (w1 := (w13.setCell ⟨gb230, 2, none⟩ (.string a0_2))) ?hg ?ho ?hn ?hr ?_; (case ho => rfl); (case hg => rfl); (case hn => rfl); (case hr => first | (go_simp; done) | (go_simp; rfl) | (have hq0_ := (blk_cell BK230.out 2).trans (show _ = some _ from rfl); have hf0_ := blk_frozen BK230.out 2; first | (go_simp; done) | (go_simp; rfl))); intro w16 hw; replace BK228 : Aside0 (w16.heap[gb228]? = some (.cells #[.int .i64 a0_0, .int .i64 a0_1, .string a0_2, .string a0_3, .int .i64 a0_4] 52 (0, 0))) := ⟨(by rw [hw]; exact (bG NB228_230 BK228))⟩; replace BK229 : Aside0 (w16.heap[gb229]? = some (.cells #[.int .i64 0, .int .i64 0, .string (⟨#[]⟩ : ByteArray), .string (⟨#[]⟩ : ByteArray), .int .i64 0] 56 (0, 0))) := ⟨(by rw [hw]; exact (bG NB229_230 BK229))⟩; replace BK230 : Aside0 (w16.heap[gb230]? = some (.cells #[.int .i64 a0_0, .int .i64 a0_1, .string a0_2, .string (⟨#[]⟩ : ByteArray), .int .i64 0] 56 (0, 0))) := ⟨(by rw [hw]; exact (by refine bU ?_; refine blk_put (cs := #[.int .i64 a0_0, .int .i64 a0_1, .string (⟨#[]⟩ : ByteArray), .string (⟨#[]⟩ : ByteArray), .int .i64 0]) ?_ 2 _ rfl; refine bU ?_; exact BK230.out))⟩; replace HB : Aside0 (Below w.heap.size w w16) := ⟨(by rw [hw]; exact (lV3 GE228 GE229 GE230))⟩; clear hw; have hcz17_0 := cz BK228 0 (.int .i64 a0_0); have hcz17_1 := cz BK228 1 (.int .i64 a0_1); have hcz17_2 := cz BK228 2 (.string a0_2); have hcz17_3 := cz BK228 3 (.string a0_3); have hcz17_4 := cz BK228 4 (.int .i64 a0_4); have hfz17_0 := fz BK228 0; have hfz17_1 := fz BK228 1; have hfz17_2 := fz BK228 2; have hfz17_3 := fz BK228 3; have hfz17_4 := fz BK228 4; have hcz18_0 := cz BK230 0 (.int .i64 a0_0); have hcz18_1 := cz BK230 1 (.int .i64 a0_1); have hcz18_2 := cz BK230 2 (.string a0_2); have hcz18_3 := cz BK230 3 (.string (⟨#[]⟩ : ByteArray)); have hcz18_4 := cz BK230 4 (.int .i64 0); have hfz18_0 := fz BK230 0; have hfz18_1 := fz BK230 1; have hfz18_2 := fz BK230 2; have hfz18_3 := fz BK230 3; have hfz18_4 := fz BK230 4) | ((with_reducible refine gate_store (t := 9) (p := 15) rfl ?_); refine store_event (t := 9) (p := 15) (v := ?vo_w19) (w1 := (w16.setCell ⟨gb230, 3, none⟩ (.string a0_3))) ?hg ?ho ?hn ?hr ?_; (case ho => rfl); (case hg => rfl); (case hn => rfl); (case hr => first | (go_simp; done) | (go_simp; rfl) | (have hq0_ := (blk_cell BK230.out 3).trans (show _ = some _ from rfl); have hf0_ := blk_frozen BK230.out 3; first | (go_simp; done) | (go_simp; rfl))); intro w19 hw; replace BK228 : Aside0 (w19.heap[gb228]? = some (.cells #[.int .i64 a0_0, .int .i64 a0_1, .string a0_2, .string a0_3, .int .i64 a0_4] 52 (0, 0))) := ⟨(by rw [hw]; exact (bG NB228_230 BK228))⟩; replace BK229 : Aside0 (w19.heap[gb229]? = some (.cells #[.int .i64 0, .int .i64 0, .string (⟨#[]⟩ : ByteArray), .string (⟨#[]⟩ : ByteArray), .int .i64 0] 56 (0, 0))) := ⟨(by rw [hw]; exact (bG NB229_230 BK229))⟩; replace BK230 : Aside0 (w19.heap[gb230]? = some (.cells #[.int .i64 a0_0, .int .i64 a0_1, .string a0_2, .string a0_3, .int .i64 0] 56 (0, 0))) := ⟨(by rw [hw]; exact (by refine bU ?_; refine blk_put (cs := #[.int .i64 a0_0, .int .i64 a0_1, .string a0_2, .string (⟨#[]⟩ : ByteArray), .int .i64 0]) ?_ 3 _ rfl; refine bU ?_; exact BK230.out))⟩; replace HB : Aside0 (Below w.heap.size w w19) := ⟨(by rw [hw]; exact (lV3 GE228 GE229 GE230))⟩; clear hw; have hcz20_0 := cz BK228 0 (.int .i64 a0_0); have hcz20_1 := cz BK228 1 (.int .i64 a0_1); have hcz20_2 := cz BK228 2 (.string a0_2); have hcz20_3 := cz BK228 3 (.string a0_3); have hcz20_4 := cz BK228 4 (.int .i64 a0_4); have hfz20_0 := fz BK228 0; have hfz20_1 := fz BK228 1; have hfz20_2 := fz BK228 2; have hfz20_3 := fz BK228 3; have hfz20_4 := fz BK228 4; have hcz21_0 := cz BK230 0 (.int .i64 a0_0); have hcz21_1 := cz BK230 1 (.int .i64 a0_1); have hcz21_2 := cz BK230 2 (.string a0_2); have hcz21_3 := cz BK230 3 (.string a0_3); have hcz21_4 := cz BK230 4 (.int .i64 0); have hfz21_0 := fz BK230 0; have hfz21_1 := fz BK230 1; have hfz21_2 := fz BK230 2; have hfz21_3 := fz BK230 3; have hfz21_4 := fz BK230 4) | ((with_reducible refine gate_store (t := 3) (p := 18) rfl ?_); refine store_event (t := 3) (p := 18) (v := ?vo_w22) (w1 := (w19.setCell ⟨gb230, 4, none⟩ (.int .i64 a0_4))) ?hg ?ho ?hn ?hr ?_; (case ho => rfl); (case hg => rfl); (case hn => rfl); (case hr => first | (go_simp; done) | (go_simp; rfl) | (have hq0_ := (blk_cell BK230.out 4).trans (show _ = some _ from rfl); have hf0_ := blk_frozen BK230.out 4; first | (go_simp; done) | (go_simp; rfl))); intro w22 hw; replace BK228 : Aside0 (w22.heap[gb228]? = some (.cells #[.int .i64 a0_0, .int .i64 a0_1, .string a0_2, .string a0_3, .int .i64 a0_4] 52 (0, 0))) := ⟨(by rw [hw]; exact (bG NB228_230 BK228))⟩; replace BK229 : Aside0 (w22.heap[gb229]? = some (.cells #[.int .i64 0, .int .i64 0, .string (⟨#[]⟩ : ByteArray), .string (⟨#[]⟩ : ByteArray), .int .i64 0] 56 (0, 0))) := ⟨(by rw [hw]; exact (bG NB229_230 BK229))⟩; replace BK230 : Aside0 (w22.heap[gb230]? = some (.cells #[.int .i64 a0_0, .int .i64 a0_1, .string a0_2, .string a0_3, .int .i64 a0_4] 56 (0, 0))) := ⟨(by rw [hw]; exact (by refine bU ?_; refine blk_put (cs := #[.int .i64 a0_0, .int .i64 a0_1, .string a0_2, .string a0_3, .int .i64 0]) ?_ 4 _ rfl; refine bU ?_; exact BK230.out))⟩; replace HB : Aside0 (Below w.heap.size w w22) := ⟨(by rw [hw]; exact (lV3 GE228 GE229 GE230))⟩; clear hw; have hcz23_0 := cz BK230 0 (.int .i64 a0_0); have hcz23_1 := cz BK230 1 (.int .i64 a0_1); have hcz23_2 := cz BK230 2 (.string a0_2); have hcz23_3 := cz BK230 3 (.string a0_3); have hcz23_4 := cz BK230 4 (.int .i64 a0_4); have hfz23_0 := fz BK230 0; have hfz23_1 := fz BK230 1; have hfz23_2 := fz BK230 2; have hfz23_3 := fz BK230 3; have hfz23_4 := fz BK230 4; have hcz24_0 := cz BK229 0 (.int .i64 0); have hcz24_1 := cz BK229 1 (.int .i64 0); have hcz24_2 := cz BK229 2 (.string (⟨#[]⟩ : ByteArray)); have hcz24_3 := cz BK229 3 (.string (⟨#[]⟩ : ByteArray)); have hcz24_4 := cz BK229 4 (.int .i64 0); have hfz24_0 := fz BK229 0; have hfz24_1 := fz BK229 1; have hfz24_2 := fz BK229 2; have hfz24_3 := fz BK229 3; have hfz24_4 := fz BK229 4) | ((with_reducible refine gate_store (t := 56) (p := 2) rfl ?_); refine store_event (t := 56) (p := 2) (v := ?vo_w25) (w1 := (((((w22.setCell ⟨gb229, 0, none⟩ (.int .i64 a0_0)).setCell ⟨gb229, 1, none⟩ (.int .i64 a0_1)).setCell ⟨gb229, 2, none⟩ (.string a0_2)).setCell ⟨gb229, 3, none⟩ (.string a0_3)).setCell ⟨gb229, 4, none⟩ (.int .i64 a0_4))) ?hg ?ho ?hn ?hr ?_; (case ho => rfl); (case hg => rfl); (case hn => rfl); (case hr => first | (go_simp; done) | (go_simp; rfl) | (have hq0_ := (blk_cell BK229.out 0).trans (show _ = some _ from rfl); have hf0_ := blk_frozen BK229.out 0; have hq1_ := (blk_cell BK229.out 1).trans (show _ = some _ from rfl); have hf1_ := blk_frozen BK229.out 1; have hq2_ := (blk_cell BK229.out 2).trans (show _ = some _ from rfl); have hf2_ := blk_frozen BK229.out 2; have hq3_ := (blk_cell BK229.out 3).trans (show _ = some _ from rfl); have hf3_ := blk_frozen BK229.out 3; have hq4_ := (blk_cell BK229.out 4).trans (show _ = some _ from rfl); have hf4_ := blk_frozen BK229.out 4; first | (go_simp; done) | (go_simp; rfl))); intro w25 hw; replace BK228 : Aside0 (w25.heap[gb228]? = some (.cells #[.int .i64 a0_0, .int .i64 a0_1, .string a0_2, .string a0_3, .int .i64 a0_4] 52 (0, 0))) := ⟨(by rw [hw]; exact (bG NB228_229 BK228))⟩; replace BK229 : Aside0 (w25.heap[gb229]? = some (.cells #[.int .i64 a0_0, .int .i64 a0_1, .string a0_2, .string a0_3, .int .i64 a0_4] 56 (0, 0))) := ⟨(by rw [hw]; exact (by refine bU ?_; refine blk_put (cs := #[.int .i64 a0_0, .int .i64 a0_1, .string a0_2, .string a0_3, .int .i64 0]) ?_ 4 _ rfl; refine bU ?_; refine blk_put (cs := #[.int .i64 a0_0, .int .i64 a0_1, .string a0_2, .string (⟨#[]⟩ : ByteArray), .int .i64 0]) ?_ 3 _ rfl; refine bU ?_; refine blk_put (cs := #[.int .i64 a0_0, .int .i64 a0_1, .string (⟨#[]⟩ : ByteArray), .string (⟨#[]⟩ : ByteArray), .int .i64 0]) ?_ 2 _ rfl; refine bU ?_; refine blk_put (cs := #[.int .i64 a0_0, .int .i64 0, .string (⟨#[]⟩ : ByteArray), .string (⟨#[]⟩ : ByteArray), .int .i64 0]) ?_ 1 _ rfl; refine bU ?_; refine blk_put (cs := #[.int .i64 0, .int .i64 0, .string (⟨#[]⟩ : ByteArray), .string (⟨#[]⟩ : ByteArray), .int .i64 0]) ?_ 0 _ rfl; refine bU ?_; exact BK229.out))⟩; replace BK230 : Aside0 (w25.heap[gb230]? = some (.cells #[.int .i64 a0_0, .int .i64 a0_1, .string a0_2, .string a0_3, .int .i64 a0_4] 56 (0, 0))) := ⟨(by rw [hw]; exact (bG NB230_229 BK230))⟩; replace HB : Aside0 (Below w.heap.size w w25) := ⟨(by rw [hw]; exact (lV3 GE228 GE229 GE230))⟩; clear hw))
 refine bodyPost_ret (results_cell_row rfl _ _ gb229 56 #[.int .i64 a0_0, .int .i64 a0_1, .string a0_2, .string a0_3, .int .i64 a0_4] (0, 0) _ rfl (bV BK229) Try.underlying56 rfl (by kernel_rfl)) rfl ?_
 exact ⟨eE, lV3 GE228 GE229 GE230⟩
def laws_toChangeS.l0 : Nat → List (S52) → List (S56) → Int → Option ((List (S56)))
 | 0, _, _, _ => none
 | k + 1, x0, x3, x4 => if x4 < (x0.length : Int) then (if 0 ≤ x4 then ((laws_toChange.f ((rd_T52 x0 x4).f0) ((rd_T52 x0 x4).f1) ((rd_T52 x0 x4).f2) ((rd_T52 x0 x4).f3) ((rd_T52 x0 x4).f4)).bind fun bt235 => (if x4 < (x3.length : Int) then (laws_toChangeS.l0 k x0 (x3.set (x4 : Int).toNat (⟨bt235.1, bt235.2.1, bt235.2.2.1, bt235.2.2.2.1, bt235.2.2.2.2⟩ : S56)) (wrap64 (x4 + 1))) else (none))) else (none)) else (some x3)
def laws_toChangeS.f (k : Nat) (l0 : List (S52)) : Option ((List (S56))) := if 0 ≤ (l0.length : Int) then (if ((l0.length : Int) : Int).toNat ≤ 5026338869833 then (laws_toChangeS.l0 k l0 (List.replicate ((l0.length : Int) : Int).toNat z56) 0) else (none)) else (none)
theorem laws_toChangeS.mono_l : ∀ k, (∀ y0 y1 y2, LeO (laws_toChangeS.l0 k y0 y1 y2) (laws_toChangeS.l0 (k + 1) y0 y1 y2))
 | 0 => fun _ _ _ r h => by simp [laws_toChangeS.l0] at h
 | k + 1 => by
  have ih0 := laws_toChangeS.mono_l k
  ·intro y0 y1 y2
   unfold laws_toChangeS.l0
   repeat' first
   | (with_reducible exact ih0 _ _ _)
   | (with_reducible first | exact LeO.refl _ | exact LeO.none _ | refine LeO.ite ?_ ?_ | refine LeO.bind ?_ (fun _ => ?_))
   | exact ih0 _ _ _ | exact LeO.none _ | refine LeO.ite ?_ ?_ | refine LeO.bind ?_ (fun _ => ?_)
theorem laws_toChangeS.mono : ∀ a0 k, LeO (laws_toChangeS.f k a0) (laws_toChangeS.f (k + 1) a0) := by
 intro a0 k
 have ih0 := laws_toChangeS.mono_l k
 unfold laws_toChangeS.f
 repeat' first
   | (with_reducible exact ih0 _ _ _)
   | (with_reducible first | exact LeO.refl _ | exact LeO.none _ | refine LeO.ite ?_ ?_ | refine LeO.bind ?_ (fun _ => ?_))
   | exact ih0 _ _ _ | exact LeO.none _ | refine LeO.ite ?_ ?_ | refine LeO.bind ?_ (fun _ => ?_)
set_option maxHeartbeats 8000000 in
set_option maxRecDepth 100000 in
theorem laws_toChangeS.calls (k : Nat) (A0 : Option Addr) (c0 : Nat) (l0 : List (S52)) (r : List (S56)) (w : World) (hr0 : Kd.C k52 w A0 l0.length l0) (hc0 : l0.length ≤ c0) (h : laws_toChangeS.f k l0 = some r) :
  Calls Try.prog 10 #[.slice A0 l0.length c0] w fun e w' => ∃ v0_ : Value, e = .returned (v0_) ∧ Kd.R k56 56 w' w.heap.size (fun _ => True) v0_ r ∧ Below w.heap.size w w' := by
 have hu52 := Try.underlying52
 have hu56 := Try.underlying56
 have HR0 := Aside0.mk hr0
 have HC0 := Aside0.mk hc0
 clear hr0 hc0
 have HB := Aside0.mk (Below.refl w.heap.size w)
 have H : (if 0 ≤ (l0.length : Int) then (if ((l0.length : Int) : Int).toNat ≤ 5026338869833 then (laws_toChangeS.l0 k l0 (List.replicate ((l0.length : Int) : Int).toNat z56) 0) else (none)) else (none)) = some r := h
 clear h
 by_cases c2 : 0 ≤ (l0.length : Int)
 ·rw [if_pos c2] at H
  have c2b0 := eq_true c2
  have c2b1 : decide (0 ≤ (l0.length : Int)) = true := decide_eq_true c2
  clear c2
  by_cases c3 : ((l0.length : Int) : Int).toNat ≤ 5026338869833
  ·rw [if_pos c3] at H
   have c3b0 := eq_true c3
   have c3b1 : decide (((l0.length : Int) : Int).toNat ≤ 5026338869833) = true := decide_eq_true c3
   clear c3
   obtain ⟨y231, hy231⟩ : ∃ y_ : List (S56), y_ = (List.replicate ((l0.length : Int) : Int).toNat z56) := ⟨_, rfl⟩
   replace H : (laws_toChangeS.l0 k l0 y231 0) = some r := by first | (rw [hy231]; with_reducible exact H) | (have H2_ := (Option.bind_some _ _).symm.trans H; rw [hy231]; with_reducible exact H2_) | (have H2_ := (Option.bind_some _ _).symm.trans H; with_reducible exact H2_) | with_reducible exact H | (rw [hy231]; exact H) | exact H
   have Ny231 := Aside0.mk hy231
   clear hy231
   have H' := Aside0.mk H
   clear H
   go_enter Try.func10, Try.ntmps10
   go_wp2_with (first | ((with_reducible refine gate_dst (N := 7) rfl ?_); refine Kd.R_make k56 _ 56 rfl (N := 7) rfl 30 _ _ rfl (l0.length : Int) rfl rfl Try.underlying30 (.agg #[(.int .i64 0), (.int .i64 0), (.string ⟨#[]⟩), (.string ⟨#[]⟩), (.int .i64 0)]) 56 info56 rfl (by decide) (by omega) z56 (ok := fun _ => True) (okp := fun _ => True) (k56_mkM _ _ _ z56 ) (fun _ hk => hk) trivial (of_decide_eq_true hE) (Nat.le_trans (Nat.mul_le_mul_right _ (of_decide_eq_true hE : (l0.length : Int).toNat ≤ 5026338869833)) (by omega)) (Below.refl _ _) (Nat.le_refl _) ?_; intro v232 w4 ho5 hb hg_ hnew_; clear hg_ hnew_; (first | rw [← Ny231.out] at ho5 | (simp only [Int.reduceToNat] at ho5; rw [← Ny231.out] at ho5)); have HO233 := Aside0.mk (Kd.R_lower ho5 (below_size (lU))); replace HB := bH (lU) hb; clear hb ho5))
   (try simp only [Act.put, List.setIfInBounds_toArray, List.set_cons_zero, List.set_cons_succ])
   go_loopg [4] k (fun kq v4 w' => ∃ (x3_1 : List (S56)) (x4_1 : Int), v4 = .int .i64 x4_1 ∧ Aside0 (laws_toChangeS.l0 kq l0 x3_1 x4_1 = some r) ∧ Aside0 (kq ≤ k) ∧ Aside0 (Kd.R k56 56 w' w.heap.size (fun _ => True) v232 x3_1) ∧ Aside0 (Below w.heap.size w w'))
   case atStart => exact ⟨(y231), (0), tE, H', ⟨Nat.le_refl _⟩, ⟨by (with_reducible repeat (first | apply Kd.R_alloc | apply Kd.R_drewN | apply Kd.R_drew)); exact HO233.out⟩, ⟨by repeat (first | (with_reducible first | exact HB.out | apply below_alloc | apply pw_below_drewN | apply below_drew1) | exact HB.out)⟩⟩
   case round =>
    clear H'
    try clear c1
    try clear c2
    try clear c2b0
    try clear c2b1
    try clear p2
    try clear c3
    try clear c3b0
    try clear c3b1
    obtain ⟨x3_1, x4_1, rfl, HA, HK1, HO_3, HB⟩ := hrel
    cases gk with
    | zero => exact absurd HA.out (by simp [laws_toChangeS.l0])
    | succ k1 =>
     have H := HA.out
     clear HA
     simp only [laws_toChangeS.l0] at H
     by_cases c6 : x4_1 < (l0.length : Int)
     ·rw [if_pos c6] at H
      have c6b0 : decide (x4_1 < (l0.length : Int)) = true := decide_eq_true c6
      clear c6
      by_cases c7 : 0 ≤ x4_1
      ·rw [if_pos c7] at H
       have c7b0 : decide (0 ≤ x4_1) = true := decide_eq_true c7
       clear c7
       replace H := Option.bind_eq_some_iff.mp H
       obtain ⟨⟨t235, t236, t237, t238, t239⟩, A80, H⟩ := H
       replace H : (if x4_1 < (x3_1.length : Int) then (laws_toChangeS.l0 k1 l0 (x3_1.set (x4_1 : Int).toNat (⟨t235, t236, t237, t238, t239⟩ : S56)) (wrap64 (x4_1 + 1))) else (none)) = some r := H
       have A8 := Aside0.mk A80
       clear A80
       by_cases c9 : x4_1 < (x3_1.length : Int)
       ·rw [if_pos c9] at H
        have c9b0 : decide (x4_1 < (x3_1.length : Int)) = true := decide_eq_true c9
        clear c9
        obtain ⟨y240, hy240⟩ : ∃ y_ : List (S56), y_ = (x3_1.set (x4_1 : Int).toNat (⟨t235, t236, t237, t238, t239⟩ : S56)) := ⟨_, rfl⟩
        replace H : (laws_toChangeS.l0 k1 l0 y240 (wrap64 (x4_1 + 1))) = some r := by first | (rw [hy240]; with_reducible exact H) | (have H2_ := (Option.bind_some _ _).symm.trans H; rw [hy240]; with_reducible exact H2_) | (have H2_ := (Option.bind_some _ _).symm.trans H; with_reducible exact H2_) | with_reducible exact H | (rw [hy240]; exact H) | exact H
        have Ny240 := Aside0.mk hy240
        clear hy240
        have H' := Aside0.mk H
        clear H
        have p234 : 0 ≤ (x4_1 : Int) := of_decide_eq_true hE
        have q234 : x4_1 < (l0.length : Int) := of_decide_eq_true hE
        obtain ⟨ad234, e234, hx234_0, hx234_1, hx234_2, hx234_3, hx234_4⟩ := at_T52 HR0.out x4_1 p234 q234
        cases e234
        replace hx234_0 := (HB.out.cell (World.block_lt_of_cell? w _ hx234_0)).trans hx234_0
        replace hx234_1 := (HB.out.cell (World.block_lt_of_cell? w _ hx234_1)).trans hx234_1
        replace hx234_2 := (HB.out.cell (World.block_lt_of_cell? w _ hx234_2)).trans hx234_2
        replace hx234_3 := (HB.out.cell (World.block_lt_of_cell? w _ hx234_3)).trans hx234_3
        replace hx234_4 := (HB.out.cell (World.block_lt_of_cell? w _ hx234_4)).trans hx234_4
        replace p234 := eq_true p234
        replace q234 := eq_true q234
        go_wp2_with (first | ((with_reducible refine gate_callee (f := 34) rfl ?_); refine goesL_ (some 20) rfl rfl Try.func34 (by kernel_rfl) rfl #[.agg #[.int .i64 ((rd_T52 l0 x4_1).f0), .int .i64 ((rd_T52 l0 x4_1).f1), .string ((rd_T52 l0 x4_1).f2), .string ((rd_T52 l0 x4_1).f3), .int .i64 ((rd_T52 l0 x4_1).f4)]] rfl aE ?_; (with_reducible refine (laws_toChange.calls ((rd_T52 l0 x4_1).f0) ((rd_T52 l0 x4_1).f1) ((rd_T52 l0 x4_1).f2) ((rd_T52 l0 x4_1).f3) ((rd_T52 l0 x4_1).f4) t235 t236 t237 t238 t239 _ A8.out).mono ?_); rintro e w11 ⟨rfl, hb⟩; refine ⟨_, rfl, ?_⟩; replace HO_3 := Aside0.mk (Kd.R_below (rU HO_3.out) hb); replace HB := bH (lU) hb; (try clear hb); have p10 : 0 ≤ (x4_1 : Int) := of_decide_eq_true hE; have q10 : (x4_1 : Int) < ((x3_1.length : Int) : Int) := of_decide_eq_true hE; obtain ⟨go10, co10, eo10, gb10, gl10, cl10, HG10⟩ := Kd.R_form HO_3.out (by omega); (first | cases eo10 | (injection eo10 with ea_ en_ ec_; (first | subst ea_ | (injection ea_ with ea_; subst ea_)); subst ec_; clear en_)); have GB10 := Aside0.mk gb10; have GG10 := Aside0.mk HG10; clear gb10 gl10 HG10; obtain ⟨ce10, hcl10, hM10, hcc10, hfr10⟩ := Kd.R_elem HO_3.out z56 (x4_1 : Int) p10 q10; obtain rfl := k56_openM hM10; have hx10_0 : w11.cell? ⟨go10, (x4_1 : Int).toNat * 5, none⟩ = some (.int .i64 ((rd_T56 x3_1 x4_1).f0)) := hcc10 0 _ rfl; have hx10_1 : w11.cell? ⟨go10, (x4_1 : Int).toNat * 5 + 1, none⟩ = some (.int .i64 ((rd_T56 x3_1 x4_1).f1)) := hcc10 1 _ rfl; have hx10_2 : w11.cell? ⟨go10, (x4_1 : Int).toNat * 5 + 2, none⟩ = some (.string ((rd_T56 x3_1 x4_1).f2)) := hcc10 2 _ rfl; have hx10_3 : w11.cell? ⟨go10, (x4_1 : Int).toNat * 5 + 3, none⟩ = some (.string ((rd_T56 x3_1 x4_1).f3)) := hcc10 3 _ rfl; have hx10_4 : w11.cell? ⟨go10, (x4_1 : Int).toNat * 5 + 4, none⟩ = some (.int .i64 ((rd_T56 x3_1 x4_1).f4)) := hcc10 4 _ rfl; have hf10_0 : w11.frozen? ⟨go10, (x4_1 : Int).toNat * 5, none⟩ = false := hfr10 0; have hf10_1 : w11.frozen? ⟨go10, (x4_1 : Int).toNat * 5 + 1, none⟩ = false := hfr10 1; have hf10_2 : w11.frozen? ⟨go10, (x4_1 : Int).toNat * 5 + 2, none⟩ = false := hfr10 2; have hf10_3 : w11.frozen? ⟨go10, (x4_1 : Int).toNat * 5 + 3, none⟩ = false := hfr10 3; have hf10_4 : w11.frozen? ⟨go10, (x4_1 : Int).toNat * 5 + 4, none⟩ = false := hfr10 4; (try clear hcl10); (try clear hcc10); (try clear hfr10); (try clear hM10); replace p10 := eq_true p10; replace q10 := eq_true q10; have HX12 := Aside0.mk (show Kd.R k56 56 w11 w.heap.size (fun _ => True) (.slice (some ⟨go10, 0, none⟩) x3_1.length co10) x3_1 from (rU HO_3.out)); obtain ⟨ce12, hcl12, hM12, hcc12, hfr12⟩ := Kd.R_elem HX12.out z56 (x4_1 : Int) (of_decide_eq_true hE) (by have h_ : (x4_1 : Int) < ((x3_1.length : Int) : Int) := of_decide_eq_true hE; first | exact h_ | (have e_ := (Kd.R_reads' HO_3.out).1; omega) | simpa using h_); obtain rfl := k56_openM hM12; have HP12 := Kd.R_seg HX12.out (x4_1 : Int) (of_decide_eq_true hE) (by have h_ : (x4_1 : Int) < ((x3_1.length : Int) : Int) := of_decide_eq_true hE; first | exact h_ | (have e_ := (Kd.R_reads' HO_3.out).1; omega) | simpa using h_) (seg := [.int .i64 t235, .int .i64 t236, .string t237, .string t238, .int .i64 t239]) (j := 0) hcl12 hcc12 (show 5 ≤ 5 from by decide) (x' := (⟨t235, t236, t237, t238, t239⟩ : S56)) (k56_mkM _ _ _ (⟨t235, t236, t237, t238, t239⟩ : S56) ) (fun _ hk => hk); have hx12_0 := hcc12 0 _ rfl; (try simp only [show (k56).sz = 5 from rfl, Nat.mul_one, Nat.add_zero] at hx12_0); have hf12_0 := hfr12 0; (try simp only [show (k56).sz = 5 from rfl, Nat.mul_one, Nat.add_zero] at hf12_0); have hx12_1 := hcc12 1 _ rfl; (try simp only [show (k56).sz = 5 from rfl, Nat.mul_one, Nat.add_zero] at hx12_1); have hf12_1 := hfr12 1; (try simp only [show (k56).sz = 5 from rfl, Nat.mul_one, Nat.add_zero] at hf12_1); have hx12_2 := hcc12 2 _ rfl; (try simp only [show (k56).sz = 5 from rfl, Nat.mul_one, Nat.add_zero] at hx12_2); have hf12_2 := hfr12 2; (try simp only [show (k56).sz = 5 from rfl, Nat.mul_one, Nat.add_zero] at hf12_2); have hx12_3 := hcc12 3 _ rfl; (try simp only [show (k56).sz = 5 from rfl, Nat.mul_one, Nat.add_zero] at hx12_3); have hf12_3 := hfr12 3; (try simp only [show (k56).sz = 5 from rfl, Nat.mul_one, Nat.add_zero] at hf12_3); have hx12_4 := hcc12 4 _ rfl; (try simp only [show (k56).sz = 5 from rfl, Nat.mul_one, Nat.add_zero] at hx12_4); have hf12_4 := hfr12 4; (try simp only [show (k56).sz = 5 from rfl, Nat.mul_one, Nat.add_zero] at hf12_4); (try clear hcl12); (try clear hcc12); (try clear hfr12); (try clear hM12)) | ((with_reducible refine gate_store (t := 56) (p := 21) rfl ?_); refine store_event (t := 56) (p := 21) (v := ?vo_w13) (w1 := (((((w11.setCell ⟨go10, (x4_1 : Int).toNat * 5, none⟩ (.int .i64 t235)).setCell ⟨go10, (x4_1 : Int).toNat * 5 + 1, none⟩ (.int .i64 t236)).setCell ⟨go10, (x4_1 : Int).toNat * 5 + 2, none⟩ (.string t237)).setCell ⟨go10, (x4_1 : Int).toNat * 5 + 3, none⟩ (.string t238)).setCell ⟨go10, (x4_1 : Int).toNat * 5 + 4, none⟩ (.int .i64 t239))) ?hg ?ho ?hn ?hr ?_; (case ho => rfl); (case hg => rfl); (case hn => rfl); (case hr => exact sE); intro w13 hw; have hg : w11.grownBy w13 (some go10) := (by rw [hw]; exact HP12.2); have hp_ : Kd.R k56 56 w13 w.heap.size (fun _ => True) (.slice (some ⟨go10, 0, none⟩) x3_1.length co10) y240 := (by rw [hw, Ny240.out]; exact HP12.1); clear HP12; replace HO_3 := Aside0.mk hp_; replace HB := Aside0.mk ((by rw [hw]; exact below_set (below_set (below_set (below_set (below_set (HB.out) GB10.out) GB10.out) GB10.out) GB10.out) GB10.out : Below w.heap.size w w13)); clear hg hw hp_))
        go_roundg k1
        case measure => have := HK1.out; omega
        case rel => exact ⟨(y240), (wrap64 (x4_1 + 1)), tE, H', ⟨by have := HK1.out; omega⟩, ⟨by (with_reducible repeat (first | apply Kd.R_alloc | apply Kd.R_drewN | apply Kd.R_drew)); exact HO_3.out⟩, ⟨by repeat (first | (with_reducible first | exact HB.out | apply below_alloc | apply pw_below_drewN | apply below_drew1) | exact HB.out)⟩⟩
       ·rw [if_neg c9] at H
        exact absurd H (by simp)
      ·rw [if_neg c7] at H
       exact absurd H (by simp)
     ·rw [if_neg c6] at H
      have c6b0 : decide (x4_1 < (l0.length : Int)) = false := decide_eq_false c6
      clear c6
      obtain rfl := Option.some.inj H
      go_wp2
      go_ret
      exact ⟨_, eE, by (with_reducible repeat (first | apply Kd.R_alloc | apply Kd.R_drewN | apply Kd.R_drew)); exact HO_3.out, lU⟩
  ·rw [if_neg c3] at H
   exact absurd H (by simp)
 ·rw [if_neg c2] at H
  exact absurd H (by simp)
def impl_inRange.f (a0 : Int) (a1 : Int) (a2 : Int) : Option (Bool) := if a1 ≤ a0 then (some (decide (a0 ≤ a2))) else (some false)
set_option maxHeartbeats 8000000 in
set_option maxRecDepth 100000 in
theorem impl_inRange.calls (a0 : Int) (a1 : Int) (a2 : Int) (r : Bool) (w : World) (h : impl_inRange.f a0 a1 a2 = some r) :
  Calls Try.prog 35 #[.int .i64 a0, .int .i64 a1, .int .i64 a2] w fun e w' => e = .returned (.bool r) ∧ Drawn0 w w' := by
 have H : (if a1 ≤ a0 then (some (decide (a0 ≤ a2))) else (some false)) = some r := h
 clear h
 by_cases c4 : a1 ≤ a0
 ·rw [if_pos c4] at H
  have c4b0 : decide (a1 ≤ a0) = true := decide_eq_true c4
  clear c4
  obtain rfl := Option.some.inj H
  go_enter Try.func35, Try.ntmps35
  go_wp2
  go_ret
  exact ⟨by first | rfl | (simp; done) | (simp [*]; done) | exact not_isEmpty _ | exact (not_isEmpty _).symm | exact is_empty _ | exact (is_empty _).symm, by repeat (first | exact Drawn0.refl _ | apply Drawn0.step)⟩
 ·rw [if_neg c4] at H
  have c4b0 : decide (a1 ≤ a0) = false := decide_eq_false c4
  clear c4
  obtain rfl := Option.some.inj H
  go_enter Try.func35, Try.ntmps35
  go_wp2
  go_ret
  exact ⟨by first | rfl | (simp; done) | (simp [*]; done) | exact not_isEmpty _ | exact (not_isEmpty _).symm | exact is_empty _ | exact (is_empty _).symm, by repeat (first | exact Drawn0.refl _ | apply Drawn0.step)⟩
def impl_isLetter.f (a0 : Int) : Option (Bool) := if a0 ≥ 97 then (if a0 ≤ 122 then (some true) else (if a0 ≥ 65 then (some (decide (a0 ≤ 90))) else (some false))) else (if a0 ≥ 65 then (some (decide (a0 ≤ 90))) else (some false))
set_option maxHeartbeats 8000000 in
set_option maxRecDepth 100000 in
theorem impl_isLetter.calls (a0 : Int) (r : Bool) (w : World) (h : impl_isLetter.f a0 = some r) :
  Calls Try.prog 63 #[.int .u8 a0] w fun e w' => e = .returned (.bool r) ∧ Drawn0 w w' := by
 have H : (if a0 ≥ 97 then (if a0 ≤ 122 then (some true) else (if a0 ≥ 65 then (some (decide (a0 ≤ 90))) else (some false))) else (if a0 ≥ 65 then (some (decide (a0 ≤ 90))) else (some false))) = some r := h
 clear h
 by_cases c2 : a0 ≥ 97
 ·rw [if_pos c2] at H
  have c2b0 : decide (97 ≤ a0) = true := decide_eq_true c2
  clear c2
  by_cases c3 : a0 ≤ 122
  ·rw [if_pos c3] at H
   have c3b0 : decide (a0 ≤ 122) = true := decide_eq_true c3
   clear c3
   obtain rfl := Option.some.inj H
   go_enter Try.func63, Try.ntmps63
   go_wp2
   go_ret
   exact ⟨by first | rfl | (simp; done) | (simp [*]; done) | exact not_isEmpty _ | exact (not_isEmpty _).symm | exact is_empty _ | exact (is_empty _).symm, by repeat (first | exact Drawn0.refl _ | apply Drawn0.step)⟩
  ·rw [if_neg c3] at H
   have c3b0 : decide (a0 ≤ 122) = false := decide_eq_false c3
   clear c3
   by_cases c4 : a0 ≥ 65
   ·rw [if_pos c4] at H
    have c4b0 : decide (65 ≤ a0) = true := decide_eq_true c4
    clear c4
    obtain rfl := Option.some.inj H
    go_enter Try.func63, Try.ntmps63
    go_wp2
    go_ret
    exact ⟨by first | rfl | (simp; done) | (simp [*]; done) | exact not_isEmpty _ | exact (not_isEmpty _).symm | exact is_empty _ | exact (is_empty _).symm, by repeat (first | exact Drawn0.refl _ | apply Drawn0.step)⟩
   ·rw [if_neg c4] at H
    have c4b0 : decide (65 ≤ a0) = false := decide_eq_false c4
    clear c4
    obtain rfl := Option.some.inj H
    go_enter Try.func63, Try.ntmps63
    go_wp2
    go_ret
    exact ⟨by first | rfl | (simp; done) | (simp [*]; done) | exact not_isEmpty _ | exact (not_isEmpty _).symm | exact is_empty _ | exact (is_empty _).symm, by repeat (first | exact Drawn0.refl _ | apply Drawn0.step)⟩
 ·rw [if_neg c2] at H
  have c2b0 : decide (97 ≤ a0) = false := decide_eq_false c2
  clear c2
  by_cases c5 : a0 ≥ 65
  ·rw [if_pos c5] at H
   have c5b0 : decide (65 ≤ a0) = true := decide_eq_true c5
   clear c5
   obtain rfl := Option.some.inj H
   go_enter Try.func63, Try.ntmps63
   go_wp2
   go_ret
   exact ⟨by first | rfl | (simp; done) | (simp [*]; done) | exact not_isEmpty _ | exact (not_isEmpty _).symm | exact is_empty _ | exact (is_empty _).symm, by repeat (first | exact Drawn0.refl _ | apply Drawn0.step)⟩
  ·rw [if_neg c5] at H
   have c5b0 : decide (65 ≤ a0) = false := decide_eq_false c5
   clear c5
   obtain rfl := Option.some.inj H
   go_enter Try.func63, Try.ntmps63
   go_wp2
   go_ret
   exact ⟨by first | rfl | (simp; done) | (simp [*]; done) | exact not_isEmpty _ | exact (not_isEmpty _).symm | exact is_empty _ | exact (is_empty _).symm, by repeat (first | exact Drawn0.refl _ | apply Drawn0.step)⟩
def impl_isDigit.f (a0 : Int) : Option (Bool) := if a0 ≥ 48 then (some (decide (a0 ≤ 57))) else (some false)
set_option maxHeartbeats 8000000 in
set_option maxRecDepth 100000 in
theorem impl_isDigit.calls (a0 : Int) (r : Bool) (w : World) (h : impl_isDigit.f a0 = some r) :
  Calls Try.prog 64 #[.int .u8 a0] w fun e w' => e = .returned (.bool r) ∧ Drawn0 w w' := by
 have H : (if a0 ≥ 48 then (some (decide (a0 ≤ 57))) else (some false)) = some r := h
 clear h
 by_cases c2 : a0 ≥ 48
 ·rw [if_pos c2] at H
  have c2b0 : decide (48 ≤ a0) = true := decide_eq_true c2
  clear c2
  obtain rfl := Option.some.inj H
  go_enter Try.func64, Try.ntmps64
  go_wp2
  go_ret
  exact ⟨by first | rfl | (simp; done) | (simp [*]; done) | exact not_isEmpty _ | exact (not_isEmpty _).symm | exact is_empty _ | exact (is_empty _).symm, by repeat (first | exact Drawn0.refl _ | apply Drawn0.step)⟩
 ·rw [if_neg c2] at H
  have c2b0 : decide (48 ≤ a0) = false := decide_eq_false c2
  clear c2
  obtain rfl := Option.some.inj H
  go_enter Try.func64, Try.ntmps64
  go_wp2
  go_ret
  exact ⟨by first | rfl | (simp; done) | (simp [*]; done) | exact not_isEmpty _ | exact (not_isEmpty _).symm | exact is_empty _ | exact (is_empty _).symm, by repeat (first | exact Drawn0.refl _ | apply Drawn0.step)⟩
def impl_GoodName.l0 : Nat → ByteArray → Int → Int → Option (Bool)
 | 0, _, _, _ => none
 | k + 1, x0, x5, x6 => if x6 < x5 then (if 0 ≤ x6 then (if x6 < (x0.size : Int) then ((impl_isLetter.f (bt x0 x6)).bind fun t242 => (if t242 = true then (impl_GoodName.l0 k x0 x5 (wrap64 (x6 + 1))) else (if (bt x0 x6) = 95 then (impl_GoodName.l0 k x0 x5 (wrap64 (x6 + 1))) else (if x6 = 0 then (some false) else ((impl_isDigit.f (bt x0 x6)).bind fun t243 => (if t243 = true then (impl_GoodName.l0 k x0 x5 (wrap64 (x6 + 1))) else (some false))))))) else (none)) else (none)) else ((impl_inRange.f (x0.size : Int) 1 20).bind fun t241 => (some t241))
def impl_GoodName.f (k : Nat) (a0 : ByteArray) : Option (Bool) := impl_GoodName.l0 k a0 (a0.size : Int) 0
theorem impl_GoodName.mono_l : ∀ k, (∀ y0 y1 y2, LeO (impl_GoodName.l0 k y0 y1 y2) (impl_GoodName.l0 (k + 1) y0 y1 y2))
 | 0 => fun _ _ _ r h => by simp [impl_GoodName.l0] at h
 | k + 1 => by
  have ih0 := impl_GoodName.mono_l k
  ·intro y0 y1 y2
   unfold impl_GoodName.l0
   repeat' first
   | (with_reducible exact ih0 _ _ _)
   | (with_reducible first | exact LeO.refl _ | exact LeO.none _ | refine LeO.ite ?_ ?_ | refine LeO.bind ?_ (fun _ => ?_))
   | exact ih0 _ _ _ | exact LeO.none _ | refine LeO.ite ?_ ?_ | refine LeO.bind ?_ (fun _ => ?_)
theorem impl_GoodName.mono : ∀ a0 k, LeO (impl_GoodName.f k a0) (impl_GoodName.f (k + 1) a0) := by
 intro a0 k
 have ih0 := impl_GoodName.mono_l k
 unfold impl_GoodName.f
 repeat' first
   | (with_reducible exact ih0 _ _ _)
   | (with_reducible first | exact LeO.refl _ | exact LeO.none _ | refine LeO.ite ?_ ?_ | refine LeO.bind ?_ (fun _ => ?_))
   | exact ih0 _ _ _ | exact LeO.none _ | refine LeO.ite ?_ ?_ | refine LeO.bind ?_ (fun _ => ?_)
set_option maxHeartbeats 8000000 in
set_option maxRecDepth 100000 in
theorem impl_GoodName.calls (k : Nat) (a0 : ByteArray) (r : Bool) (w : World) (h : impl_GoodName.f k a0 = some r) :
  Calls Try.prog 55 #[.string a0] w fun e w' => e = .returned (.bool r) ∧ Drawn0 w w' := by
 have H : (impl_GoodName.l0 k a0 (a0.size : Int) 0) = some r := h
 clear h
 have H' := Aside0.mk H
 clear H
 go_enter Try.func55, Try.ntmps55
 go_wp2
 go_loopg [6] k (fun kq v6 w' => ∃ (x6_1 : Int), v6 = .int .i64 x6_1 ∧ Aside0 (impl_GoodName.l0 kq a0 (a0.size : Int) x6_1 = some r) ∧ Aside0 (kq ≤ k) ∧ Drawn0 w w')
 case atStart => exact ⟨(0), tE, H', ⟨Nat.le_refl _⟩, by repeat (first | exact Drawn0.refl _ | apply Drawn0.step)⟩
 case round =>
  clear H'
  obtain ⟨x6_1, rfl, HA, HK1, ⟨m1, rfl⟩⟩ := hrel
  cases gk with
  | zero => exact absurd HA.out (by simp [impl_GoodName.l0])
  | succ k1 =>
   have H := HA.out
   clear HA
   simp only [impl_GoodName.l0] at H
   by_cases c2 : x6_1 < (a0.size : Int)
   ·rw [if_pos c2] at H
    have c2b0 : decide (x6_1 < (a0.size : Int)) = true := decide_eq_true c2
    clear c2
    by_cases c3 : 0 ≤ x6_1
    ·rw [if_pos c3] at H
     have c3b0 : decide (0 ≤ x6_1) = true := decide_eq_true c3
     clear c3
     by_cases c4 : x6_1 < (a0.size : Int)
     ·rw [if_pos c4] at H
      have c4b0 : decide (x6_1 < (a0.size : Int)) = true := decide_eq_true c4
      clear c4
      replace H := Option.bind_eq_some_iff.mp H
      obtain ⟨t242, A60, H⟩ := H
      replace H : (if t242 = true then (impl_GoodName.l0 k1 a0 (a0.size : Int) (wrap64 (x6_1 + 1))) else (if (bt a0 x6_1) = 95 then (impl_GoodName.l0 k1 a0 (a0.size : Int) (wrap64 (x6_1 + 1))) else (if x6_1 = 0 then (some false) else ((impl_isDigit.f (bt a0 x6_1)).bind fun t243 => (if t243 = true then (impl_GoodName.l0 k1 a0 (a0.size : Int) (wrap64 (x6_1 + 1))) else (some false)))))) = some r := H
      have A6 := Aside0.mk A60
      clear A60
      by_cases c7 : t242 = true
      ·subst c7
       have H1 : (impl_GoodName.l0 k1 a0 (a0.size : Int) (wrap64 (x6_1 + 1))) = some r := by rw [if_pos rfl] at H; exact H
       clear H
       have H := H1
       clear H1
       have H' := Aside0.mk H
       clear H
       have p5 : 0 ≤ (x6_1 : Int) := of_decide_eq_true hE
       have q5 : x6_1 < (a0.size : Int) := of_decide_eq_true hE
       have hx5 := bt_at a0 x6_1
       replace p5 := eq_true p5
       replace q5 := eq_true q5
       go_wp2_with (first | ((with_reducible refine gate_callee (f := 63) rfl ?_); refine goesL_ (some 12) rfl rfl Try.func63 (by kernel_rfl) rfl #[.int .u8 (bt a0 x6_1)] rfl aE ?_; (with_reducible refine (impl_isLetter.calls (bt a0 x6_1) true _ A6.out).mono ?_); rintro e w' ⟨rfl, ⟨nd, rfl⟩⟩; refine ⟨_, rfl, ?_⟩))
       go_roundg k1
       case measure => have := HK1.out; omega
       case rel => exact ⟨(wrap64 (x6_1 + 1)), tE, H', ⟨by have := HK1.out; omega⟩, by repeat (first | exact Drawn0.refl _ | apply Drawn0.step)⟩
      ·replace c7 := Bool.eq_false_iff.mpr c7
       subst c7
       have H1 : (if (bt a0 x6_1) = 95 then (impl_GoodName.l0 k1 a0 (a0.size : Int) (wrap64 (x6_1 + 1))) else (if x6_1 = 0 then (some false) else ((impl_isDigit.f (bt a0 x6_1)).bind fun t243 => (if t243 = true then (impl_GoodName.l0 k1 a0 (a0.size : Int) (wrap64 (x6_1 + 1))) else (some false))))) = some r := by rw [if_neg (show ¬ (false = true) by decide)] at H; exact H
       clear H
       have H := H1
       clear H1
       by_cases c9 : (bt a0 x6_1) = 95
       ·rw [if_pos c9] at H
        have c9b0 : ((bt a0 x6_1) == 95) = true := beq_iff_eq.mpr c9
        have c9b1 : ((bt a0 x6_1) != 95) = false := bne_eq_false_iff_eq.mpr c9
        clear c9
        have H' := Aside0.mk H
        clear H
        have p5 : 0 ≤ (x6_1 : Int) := of_decide_eq_true hE
        have q5 : x6_1 < (a0.size : Int) := of_decide_eq_true hE
        have hx5 := bt_at a0 x6_1
        replace p5 := eq_true p5
        replace q5 := eq_true q5
        go_wp2_with (first | ((with_reducible refine gate_callee (f := 63) rfl ?_); refine goesL_ (some 12) rfl rfl Try.func63 (by kernel_rfl) rfl #[.int .u8 (bt a0 x6_1)] rfl aE ?_; (with_reducible refine (impl_isLetter.calls (bt a0 x6_1) false _ A6.out).mono ?_); rintro e w' ⟨rfl, ⟨nd, rfl⟩⟩; refine ⟨_, rfl, ?_⟩; have p8 : 0 ≤ (x6_1 : Int) := of_decide_eq_true hE; have q8 : x6_1 < (a0.size : Int) := of_decide_eq_true hE; have hx8 := bt_at a0 x6_1; replace p8 := eq_true p8; replace q8 := eq_true q8))
        go_roundg k1
        case measure => have := HK1.out; omega
        case rel => exact ⟨(wrap64 (x6_1 + 1)), tE, H', ⟨by have := HK1.out; omega⟩, by repeat (first | exact Drawn0.refl _ | apply Drawn0.step)⟩
       ·rw [if_neg c9] at H
        have c9b0 : ((bt a0 x6_1) == 95) = false := beq_eq_false_iff_ne.mpr c9
        have c9b1 : ((bt a0 x6_1) != 95) = true := bne_iff_ne.mpr c9
        by_cases c10 : x6_1 = 0
        ·rw [if_pos c10] at H
         have c10b0 : (x6_1 == 0) = true := beq_iff_eq.mpr c10
         have c10b1 : (x6_1 != 0) = false := bne_eq_false_iff_eq.mpr c10
         clear c10
         obtain rfl := Option.some.inj H
         have p5 : 0 ≤ (x6_1 : Int) := of_decide_eq_true hE
         have q5 : x6_1 < (a0.size : Int) := of_decide_eq_true hE
         have hx5 := bt_at a0 x6_1
         replace p5 := eq_true p5
         replace q5 := eq_true q5
         go_wp2_with (first | ((with_reducible refine gate_callee (f := 63) rfl ?_); refine goesL_ (some 12) rfl rfl Try.func63 (by kernel_rfl) rfl #[.int .u8 (bt a0 x6_1)] rfl aE ?_; (with_reducible refine (impl_isLetter.calls (bt a0 x6_1) false _ A6.out).mono ?_); rintro e w' ⟨rfl, ⟨nd, rfl⟩⟩; refine ⟨_, rfl, ?_⟩; have p8 : 0 ≤ (x6_1 : Int) := of_decide_eq_true hE; have q8 : x6_1 < (a0.size : Int) := of_decide_eq_true hE; have hx8 := bt_at a0 x6_1; replace p8 := eq_true p8; replace q8 := eq_true q8))
         go_ret
         exact ⟨by first | rfl | (simp; done) | (simp [*]; done) | exact not_isEmpty _ | exact (not_isEmpty _).symm | exact is_empty _ | exact (is_empty _).symm, by repeat (first | exact Drawn0.refl _ | apply Drawn0.step)⟩
        ·rw [if_neg c10] at H
         have c10b0 : (x6_1 == 0) = false := beq_eq_false_iff_ne.mpr c10
         have c10b1 : (x6_1 != 0) = true := bne_iff_ne.mpr c10
         replace H := Option.bind_eq_some_iff.mp H
         obtain ⟨t243, A120, H⟩ := H
         replace H : (if t243 = true then (impl_GoodName.l0 k1 a0 (a0.size : Int) (wrap64 (x6_1 + 1))) else (some false)) = some r := H
         have A12 := Aside0.mk A120
         clear A120
         by_cases c13 : t243 = true
         ·subst c13
          have H1 : (impl_GoodName.l0 k1 a0 (a0.size : Int) (wrap64 (x6_1 + 1))) = some r := by rw [if_pos rfl] at H; exact H
          clear H
          have H := H1
          clear H1
          have H' := Aside0.mk H
          clear H
          have p5 : 0 ≤ (x6_1 : Int) := of_decide_eq_true hE
          have q5 : x6_1 < (a0.size : Int) := of_decide_eq_true hE
          have hx5 := bt_at a0 x6_1
          replace p5 := eq_true p5
          replace q5 := eq_true q5
          go_wp2_with (first | ((with_reducible refine gate_callee (f := 63) rfl ?_); refine goesL_ (some 12) rfl rfl Try.func63 (by kernel_rfl) rfl #[.int .u8 (bt a0 x6_1)] rfl aE ?_; (with_reducible refine (impl_isLetter.calls (bt a0 x6_1) false _ A6.out).mono ?_); rintro e w' ⟨rfl, ⟨nd, rfl⟩⟩; refine ⟨_, rfl, ?_⟩; have p8 : 0 ≤ (x6_1 : Int) := of_decide_eq_true hE; have q8 : x6_1 < (a0.size : Int) := of_decide_eq_true hE; have hx8 := bt_at a0 x6_1; replace p8 := eq_true p8; replace q8 := eq_true q8; have p11 : 0 ≤ (x6_1 : Int) := of_decide_eq_true hE; have q11 : x6_1 < (a0.size : Int) := of_decide_eq_true hE; have hx11 := bt_at a0 x6_1; replace p11 := eq_true p11; replace q11 := eq_true q11) | (go_at_call 64; (with_reducible refine (impl_isDigit.calls (bt a0 x6_1) true _ A12.out).mono ?_); rintro e w' ⟨rfl, ⟨nd, rfl⟩⟩))
          go_roundg k1
          case measure => have := HK1.out; omega
          case rel => exact ⟨(wrap64 (x6_1 + 1)), tE, H', ⟨by have := HK1.out; omega⟩, by repeat (first | exact Drawn0.refl _ | apply Drawn0.step)⟩
         ·replace c13 := Bool.eq_false_iff.mpr c13
          subst c13
          have H1 : (some false) = some r := by rw [if_neg (show ¬ (false = true) by decide)] at H; exact H
          clear H
          have H := H1
          clear H1
          obtain rfl := Option.some.inj H
          have p5 : 0 ≤ (x6_1 : Int) := of_decide_eq_true hE
          have q5 : x6_1 < (a0.size : Int) := of_decide_eq_true hE
          have hx5 := bt_at a0 x6_1
          replace p5 := eq_true p5
          replace q5 := eq_true q5
          go_wp2_with (first | ((with_reducible refine gate_callee (f := 63) rfl ?_); refine goesL_ (some 12) rfl rfl Try.func63 (by kernel_rfl) rfl #[.int .u8 (bt a0 x6_1)] rfl aE ?_; (with_reducible refine (impl_isLetter.calls (bt a0 x6_1) false _ A6.out).mono ?_); rintro e w' ⟨rfl, ⟨nd, rfl⟩⟩; refine ⟨_, rfl, ?_⟩; have p8 : 0 ≤ (x6_1 : Int) := of_decide_eq_true hE; have q8 : x6_1 < (a0.size : Int) := of_decide_eq_true hE; have hx8 := bt_at a0 x6_1; replace p8 := eq_true p8; replace q8 := eq_true q8; have p11 : 0 ≤ (x6_1 : Int) := of_decide_eq_true hE; have q11 : x6_1 < (a0.size : Int) := of_decide_eq_true hE; have hx11 := bt_at a0 x6_1; replace p11 := eq_true p11; replace q11 := eq_true q11) | (go_at_call 64; (with_reducible refine (impl_isDigit.calls (bt a0 x6_1) false _ A12.out).mono ?_); rintro e w' ⟨rfl, ⟨nd, rfl⟩⟩))
          go_ret
          exact ⟨by first | rfl | (simp; done) | (simp [*]; done) | exact not_isEmpty _ | exact (not_isEmpty _).symm | exact is_empty _ | exact (is_empty _).symm, by repeat (first | exact Drawn0.refl _ | apply Drawn0.step)⟩
     ·rw [if_neg c4] at H
      exact absurd H (by simp)
    ·rw [if_neg c3] at H
     exact absurd H (by simp)
   ·rw [if_neg c2] at H
    have c2b0 : decide (x6_1 < (a0.size : Int)) = false := decide_eq_false c2
    clear c2
    replace H := Option.bind_eq_some_iff.mp H
    obtain ⟨t241, A140, H⟩ := H
    replace H : (some t241) = some r := H
    have A14 := Aside0.mk A140
    clear A140
    obtain rfl := Option.some.inj H
    go_wp2_with (first | ((with_reducible refine gate_callee (f := 35) rfl ?_); refine goesL_ (some 34) rfl rfl Try.func35 (by kernel_rfl) rfl #[.int .i64 (a0.size : Int), .int .i64 1, .int .i64 20] rfl aE ?_; (with_reducible refine (impl_inRange.calls (a0.size : Int) 1 20 t241 _ A14.out).mono ?_); rintro e w' ⟨rfl, ⟨nd, rfl⟩⟩; refine ⟨_, rfl, ?_⟩))
    go_ret
    exact ⟨by first | rfl | (simp; done) | (simp [*]; done) | exact not_isEmpty _ | exact (not_isEmpty _).symm | exact is_empty _ | exact (is_empty _).symm, by repeat (first | exact Drawn0.refl _ | apply Drawn0.step)⟩
def impl_GoodValues.l0 : Nat → List (S59) → List (S59) → Int → Int → Option (Bool)
 | 0, _, _, _, _ => none
 | k + 1, x0, x5, x6, x7 => if x7 < x6 then (if 0 ≤ x7 then (if x7 < (x5.length : Int) then ((impl_GoodName.f k ((rd_T59 x5 x7).f0)).bind fun t246 => (if t246 = true then (if x7 > 0 then (if 0 ≤ (wrap64 (x7 - 1)) then (if (wrap64 (x7 - 1)) < (x0.length : Int) then (if ((Op.bytesLess (((rd_T59 x0 (wrap64 (x7 - 1))).f0).toList) (((rd_T59 x5 x7).f0).toList)) = true) then (if (((rd_T59 x5 x7).f2).size : Int) > 100 then (some false) else (impl_GoodValues.l0 k x0 x5 x6 (wrap64 (x7 + 1)))) else (some false)) else (none)) else (none)) else (if (((rd_T59 x5 x7).f2).size : Int) > 100 then (some false) else (impl_GoodValues.l0 k x0 x5 x6 (wrap64 (x7 + 1))))) else (some false))) else (none)) else (none)) else (some (decide ((x0.length : Int) ≤ 30)))
def impl_GoodValues.f (k : Nat) (l0 : List (S59)) : Option (Bool) := impl_GoodValues.l0 k l0 l0 (l0.length : Int) 0
theorem impl_GoodValues.mono_l : ∀ k, (∀ y0 y1 y2 y3, LeO (impl_GoodValues.l0 k y0 y1 y2 y3) (impl_GoodValues.l0 (k + 1) y0 y1 y2 y3))
 | 0 => fun _ _ _ _ r h => by simp [impl_GoodValues.l0] at h
 | k + 1 => by
  have ih0 := impl_GoodValues.mono_l k
  ·intro y0 y1 y2 y3
   unfold impl_GoodValues.l0
   repeat' first
   | (with_reducible exact ih0 _ _ _ _)
   | (with_reducible exact impl_GoodName.mono _ _)
   | (with_reducible first | exact LeO.refl _ | exact LeO.none _ | refine LeO.ite ?_ ?_ | refine LeO.bind ?_ (fun _ => ?_))
   | exact ih0 _ _ _ _
   | exact impl_GoodName.mono _ _ | exact LeO.none _ | refine LeO.ite ?_ ?_ | refine LeO.bind ?_ (fun _ => ?_)
theorem impl_GoodValues.mono : ∀ a0 k, LeO (impl_GoodValues.f k a0) (impl_GoodValues.f (k + 1) a0) := by
 intro a0 k
 have ih0 := impl_GoodValues.mono_l k
 unfold impl_GoodValues.f
 repeat' first
   | (with_reducible exact ih0 _ _ _ _)
   | (with_reducible exact impl_GoodName.mono _ _)
   | (with_reducible first | exact LeO.refl _ | exact LeO.none _ | refine LeO.ite ?_ ?_ | refine LeO.bind ?_ (fun _ => ?_))
   | exact ih0 _ _ _ _
   | exact impl_GoodName.mono _ _ | exact LeO.none _ | refine LeO.ite ?_ ?_ | refine LeO.bind ?_ (fun _ => ?_)
set_option maxHeartbeats 8000000 in
set_option maxRecDepth 100000 in
theorem impl_GoodValues.calls (k : Nat) (A0 : Option Addr) (c0 : Nat) (l0 : List (S59)) (r : Bool) (w : World) (hr0 : Kd.C k59 w A0 l0.length l0) (hc0 : l0.length ≤ c0) (h : impl_GoodValues.f k l0 = some r) :
  Calls Try.prog 36 #[.slice A0 l0.length c0] w fun e w' => e = .returned (.bool r) ∧ Below w.heap.size w w' := by
 have hu59 := Try.underlying59
 have HR0 := Aside0.mk hr0
 have HC0 := Aside0.mk hc0
 clear hr0 hc0
 have HB := Aside0.mk (Below.refl w.heap.size w)
 have H : (impl_GoodValues.l0 k l0 l0 (l0.length : Int) 0) = some r := h
 clear h
 have H' := Aside0.mk H
 clear H
 go_enter Try.func36, Try.ntmps36
 go_wp2
 repeat (go_quiet (fail); try go_wp2)
 go_loopg [7] k (fun kq v7 w' => ∃ (x7_1 : Int), v7 = .int .i64 x7_1 ∧ Aside0 (impl_GoodValues.l0 kq l0 l0 (l0.length : Int) x7_1 = some r) ∧ Aside0 (kq ≤ k) ∧ Aside0 (Below w.heap.size w w'))
 case atStart => exact ⟨(0), tE, H', ⟨Nat.le_refl _⟩, ⟨by repeat (first | (with_reducible first | exact HB.out | apply below_alloc | apply pw_below_drewN | apply below_drew1) | exact HB.out)⟩⟩
 case round =>
  clear H'
  obtain ⟨x7_1, rfl, HA, HK1, HB⟩ := hrel
  cases gk with
  | zero => exact absurd HA.out (by simp [impl_GoodValues.l0])
  | succ k1 =>
   have H := HA.out
   clear HA
   simp only [impl_GoodValues.l0] at H
   by_cases c2 : x7_1 < (l0.length : Int)
   ·rw [if_pos c2] at H
    have c2b0 : decide (x7_1 < (l0.length : Int)) = true := decide_eq_true c2
    clear c2
    by_cases c3 : 0 ≤ x7_1
    ·rw [if_pos c3] at H
     have c3b0 : decide (0 ≤ x7_1) = true := decide_eq_true c3
     clear c3
     by_cases c4 : x7_1 < (l0.length : Int)
     ·rw [if_pos c4] at H
      have c4b0 : decide (x7_1 < (l0.length : Int)) = true := decide_eq_true c4
      clear c4
      replace H := Option.bind_eq_some_iff.mp H
      obtain ⟨t246, A50, H⟩ := H
      replace H : (if t246 = true then (if x7_1 > 0 then (if 0 ≤ (wrap64 (x7_1 - 1)) then (if (wrap64 (x7_1 - 1)) < (l0.length : Int) then (if ((Op.bytesLess (((rd_T59 l0 (wrap64 (x7_1 - 1))).f0).toList) (((rd_T59 l0 x7_1).f0).toList)) = true) then (if (((rd_T59 l0 x7_1).f2).size : Int) > 100 then (some false) else (impl_GoodValues.l0 k1 l0 l0 (l0.length : Int) (wrap64 (x7_1 + 1)))) else (some false)) else (none)) else (none)) else (if (((rd_T59 l0 x7_1).f2).size : Int) > 100 then (some false) else (impl_GoodValues.l0 k1 l0 l0 (l0.length : Int) (wrap64 (x7_1 + 1))))) else (some false)) = some r := H
      have A5 := Aside0.mk A50
      clear A50
      by_cases c6 : t246 = true
      ·subst c6
       have H1 : (if x7_1 > 0 then (if 0 ≤ (wrap64 (x7_1 - 1)) then (if (wrap64 (x7_1 - 1)) < (l0.length : Int) then (if ((Op.bytesLess (((rd_T59 l0 (wrap64 (x7_1 - 1))).f0).toList) (((rd_T59 l0 x7_1).f0).toList)) = true) then (if (((rd_T59 l0 x7_1).f2).size : Int) > 100 then (some false) else (impl_GoodValues.l0 k1 l0 l0 (l0.length : Int) (wrap64 (x7_1 + 1)))) else (some false)) else (none)) else (none)) else (if (((rd_T59 l0 x7_1).f2).size : Int) > 100 then (some false) else (impl_GoodValues.l0 k1 l0 l0 (l0.length : Int) (wrap64 (x7_1 + 1))))) = some r := by rw [if_pos rfl] at H; exact H
       clear H
       have H := H1
       clear H1
       by_cases c7 : x7_1 > 0
       ·rw [if_pos c7] at H
        have c7b0 : decide (0 < x7_1) = true := decide_eq_true c7
        clear c7
        obtain ⟨ji8, hji8⟩ : ∃ j_ : Int, (wrap64 (x7_1 - 1)) = j_ := ⟨_, rfl⟩
        replace H : (if 0 ≤ (ji8) then (if (ji8) < (l0.length : Int) then (if ((Op.bytesLess (((rd_T59 l0 (ji8)).f0).toList) (((rd_T59 l0 x7_1).f0).toList)) = true) then (if (((rd_T59 l0 x7_1).f2).size : Int) > 100 then (some false) else (impl_GoodValues.l0 k1 l0 l0 (l0.length : Int) (wrap64 (x7_1 + 1)))) else (some false)) else (none)) else (none)) = some r := by first | (rw [hji8] at H; exact H) | (simp only [hji8] at H ⊢; exact H)
        (try rw [hji8] at A5)
        have hji8w : (IntKind.i64.wrap (x7_1 - 1)) = ji8 := (i64_w _).trans hji8
        by_cases c9 : 0 ≤ (ji8)
        ·rw [if_pos c9] at H
         have c9b0 : decide (0 ≤ (ji8)) = true := decide_eq_true c9
         clear c9
         by_cases c10 : (ji8) < (l0.length : Int)
         ·rw [if_pos c10] at H
          have c10b0 : decide ((ji8) < (l0.length : Int)) = true := decide_eq_true c10
          clear c10
          by_cases c11 : ((Op.bytesLess (((rd_T59 l0 (ji8)).f0).toList) (((rd_T59 l0 x7_1).f0).toList)) = true)
          ·rw [if_pos c11] at H
           have c11b0 : (Op.bytesLess (((rd_T59 l0 (ji8)).f0).toList) (((rd_T59 l0 x7_1).f0).toList)) = true := c11
           clear c11
           by_cases c12 : (((rd_T59 l0 x7_1).f2).size : Int) > 100
           ·rw [if_pos c12] at H
            have c12b0 : decide (100 < (((rd_T59 l0 x7_1).f2).size : Int)) = true := decide_eq_true c12
            have c12b1 : decide (100 < ((rd_T59 l0 x7_1).f2).size) = true := decide_eq_true (by omega)
            clear c12
            obtain rfl := Option.some.inj H
            have p244 : 0 ≤ (x7_1 : Int) := of_decide_eq_true hE
            have q244 : x7_1 < (l0.length : Int) := of_decide_eq_true hE
            obtain ⟨ad244, e244, hx244_0, hx244_1, hx244_2⟩ := at_T59 HR0.out x7_1 p244 q244
            cases e244
            replace hx244_0 := (HB.out.cell (World.block_lt_of_cell? w _ hx244_0)).trans hx244_0
            replace hx244_1 := (HB.out.cell (World.block_lt_of_cell? w _ hx244_1)).trans hx244_1
            replace hx244_2 := (HB.out.cell (World.block_lt_of_cell? w _ hx244_2)).trans hx244_2
            replace p244 := eq_true p244
            replace q244 := eq_true q244
            go_wp2_with (first | ((with_reducible refine gate_dst (N := 4) rfl ?_); (try (refine gate_guard (by rfl) ?_; dsimp only)); refine box_event rfl (N := 4) rfl (cs := #[.string (⟨#[]⟩ : ByteArray), .int .i64 0, .string (⟨#[]⟩ : ByteArray)]) (t := 59) sE ?_; intro gb245 hg w13 hbox hb; have BK245 := Aside0.mk hbox; have GW245 := gS w hg (lU); have GE245 := gS w hg (lU); replace HB := bH (lU) hb; clear hb hbox hg; have hcz14_0 := cz BK245 0 (.string (⟨#[]⟩ : ByteArray)); have hcz14_1 := cz BK245 1 (.int .i64 0); have hcz14_2 := cz BK245 2 (.string (⟨#[]⟩ : ByteArray)); have hfz14_0 := fz BK245 0; have hfz14_1 := fz BK245 1; have hfz14_2 := fz BK245 2) | ((with_reducible refine gate_store (t := 59) (p := 4) rfl ?_); (try (rw [drewN_self w13]; generalize hq_ : World.drewN w13 _ = w13; replace BK245 := Aside0.mk (blk_at hq_ BK245.out); replace HB := Aside0.mk (below_at hq_ HB.out); clear hq_)); refine store_event (t := 59) (p := 4) (v := ?vo_w15) (w1 := (((w13.setCell ⟨gb245, 0, none⟩ (.string ((rd_T59 l0 x7_1).f0))).setCell ⟨gb245, 1, none⟩ (.int .i64 ((rd_T59 l0 x7_1).f1))).setCell ⟨gb245, 2, none⟩ (.string ((rd_T59 l0 x7_1).f2)))) ?hg ?ho ?hn ?hr ?_; (case ho => rfl); (case hg => rfl); (case hn => rfl); (case hr => first | (go_simp; done) | (go_simp; rfl) | (have hq0_ := (blk_cell BK245.out 0).trans (show _ = some _ from rfl); have hf0_ := blk_frozen BK245.out 0; have hq1_ := (blk_cell BK245.out 1).trans (show _ = some _ from rfl); have hf1_ := blk_frozen BK245.out 1; have hq2_ := (blk_cell BK245.out 2).trans (show _ = some _ from rfl); have hf2_ := blk_frozen BK245.out 2; first | (go_simp; done) | (go_simp; rfl))); intro w15 hw; replace BK245 : Aside0 (w15.heap[gb245]? = some (.cells #[.string ((rd_T59 l0 x7_1).f0), .int .i64 ((rd_T59 l0 x7_1).f1), .string ((rd_T59 l0 x7_1).f2)] 59 (0, 0))) := ⟨(by rw [hw]; exact (by refine bU ?_; refine blk_put (cs := #[.string ((rd_T59 l0 x7_1).f0), .int .i64 ((rd_T59 l0 x7_1).f1), .string (⟨#[]⟩ : ByteArray)]) ?_ 2 _ rfl; refine bU ?_; refine blk_put (cs := #[.string ((rd_T59 l0 x7_1).f0), .int .i64 0, .string (⟨#[]⟩ : ByteArray)]) ?_ 1 _ rfl; refine bU ?_; refine blk_put (cs := #[.string (⟨#[]⟩ : ByteArray), .int .i64 0, .string (⟨#[]⟩ : ByteArray)]) ?_ 0 _ rfl; refine bU ?_; exact BK245.out))⟩; replace HB : Aside0 (Below w.heap.size w w15) := ⟨(by rw [hw]; exact (lV1 GE245))⟩; clear hw; have hcz16_0 := cz BK245 0 (.string ((rd_T59 l0 x7_1).f0)); have hcz16_1 := cz BK245 1 (.int .i64 ((rd_T59 l0 x7_1).f1)); have hcz16_2 := cz BK245 2 (.string ((rd_T59 l0 x7_1).f2)); have hfz16_0 := fz BK245 0; have hfz16_1 := fz BK245 1; have hfz16_2 := fz BK245 2) | (go_at_call 55; (with_reducible refine (impl_GoodName.calls k1 ((rd_T59 l0 x7_1).f0) true _ A5.out).mono ?_); rintro e w' ⟨rfl, ⟨nd, rfl⟩⟩; (try first | exact ⟨rfl, _, World.drewN_drewN _ _ _⟩ | exact ⟨rfl, _, Eq.trans (World.drewN_drewN _ _ _) (congrArg (World.drewN _) (Nat.add_assoc _ _ _))⟩); have p247 : 0 ≤ ((ji8) : Int) := of_decide_eq_true hE; have q247 : (ji8) < (l0.length : Int) := of_decide_eq_true hE; obtain ⟨ad247, e247, hx247_0, hx247_1, hx247_2⟩ := at_T59 HR0.out (ji8) p247 q247; obtain rfl : ad244 = ad247 := (by injection e247); replace hx247_0 := (HB.out.cell (World.block_lt_of_cell? w _ hx247_0)).trans hx247_0; replace hx247_1 := (HB.out.cell (World.block_lt_of_cell? w _ hx247_1)).trans hx247_1; replace hx247_2 := (HB.out.cell (World.block_lt_of_cell? w _ hx247_2)).trans hx247_2; replace p247 := eq_true p247; replace q247 := eq_true q247))
            repeat (go_quiet (first | ((with_reducible refine gate_dst (N := 4) rfl ?_); (try (refine gate_guard (by rfl) ?_; dsimp only)); refine box_event rfl (N := 4) rfl (cs := #[.string (⟨#[]⟩ : ByteArray), .int .i64 0, .string (⟨#[]⟩ : ByteArray)]) (t := 59) sE ?_; intro gb245 hg w13 hbox hb; have BK245 := Aside0.mk hbox; have GW245 := gS w hg (lU); have GE245 := gS w hg (lU); replace HB := bH (lU) hb; clear hb hbox hg; have hcz14_0 := cz BK245 0 (.string (⟨#[]⟩ : ByteArray)); have hcz14_1 := cz BK245 1 (.int .i64 0); have hcz14_2 := cz BK245 2 (.string (⟨#[]⟩ : ByteArray)); have hfz14_0 := fz BK245 0; have hfz14_1 := fz BK245 1; have hfz14_2 := fz BK245 2) | ((with_reducible refine gate_store (t := 59) (p := 4) rfl ?_); (try (rw [drewN_self w13]; generalize hq_ : World.drewN w13 _ = w13; replace BK245 := Aside0.mk (blk_at hq_ BK245.out); replace HB := Aside0.mk (below_at hq_ HB.out); clear hq_)); refine store_event (t := 59) (p := 4) (v := ?vo_w15) (w1 := (((w13.setCell ⟨gb245, 0, none⟩ (.string ((rd_T59 l0 x7_1).f0))).setCell ⟨gb245, 1, none⟩ (.int .i64 ((rd_T59 l0 x7_1).f1))).setCell ⟨gb245, 2, none⟩ (.string ((rd_T59 l0 x7_1).f2)))) ?hg ?ho ?hn ?hr ?_; (case ho => rfl); (case hg => rfl); (case hn => rfl); (case hr => first | (go_simp; done) | (go_simp; rfl) | (have hq0_ := (blk_cell BK245.out 0).trans (show _ = some _ from rfl); have hf0_ := blk_frozen BK245.out 0; have hq1_ := (blk_cell BK245.out 1).trans (show _ = some _ from rfl); have hf1_ := blk_frozen BK245.out 1; have hq2_ := (blk_cell BK245.out 2).trans (show _ = some _ from rfl); have hf2_ := blk_frozen BK245.out 2; first | (go_simp; done) | (go_simp; rfl))); intro w15 hw; replace BK245 : Aside0 (w15.heap[gb245]? = some (.cells #[.string ((rd_T59 l0 x7_1).f0), .int .i64 ((rd_T59 l0 x7_1).f1), .string ((rd_T59 l0 x7_1).f2)] 59 (0, 0))) := ⟨(by rw [hw]; exact (by refine bU ?_; refine blk_put (cs := #[.string ((rd_T59 l0 x7_1).f0), .int .i64 ((rd_T59 l0 x7_1).f1), .string (⟨#[]⟩ : ByteArray)]) ?_ 2 _ rfl; refine bU ?_; refine blk_put (cs := #[.string ((rd_T59 l0 x7_1).f0), .int .i64 0, .string (⟨#[]⟩ : ByteArray)]) ?_ 1 _ rfl; refine bU ?_; refine blk_put (cs := #[.string (⟨#[]⟩ : ByteArray), .int .i64 0, .string (⟨#[]⟩ : ByteArray)]) ?_ 0 _ rfl; refine bU ?_; exact BK245.out))⟩; replace HB : Aside0 (Below w.heap.size w w15) := ⟨(by rw [hw]; exact (lV1 GE245))⟩; clear hw; have hcz16_0 := cz BK245 0 (.string ((rd_T59 l0 x7_1).f0)); have hcz16_1 := cz BK245 1 (.int .i64 ((rd_T59 l0 x7_1).f1)); have hcz16_2 := cz BK245 2 (.string ((rd_T59 l0 x7_1).f2)); have hfz16_0 := fz BK245 0; have hfz16_1 := fz BK245 1; have hfz16_2 := fz BK245 2) | (go_at_call 55; (with_reducible refine (impl_GoodName.calls k1 ((rd_T59 l0 x7_1).f0) true _ A5.out).mono ?_); rintro e w' ⟨rfl, ⟨nd, rfl⟩⟩; (try first | exact ⟨rfl, _, World.drewN_drewN _ _ _⟩ | exact ⟨rfl, _, Eq.trans (World.drewN_drewN _ _ _) (congrArg (World.drewN _) (Nat.add_assoc _ _ _))⟩); have p247 : 0 ≤ ((ji8) : Int) := of_decide_eq_true hE; have q247 : (ji8) < (l0.length : Int) := of_decide_eq_true hE; obtain ⟨ad247, e247, hx247_0, hx247_1, hx247_2⟩ := at_T59 HR0.out (ji8) p247 q247; obtain rfl : ad244 = ad247 := (by injection e247); replace hx247_0 := (HB.out.cell (World.block_lt_of_cell? w _ hx247_0)).trans hx247_0; replace hx247_1 := (HB.out.cell (World.block_lt_of_cell? w _ hx247_1)).trans hx247_1; replace hx247_2 := (HB.out.cell (World.block_lt_of_cell? w _ hx247_2)).trans hx247_2; replace p247 := eq_true p247; replace q247 := eq_true q247)); try go_wp2_with (first | ((with_reducible refine gate_dst (N := 4) rfl ?_); (try (refine gate_guard (by rfl) ?_; dsimp only)); refine box_event rfl (N := 4) rfl (cs := #[.string (⟨#[]⟩ : ByteArray), .int .i64 0, .string (⟨#[]⟩ : ByteArray)]) (t := 59) sE ?_; intro gb245 hg w13 hbox hb; have BK245 := Aside0.mk hbox; have GW245 := gS w hg (lU); have GE245 := gS w hg (lU); replace HB := bH (lU) hb; clear hb hbox hg; have hcz14_0 := cz BK245 0 (.string (⟨#[]⟩ : ByteArray)); have hcz14_1 := cz BK245 1 (.int .i64 0); have hcz14_2 := cz BK245 2 (.string (⟨#[]⟩ : ByteArray)); have hfz14_0 := fz BK245 0; have hfz14_1 := fz BK245 1; have hfz14_2 := fz BK245 2) | ((with_reducible refine gate_store (t := 59) (p := 4) rfl ?_); (try (rw [drewN_self w13]; generalize hq_ : World.drewN w13 _ = w13; replace BK245 := Aside0.mk (blk_at hq_ BK245.out); replace HB := Aside0.mk (below_at hq_ HB.out); clear hq_)); refine store_event (t := 59) (p := 4) (v := ?vo_w15) (w1 := (((w13.setCell ⟨gb245, 0, none⟩ (.string ((rd_T59 l0 x7_1).f0))).setCell ⟨gb245, 1, none⟩ (.int .i64 ((rd_T59 l0 x7_1).f1))).setCell ⟨gb245, 2, none⟩ (.string ((rd_T59 l0 x7_1).f2)))) ?hg ?ho ?hn ?hr ?_; (case ho => rfl); (case hg => rfl); (case hn => rfl); (case hr => first | (go_simp; done) | (go_simp; rfl) | (have hq0_ := (blk_cell BK245.out 0).trans (show _ = some _ from rfl); have hf0_ := blk_frozen BK245.out 0; have hq1_ := (blk_cell BK245.out 1).trans (show _ = some _ from rfl); have hf1_ := blk_frozen BK245.out 1; have hq2_ := (blk_cell BK245.out 2).trans (show _ = some _ from rfl); have hf2_ := blk_frozen BK245.out 2; first | (go_simp; done) | (go_simp; rfl))); intro w15 hw; replace BK245 : Aside0 (w15.heap[gb245]? = some (.cells #[.string ((rd_T59 l0 x7_1).f0), .int .i64 ((rd_T59 l0 x7_1).f1), .string ((rd_T59 l0 x7_1).f2)] 59 (0, 0))) := ⟨(by rw [hw]; exact (by refine bU ?_; refine blk_put (cs := #[.string ((rd_T59 l0 x7_1).f0), .int .i64 ((rd_T59 l0 x7_1).f1), .string (⟨#[]⟩ : ByteArray)]) ?_ 2 _ rfl; refine bU ?_; refine blk_put (cs := #[.string ((rd_T59 l0 x7_1).f0), .int .i64 0, .string (⟨#[]⟩ : ByteArray)]) ?_ 1 _ rfl; refine bU ?_; refine blk_put (cs := #[.string (⟨#[]⟩ : ByteArray), .int .i64 0, .string (⟨#[]⟩ : ByteArray)]) ?_ 0 _ rfl; refine bU ?_; exact BK245.out))⟩; replace HB : Aside0 (Below w.heap.size w w15) := ⟨(by rw [hw]; exact (lV1 GE245))⟩; clear hw; have hcz16_0 := cz BK245 0 (.string ((rd_T59 l0 x7_1).f0)); have hcz16_1 := cz BK245 1 (.int .i64 ((rd_T59 l0 x7_1).f1)); have hcz16_2 := cz BK245 2 (.string ((rd_T59 l0 x7_1).f2)); have hfz16_0 := fz BK245 0; have hfz16_1 := fz BK245 1; have hfz16_2 := fz BK245 2) | (go_at_call 55; (with_reducible refine (impl_GoodName.calls k1 ((rd_T59 l0 x7_1).f0) true _ A5.out).mono ?_); rintro e w' ⟨rfl, ⟨nd, rfl⟩⟩; (try first | exact ⟨rfl, _, World.drewN_drewN _ _ _⟩ | exact ⟨rfl, _, Eq.trans (World.drewN_drewN _ _ _) (congrArg (World.drewN _) (Nat.add_assoc _ _ _))⟩); have p247 : 0 ≤ ((ji8) : Int) := of_decide_eq_true hE; have q247 : (ji8) < (l0.length : Int) := of_decide_eq_true hE; obtain ⟨ad247, e247, hx247_0, hx247_1, hx247_2⟩ := at_T59 HR0.out (ji8) p247 q247; obtain rfl : ad244 = ad247 := (by injection e247); replace hx247_0 := (HB.out.cell (World.block_lt_of_cell? w _ hx247_0)).trans hx247_0; replace hx247_1 := (HB.out.cell (World.block_lt_of_cell? w _ hx247_1)).trans hx247_1; replace hx247_2 := (HB.out.cell (World.block_lt_of_cell? w _ hx247_2)).trans hx247_2; replace p247 := eq_true p247; replace q247 := eq_true q247)))
            go_ret
            exact ⟨by first | rfl | (simp [errW_none, errW_some] <;> rfl) | (simp only [← hji8]; first | rfl | (simp [errW_none, errW_some] <;> rfl)) | (simp [*, errW_none, errW_some] <;> rfl), lV1 GE245⟩
           ·rw [if_neg c12] at H
            have c12b0 : decide (100 < (((rd_T59 l0 x7_1).f2).size : Int)) = false := decide_eq_false c12
            have c12b1 : decide (100 < ((rd_T59 l0 x7_1).f2).size) = false := decide_eq_false (by omega)
            clear c12
            have H' := Aside0.mk H
            clear H
            have p244 : 0 ≤ (x7_1 : Int) := of_decide_eq_true hE
            have q244 : x7_1 < (l0.length : Int) := of_decide_eq_true hE
            obtain ⟨ad244, e244, hx244_0, hx244_1, hx244_2⟩ := at_T59 HR0.out x7_1 p244 q244
            cases e244
            replace hx244_0 := (HB.out.cell (World.block_lt_of_cell? w _ hx244_0)).trans hx244_0
            replace hx244_1 := (HB.out.cell (World.block_lt_of_cell? w _ hx244_1)).trans hx244_1
            replace hx244_2 := (HB.out.cell (World.block_lt_of_cell? w _ hx244_2)).trans hx244_2
            replace p244 := eq_true p244
            replace q244 := eq_true q244
            go_wp2_with (first | ((with_reducible refine gate_dst (N := 4) rfl ?_); (try (refine gate_guard (by rfl) ?_; dsimp only)); refine box_event rfl (N := 4) rfl (cs := #[.string (⟨#[]⟩ : ByteArray), .int .i64 0, .string (⟨#[]⟩ : ByteArray)]) (t := 59) sE ?_; intro gb245 hg w17 hbox hb; have BK245 := Aside0.mk hbox; have GW245 := gS w hg (lU); have GE245 := gS w hg (lU); replace HB := bH (lU) hb; clear hb hbox hg; have hcz18_0 := cz BK245 0 (.string (⟨#[]⟩ : ByteArray)); have hcz18_1 := cz BK245 1 (.int .i64 0); have hcz18_2 := cz BK245 2 (.string (⟨#[]⟩ : ByteArray)); have hfz18_0 := fz BK245 0; have hfz18_1 := fz BK245 1; have hfz18_2 := fz BK245 2) | ((with_reducible refine gate_store (t := 59) (p := 4) rfl ?_); (try (rw [drewN_self w17]; generalize hq_ : World.drewN w17 _ = w17; replace BK245 := Aside0.mk (blk_at hq_ BK245.out); replace HB := Aside0.mk (below_at hq_ HB.out); clear hq_)); refine store_event (t := 59) (p := 4) (v := ?vo_w19) (w1 := (((w17.setCell ⟨gb245, 0, none⟩ (.string ((rd_T59 l0 x7_1).f0))).setCell ⟨gb245, 1, none⟩ (.int .i64 ((rd_T59 l0 x7_1).f1))).setCell ⟨gb245, 2, none⟩ (.string ((rd_T59 l0 x7_1).f2)))) ?hg ?ho ?hn ?hr ?_; (case ho => rfl); (case hg => rfl); (case hn => rfl); (case hr => first | (go_simp; done) | (go_simp; rfl) | (have hq0_ := (blk_cell BK245.out 0).trans (show _ = some _ from rfl); have hf0_ := blk_frozen BK245.out 0; have hq1_ := (blk_cell BK245.out 1).trans (show _ = some _ from rfl); have hf1_ := blk_frozen BK245.out 1; have hq2_ := (blk_cell BK245.out 2).trans (show _ = some _ from rfl); have hf2_ := blk_frozen BK245.out 2; first | (go_simp; done) | (go_simp; rfl))); intro w19 hw; replace BK245 : Aside0 (w19.heap[gb245]? = some (.cells #[.string ((rd_T59 l0 x7_1).f0), .int .i64 ((rd_T59 l0 x7_1).f1), .string ((rd_T59 l0 x7_1).f2)] 59 (0, 0))) := ⟨(by rw [hw]; exact (by refine bU ?_; refine blk_put (cs := #[.string ((rd_T59 l0 x7_1).f0), .int .i64 ((rd_T59 l0 x7_1).f1), .string (⟨#[]⟩ : ByteArray)]) ?_ 2 _ rfl; refine bU ?_; refine blk_put (cs := #[.string ((rd_T59 l0 x7_1).f0), .int .i64 0, .string (⟨#[]⟩ : ByteArray)]) ?_ 1 _ rfl; refine bU ?_; refine blk_put (cs := #[.string (⟨#[]⟩ : ByteArray), .int .i64 0, .string (⟨#[]⟩ : ByteArray)]) ?_ 0 _ rfl; refine bU ?_; exact BK245.out))⟩; replace HB : Aside0 (Below w.heap.size w w19) := ⟨(by rw [hw]; exact (lV1 GE245))⟩; clear hw; have hcz20_0 := cz BK245 0 (.string ((rd_T59 l0 x7_1).f0)); have hcz20_1 := cz BK245 1 (.int .i64 ((rd_T59 l0 x7_1).f1)); have hcz20_2 := cz BK245 2 (.string ((rd_T59 l0 x7_1).f2)); have hfz20_0 := fz BK245 0; have hfz20_1 := fz BK245 1; have hfz20_2 := fz BK245 2) | (go_at_call 55; (with_reducible refine (impl_GoodName.calls k1 ((rd_T59 l0 x7_1).f0) true _ A5.out).mono ?_); rintro e w' ⟨rfl, ⟨nd, rfl⟩⟩; (try first | exact ⟨rfl, _, World.drewN_drewN _ _ _⟩ | exact ⟨rfl, _, Eq.trans (World.drewN_drewN _ _ _) (congrArg (World.drewN _) (Nat.add_assoc _ _ _))⟩); have p247 : 0 ≤ ((ji8) : Int) := of_decide_eq_true hE; have q247 : (ji8) < (l0.length : Int) := of_decide_eq_true hE; obtain ⟨ad247, e247, hx247_0, hx247_1, hx247_2⟩ := at_T59 HR0.out (ji8) p247 q247; obtain rfl : ad244 = ad247 := (by injection e247); replace hx247_0 := (HB.out.cell (World.block_lt_of_cell? w _ hx247_0)).trans hx247_0; replace hx247_1 := (HB.out.cell (World.block_lt_of_cell? w _ hx247_1)).trans hx247_1; replace hx247_2 := (HB.out.cell (World.block_lt_of_cell? w _ hx247_2)).trans hx247_2; replace p247 := eq_true p247; replace q247 := eq_true q247))
            repeat (go_quiet (first | ((with_reducible refine gate_dst (N := 4) rfl ?_); (try (refine gate_guard (by rfl) ?_; dsimp only)); refine box_event rfl (N := 4) rfl (cs := #[.string (⟨#[]⟩ : ByteArray), .int .i64 0, .string (⟨#[]⟩ : ByteArray)]) (t := 59) sE ?_; intro gb245 hg w17 hbox hb; have BK245 := Aside0.mk hbox; have GW245 := gS w hg (lU); have GE245 := gS w hg (lU); replace HB := bH (lU) hb; clear hb hbox hg; have hcz18_0 := cz BK245 0 (.string (⟨#[]⟩ : ByteArray)); have hcz18_1 := cz BK245 1 (.int .i64 0); have hcz18_2 := cz BK245 2 (.string (⟨#[]⟩ : ByteArray)); have hfz18_0 := fz BK245 0; have hfz18_1 := fz BK245 1; have hfz18_2 := fz BK245 2) | ((with_reducible refine gate_store (t := 59) (p := 4) rfl ?_); (try (rw [drewN_self w17]; generalize hq_ : World.drewN w17 _ = w17; replace BK245 := Aside0.mk (blk_at hq_ BK245.out); replace HB := Aside0.mk (below_at hq_ HB.out); clear hq_)); refine store_event (t := 59) (p := 4) (v := ?vo_w19) (w1 := (((w17.setCell ⟨gb245, 0, none⟩ (.string ((rd_T59 l0 x7_1).f0))).setCell ⟨gb245, 1, none⟩ (.int .i64 ((rd_T59 l0 x7_1).f1))).setCell ⟨gb245, 2, none⟩ (.string ((rd_T59 l0 x7_1).f2)))) ?hg ?ho ?hn ?hr ?_; (case ho => rfl); (case hg => rfl); (case hn => rfl); (case hr => first | (go_simp; done) | (go_simp; rfl) | (have hq0_ := (blk_cell BK245.out 0).trans (show _ = some _ from rfl); have hf0_ := blk_frozen BK245.out 0; have hq1_ := (blk_cell BK245.out 1).trans (show _ = some _ from rfl); have hf1_ := blk_frozen BK245.out 1; have hq2_ := (blk_cell BK245.out 2).trans (show _ = some _ from rfl); have hf2_ := blk_frozen BK245.out 2; first | (go_simp; done) | (go_simp; rfl))); intro w19 hw; replace BK245 : Aside0 (w19.heap[gb245]? = some (.cells #[.string ((rd_T59 l0 x7_1).f0), .int .i64 ((rd_T59 l0 x7_1).f1), .string ((rd_T59 l0 x7_1).f2)] 59 (0, 0))) := ⟨(by rw [hw]; exact (by refine bU ?_; refine blk_put (cs := #[.string ((rd_T59 l0 x7_1).f0), .int .i64 ((rd_T59 l0 x7_1).f1), .string (⟨#[]⟩ : ByteArray)]) ?_ 2 _ rfl; refine bU ?_; refine blk_put (cs := #[.string ((rd_T59 l0 x7_1).f0), .int .i64 0, .string (⟨#[]⟩ : ByteArray)]) ?_ 1 _ rfl; refine bU ?_; refine blk_put (cs := #[.string (⟨#[]⟩ : ByteArray), .int .i64 0, .string (⟨#[]⟩ : ByteArray)]) ?_ 0 _ rfl; refine bU ?_; exact BK245.out))⟩; replace HB : Aside0 (Below w.heap.size w w19) := ⟨(by rw [hw]; exact (lV1 GE245))⟩; clear hw; have hcz20_0 := cz BK245 0 (.string ((rd_T59 l0 x7_1).f0)); have hcz20_1 := cz BK245 1 (.int .i64 ((rd_T59 l0 x7_1).f1)); have hcz20_2 := cz BK245 2 (.string ((rd_T59 l0 x7_1).f2)); have hfz20_0 := fz BK245 0; have hfz20_1 := fz BK245 1; have hfz20_2 := fz BK245 2) | (go_at_call 55; (with_reducible refine (impl_GoodName.calls k1 ((rd_T59 l0 x7_1).f0) true _ A5.out).mono ?_); rintro e w' ⟨rfl, ⟨nd, rfl⟩⟩; (try first | exact ⟨rfl, _, World.drewN_drewN _ _ _⟩ | exact ⟨rfl, _, Eq.trans (World.drewN_drewN _ _ _) (congrArg (World.drewN _) (Nat.add_assoc _ _ _))⟩); have p247 : 0 ≤ ((ji8) : Int) := of_decide_eq_true hE; have q247 : (ji8) < (l0.length : Int) := of_decide_eq_true hE; obtain ⟨ad247, e247, hx247_0, hx247_1, hx247_2⟩ := at_T59 HR0.out (ji8) p247 q247; obtain rfl : ad244 = ad247 := (by injection e247); replace hx247_0 := (HB.out.cell (World.block_lt_of_cell? w _ hx247_0)).trans hx247_0; replace hx247_1 := (HB.out.cell (World.block_lt_of_cell? w _ hx247_1)).trans hx247_1; replace hx247_2 := (HB.out.cell (World.block_lt_of_cell? w _ hx247_2)).trans hx247_2; replace p247 := eq_true p247; replace q247 := eq_true q247)); try go_wp2_with (first | ((with_reducible refine gate_dst (N := 4) rfl ?_); (try (refine gate_guard (by rfl) ?_; dsimp only)); refine box_event rfl (N := 4) rfl (cs := #[.string (⟨#[]⟩ : ByteArray), .int .i64 0, .string (⟨#[]⟩ : ByteArray)]) (t := 59) sE ?_; intro gb245 hg w17 hbox hb; have BK245 := Aside0.mk hbox; have GW245 := gS w hg (lU); have GE245 := gS w hg (lU); replace HB := bH (lU) hb; clear hb hbox hg; have hcz18_0 := cz BK245 0 (.string (⟨#[]⟩ : ByteArray)); have hcz18_1 := cz BK245 1 (.int .i64 0); have hcz18_2 := cz BK245 2 (.string (⟨#[]⟩ : ByteArray)); have hfz18_0 := fz BK245 0; have hfz18_1 := fz BK245 1; have hfz18_2 := fz BK245 2) | ((with_reducible refine gate_store (t := 59) (p := 4) rfl ?_); (try (rw [drewN_self w17]; generalize hq_ : World.drewN w17 _ = w17; replace BK245 := Aside0.mk (blk_at hq_ BK245.out); replace HB := Aside0.mk (below_at hq_ HB.out); clear hq_)); refine store_event (t := 59) (p := 4) (v := ?vo_w19) (w1 := (((w17.setCell ⟨gb245, 0, none⟩ (.string ((rd_T59 l0 x7_1).f0))).setCell ⟨gb245, 1, none⟩ (.int .i64 ((rd_T59 l0 x7_1).f1))).setCell ⟨gb245, 2, none⟩ (.string ((rd_T59 l0 x7_1).f2)))) ?hg ?ho ?hn ?hr ?_; (case ho => rfl); (case hg => rfl); (case hn => rfl); (case hr => first | (go_simp; done) | (go_simp; rfl) | (have hq0_ := (blk_cell BK245.out 0).trans (show _ = some _ from rfl); have hf0_ := blk_frozen BK245.out 0; have hq1_ := (blk_cell BK245.out 1).trans (show _ = some _ from rfl); have hf1_ := blk_frozen BK245.out 1; have hq2_ := (blk_cell BK245.out 2).trans (show _ = some _ from rfl); have hf2_ := blk_frozen BK245.out 2; first | (go_simp; done) | (go_simp; rfl))); intro w19 hw; replace BK245 : Aside0 (w19.heap[gb245]? = some (.cells #[.string ((rd_T59 l0 x7_1).f0), .int .i64 ((rd_T59 l0 x7_1).f1), .string ((rd_T59 l0 x7_1).f2)] 59 (0, 0))) := ⟨(by rw [hw]; exact (by refine bU ?_; refine blk_put (cs := #[.string ((rd_T59 l0 x7_1).f0), .int .i64 ((rd_T59 l0 x7_1).f1), .string (⟨#[]⟩ : ByteArray)]) ?_ 2 _ rfl; refine bU ?_; refine blk_put (cs := #[.string ((rd_T59 l0 x7_1).f0), .int .i64 0, .string (⟨#[]⟩ : ByteArray)]) ?_ 1 _ rfl; refine bU ?_; refine blk_put (cs := #[.string (⟨#[]⟩ : ByteArray), .int .i64 0, .string (⟨#[]⟩ : ByteArray)]) ?_ 0 _ rfl; refine bU ?_; exact BK245.out))⟩; replace HB : Aside0 (Below w.heap.size w w19) := ⟨(by rw [hw]; exact (lV1 GE245))⟩; clear hw; have hcz20_0 := cz BK245 0 (.string ((rd_T59 l0 x7_1).f0)); have hcz20_1 := cz BK245 1 (.int .i64 ((rd_T59 l0 x7_1).f1)); have hcz20_2 := cz BK245 2 (.string ((rd_T59 l0 x7_1).f2)); have hfz20_0 := fz BK245 0; have hfz20_1 := fz BK245 1; have hfz20_2 := fz BK245 2) | (go_at_call 55; (with_reducible refine (impl_GoodName.calls k1 ((rd_T59 l0 x7_1).f0) true _ A5.out).mono ?_); rintro e w' ⟨rfl, ⟨nd, rfl⟩⟩; (try first | exact ⟨rfl, _, World.drewN_drewN _ _ _⟩ | exact ⟨rfl, _, Eq.trans (World.drewN_drewN _ _ _) (congrArg (World.drewN _) (Nat.add_assoc _ _ _))⟩); have p247 : 0 ≤ ((ji8) : Int) := of_decide_eq_true hE; have q247 : (ji8) < (l0.length : Int) := of_decide_eq_true hE; obtain ⟨ad247, e247, hx247_0, hx247_1, hx247_2⟩ := at_T59 HR0.out (ji8) p247 q247; obtain rfl : ad244 = ad247 := (by injection e247); replace hx247_0 := (HB.out.cell (World.block_lt_of_cell? w _ hx247_0)).trans hx247_0; replace hx247_1 := (HB.out.cell (World.block_lt_of_cell? w _ hx247_1)).trans hx247_1; replace hx247_2 := (HB.out.cell (World.block_lt_of_cell? w _ hx247_2)).trans hx247_2; replace p247 := eq_true p247; replace q247 := eq_true q247)))
            go_roundg k1
            case measure => have := HK1.out; omega
            case rel => exact ⟨(wrap64 (x7_1 + 1)), tE, H', ⟨by have := HK1.out; omega⟩, ⟨by repeat (first | (with_reducible first | exact HB.out | apply below_alloc | apply pw_below_drewN | apply below_drew1 | refine below_set ?_ GE245.out) | exact HB.out)⟩⟩
          ·rw [if_neg c11] at H
           have c11b0 : (Op.bytesLess (((rd_T59 l0 (ji8)).f0).toList) (((rd_T59 l0 x7_1).f0).toList)) = false := by simpa using c11
           clear c11
           obtain rfl := Option.some.inj H
           have p244 : 0 ≤ (x7_1 : Int) := of_decide_eq_true hE
           have q244 : x7_1 < (l0.length : Int) := of_decide_eq_true hE
           obtain ⟨ad244, e244, hx244_0, hx244_1, hx244_2⟩ := at_T59 HR0.out x7_1 p244 q244
           cases e244
           replace hx244_0 := (HB.out.cell (World.block_lt_of_cell? w _ hx244_0)).trans hx244_0
           replace hx244_1 := (HB.out.cell (World.block_lt_of_cell? w _ hx244_1)).trans hx244_1
           replace hx244_2 := (HB.out.cell (World.block_lt_of_cell? w _ hx244_2)).trans hx244_2
           replace p244 := eq_true p244
           replace q244 := eq_true q244
           go_wp2_with (first | ((with_reducible refine gate_dst (N := 4) rfl ?_); (try (refine gate_guard (by rfl) ?_; dsimp only)); refine box_event rfl (N := 4) rfl (cs := #[.string (⟨#[]⟩ : ByteArray), .int .i64 0, .string (⟨#[]⟩ : ByteArray)]) (t := 59) sE ?_; intro gb245 hg w21 hbox hb; have BK245 := Aside0.mk hbox; have GW245 := gS w hg (lU); have GE245 := gS w hg (lU); replace HB := bH (lU) hb; clear hb hbox hg; have hcz22_0 := cz BK245 0 (.string (⟨#[]⟩ : ByteArray)); have hcz22_1 := cz BK245 1 (.int .i64 0); have hcz22_2 := cz BK245 2 (.string (⟨#[]⟩ : ByteArray)); have hfz22_0 := fz BK245 0; have hfz22_1 := fz BK245 1; have hfz22_2 := fz BK245 2) | ((with_reducible refine gate_store (t := 59) (p := 4) rfl ?_); (try (rw [drewN_self w21]; generalize hq_ : World.drewN w21 _ = w21; replace BK245 := Aside0.mk (blk_at hq_ BK245.out); replace HB := Aside0.mk (below_at hq_ HB.out); clear hq_)); refine store_event (t := 59) (p := 4) (v := ?vo_w23) (w1 := (((w21.setCell ⟨gb245, 0, none⟩ (.string ((rd_T59 l0 x7_1).f0))).setCell ⟨gb245, 1, none⟩ (.int .i64 ((rd_T59 l0 x7_1).f1))).setCell ⟨gb245, 2, none⟩ (.string ((rd_T59 l0 x7_1).f2)))) ?hg ?ho ?hn ?hr ?_; (case ho => rfl); (case hg => rfl); (case hn => rfl); (case hr => first | (go_simp; done) | (go_simp; rfl) | (have hq0_ := (blk_cell BK245.out 0).trans (show _ = some _ from rfl); have hf0_ := blk_frozen BK245.out 0; have hq1_ := (blk_cell BK245.out 1).trans (show _ = some _ from rfl); have hf1_ := blk_frozen BK245.out 1; have hq2_ := (blk_cell BK245.out 2).trans (show _ = some _ from rfl); have hf2_ := blk_frozen BK245.out 2; first | (go_simp; done) | (go_simp; rfl))); intro w23 hw; replace BK245 : Aside0 (w23.heap[gb245]? = some (.cells #[.string ((rd_T59 l0 x7_1).f0), .int .i64 ((rd_T59 l0 x7_1).f1), .string ((rd_T59 l0 x7_1).f2)] 59 (0, 0))) := ⟨(by rw [hw]; exact (by refine bU ?_; refine blk_put (cs := #[.string ((rd_T59 l0 x7_1).f0), .int .i64 ((rd_T59 l0 x7_1).f1), .string (⟨#[]⟩ : ByteArray)]) ?_ 2 _ rfl; refine bU ?_; refine blk_put (cs := #[.string ((rd_T59 l0 x7_1).f0), .int .i64 0, .string (⟨#[]⟩ : ByteArray)]) ?_ 1 _ rfl; refine bU ?_; refine blk_put (cs := #[.string (⟨#[]⟩ : ByteArray), .int .i64 0, .string (⟨#[]⟩ : ByteArray)]) ?_ 0 _ rfl; refine bU ?_; exact BK245.out))⟩; replace HB : Aside0 (Below w.heap.size w w23) := ⟨(by rw [hw]; exact (lV1 GE245))⟩; clear hw; have hcz24_0 := cz BK245 0 (.string ((rd_T59 l0 x7_1).f0)); have hcz24_1 := cz BK245 1 (.int .i64 ((rd_T59 l0 x7_1).f1)); have hcz24_2 := cz BK245 2 (.string ((rd_T59 l0 x7_1).f2)); have hfz24_0 := fz BK245 0; have hfz24_1 := fz BK245 1; have hfz24_2 := fz BK245 2) | (go_at_call 55; (with_reducible refine (impl_GoodName.calls k1 ((rd_T59 l0 x7_1).f0) true _ A5.out).mono ?_); rintro e w' ⟨rfl, ⟨nd, rfl⟩⟩; (try first | exact ⟨rfl, _, World.drewN_drewN _ _ _⟩ | exact ⟨rfl, _, Eq.trans (World.drewN_drewN _ _ _) (congrArg (World.drewN _) (Nat.add_assoc _ _ _))⟩); have p247 : 0 ≤ ((ji8) : Int) := of_decide_eq_true hE; have q247 : (ji8) < (l0.length : Int) := of_decide_eq_true hE; obtain ⟨ad247, e247, hx247_0, hx247_1, hx247_2⟩ := at_T59 HR0.out (ji8) p247 q247; obtain rfl : ad244 = ad247 := (by injection e247); replace hx247_0 := (HB.out.cell (World.block_lt_of_cell? w _ hx247_0)).trans hx247_0; replace hx247_1 := (HB.out.cell (World.block_lt_of_cell? w _ hx247_1)).trans hx247_1; replace hx247_2 := (HB.out.cell (World.block_lt_of_cell? w _ hx247_2)).trans hx247_2; replace p247 := eq_true p247; replace q247 := eq_true q247))
           repeat (go_quiet (first | ((with_reducible refine gate_dst (N := 4) rfl ?_); (try (refine gate_guard (by rfl) ?_; dsimp only)); refine box_event rfl (N := 4) rfl (cs := #[.string (⟨#[]⟩ : ByteArray), .int .i64 0, .string (⟨#[]⟩ : ByteArray)]) (t := 59) sE ?_; intro gb245 hg w21 hbox hb; have BK245 := Aside0.mk hbox; have GW245 := gS w hg (lU); have GE245 := gS w hg (lU); replace HB := bH (lU) hb; clear hb hbox hg; have hcz22_0 := cz BK245 0 (.string (⟨#[]⟩ : ByteArray)); have hcz22_1 := cz BK245 1 (.int .i64 0); have hcz22_2 := cz BK245 2 (.string (⟨#[]⟩ : ByteArray)); have hfz22_0 := fz BK245 0; have hfz22_1 := fz BK245 1; have hfz22_2 := fz BK245 2) | ((with_reducible refine gate_store (t := 59) (p := 4) rfl ?_); (try (rw [drewN_self w21]; generalize hq_ : World.drewN w21 _ = w21; replace BK245 := Aside0.mk (blk_at hq_ BK245.out); replace HB := Aside0.mk (below_at hq_ HB.out); clear hq_)); refine store_event (t := 59) (p := 4) (v := ?vo_w23) (w1 := (((w21.setCell ⟨gb245, 0, none⟩ (.string ((rd_T59 l0 x7_1).f0))).setCell ⟨gb245, 1, none⟩ (.int .i64 ((rd_T59 l0 x7_1).f1))).setCell ⟨gb245, 2, none⟩ (.string ((rd_T59 l0 x7_1).f2)))) ?hg ?ho ?hn ?hr ?_; (case ho => rfl); (case hg => rfl); (case hn => rfl); (case hr => first | (go_simp; done) | (go_simp; rfl) | (have hq0_ := (blk_cell BK245.out 0).trans (show _ = some _ from rfl); have hf0_ := blk_frozen BK245.out 0; have hq1_ := (blk_cell BK245.out 1).trans (show _ = some _ from rfl); have hf1_ := blk_frozen BK245.out 1; have hq2_ := (blk_cell BK245.out 2).trans (show _ = some _ from rfl); have hf2_ := blk_frozen BK245.out 2; first | (go_simp; done) | (go_simp; rfl))); intro w23 hw; replace BK245 : Aside0 (w23.heap[gb245]? = some (.cells #[.string ((rd_T59 l0 x7_1).f0), .int .i64 ((rd_T59 l0 x7_1).f1), .string ((rd_T59 l0 x7_1).f2)] 59 (0, 0))) := ⟨(by rw [hw]; exact (by refine bU ?_; refine blk_put (cs := #[.string ((rd_T59 l0 x7_1).f0), .int .i64 ((rd_T59 l0 x7_1).f1), .string (⟨#[]⟩ : ByteArray)]) ?_ 2 _ rfl; refine bU ?_; refine blk_put (cs := #[.string ((rd_T59 l0 x7_1).f0), .int .i64 0, .string (⟨#[]⟩ : ByteArray)]) ?_ 1 _ rfl; refine bU ?_; refine blk_put (cs := #[.string (⟨#[]⟩ : ByteArray), .int .i64 0, .string (⟨#[]⟩ : ByteArray)]) ?_ 0 _ rfl; refine bU ?_; exact BK245.out))⟩; replace HB : Aside0 (Below w.heap.size w w23) := ⟨(by rw [hw]; exact (lV1 GE245))⟩; clear hw; have hcz24_0 := cz BK245 0 (.string ((rd_T59 l0 x7_1).f0)); have hcz24_1 := cz BK245 1 (.int .i64 ((rd_T59 l0 x7_1).f1)); have hcz24_2 := cz BK245 2 (.string ((rd_T59 l0 x7_1).f2)); have hfz24_0 := fz BK245 0; have hfz24_1 := fz BK245 1; have hfz24_2 := fz BK245 2) | (go_at_call 55; (with_reducible refine (impl_GoodName.calls k1 ((rd_T59 l0 x7_1).f0) true _ A5.out).mono ?_); rintro e w' ⟨rfl, ⟨nd, rfl⟩⟩; (try first | exact ⟨rfl, _, World.drewN_drewN _ _ _⟩ | exact ⟨rfl, _, Eq.trans (World.drewN_drewN _ _ _) (congrArg (World.drewN _) (Nat.add_assoc _ _ _))⟩); have p247 : 0 ≤ ((ji8) : Int) := of_decide_eq_true hE; have q247 : (ji8) < (l0.length : Int) := of_decide_eq_true hE; obtain ⟨ad247, e247, hx247_0, hx247_1, hx247_2⟩ := at_T59 HR0.out (ji8) p247 q247; obtain rfl : ad244 = ad247 := (by injection e247); replace hx247_0 := (HB.out.cell (World.block_lt_of_cell? w _ hx247_0)).trans hx247_0; replace hx247_1 := (HB.out.cell (World.block_lt_of_cell? w _ hx247_1)).trans hx247_1; replace hx247_2 := (HB.out.cell (World.block_lt_of_cell? w _ hx247_2)).trans hx247_2; replace p247 := eq_true p247; replace q247 := eq_true q247)); try go_wp2_with (first | ((with_reducible refine gate_dst (N := 4) rfl ?_); (try (refine gate_guard (by rfl) ?_; dsimp only)); refine box_event rfl (N := 4) rfl (cs := #[.string (⟨#[]⟩ : ByteArray), .int .i64 0, .string (⟨#[]⟩ : ByteArray)]) (t := 59) sE ?_; intro gb245 hg w21 hbox hb; have BK245 := Aside0.mk hbox; have GW245 := gS w hg (lU); have GE245 := gS w hg (lU); replace HB := bH (lU) hb; clear hb hbox hg; have hcz22_0 := cz BK245 0 (.string (⟨#[]⟩ : ByteArray)); have hcz22_1 := cz BK245 1 (.int .i64 0); have hcz22_2 := cz BK245 2 (.string (⟨#[]⟩ : ByteArray)); have hfz22_0 := fz BK245 0; have hfz22_1 := fz BK245 1; have hfz22_2 := fz BK245 2) | ((with_reducible refine gate_store (t := 59) (p := 4) rfl ?_); (try (rw [drewN_self w21]; generalize hq_ : World.drewN w21 _ = w21; replace BK245 := Aside0.mk (blk_at hq_ BK245.out); replace HB := Aside0.mk (below_at hq_ HB.out); clear hq_)); refine store_event (t := 59) (p := 4) (v := ?vo_w23) (w1 := (((w21.setCell ⟨gb245, 0, none⟩ (.string ((rd_T59 l0 x7_1).f0))).setCell ⟨gb245, 1, none⟩ (.int .i64 ((rd_T59 l0 x7_1).f1))).setCell ⟨gb245, 2, none⟩ (.string ((rd_T59 l0 x7_1).f2)))) ?hg ?ho ?hn ?hr ?_; (case ho => rfl); (case hg => rfl); (case hn => rfl); (case hr => first | (go_simp; done) | (go_simp; rfl) | (have hq0_ := (blk_cell BK245.out 0).trans (show _ = some _ from rfl); have hf0_ := blk_frozen BK245.out 0; have hq1_ := (blk_cell BK245.out 1).trans (show _ = some _ from rfl); have hf1_ := blk_frozen BK245.out 1; have hq2_ := (blk_cell BK245.out 2).trans (show _ = some _ from rfl); have hf2_ := blk_frozen BK245.out 2; first | (go_simp; done) | (go_simp; rfl))); intro w23 hw; replace BK245 : Aside0 (w23.heap[gb245]? = some (.cells #[.string ((rd_T59 l0 x7_1).f0), .int .i64 ((rd_T59 l0 x7_1).f1), .string ((rd_T59 l0 x7_1).f2)] 59 (0, 0))) := ⟨(by rw [hw]; exact (by refine bU ?_; refine blk_put (cs := #[.string ((rd_T59 l0 x7_1).f0), .int .i64 ((rd_T59 l0 x7_1).f1), .string (⟨#[]⟩ : ByteArray)]) ?_ 2 _ rfl; refine bU ?_; refine blk_put (cs := #[.string ((rd_T59 l0 x7_1).f0), .int .i64 0, .string (⟨#[]⟩ : ByteArray)]) ?_ 1 _ rfl; refine bU ?_; refine blk_put (cs := #[.string (⟨#[]⟩ : ByteArray), .int .i64 0, .string (⟨#[]⟩ : ByteArray)]) ?_ 0 _ rfl; refine bU ?_; exact BK245.out))⟩; replace HB : Aside0 (Below w.heap.size w w23) := ⟨(by rw [hw]; exact (lV1 GE245))⟩; clear hw; have hcz24_0 := cz BK245 0 (.string ((rd_T59 l0 x7_1).f0)); have hcz24_1 := cz BK245 1 (.int .i64 ((rd_T59 l0 x7_1).f1)); have hcz24_2 := cz BK245 2 (.string ((rd_T59 l0 x7_1).f2)); have hfz24_0 := fz BK245 0; have hfz24_1 := fz BK245 1; have hfz24_2 := fz BK245 2) | (go_at_call 55; (with_reducible refine (impl_GoodName.calls k1 ((rd_T59 l0 x7_1).f0) true _ A5.out).mono ?_); rintro e w' ⟨rfl, ⟨nd, rfl⟩⟩; (try first | exact ⟨rfl, _, World.drewN_drewN _ _ _⟩ | exact ⟨rfl, _, Eq.trans (World.drewN_drewN _ _ _) (congrArg (World.drewN _) (Nat.add_assoc _ _ _))⟩); have p247 : 0 ≤ ((ji8) : Int) := of_decide_eq_true hE; have q247 : (ji8) < (l0.length : Int) := of_decide_eq_true hE; obtain ⟨ad247, e247, hx247_0, hx247_1, hx247_2⟩ := at_T59 HR0.out (ji8) p247 q247; obtain rfl : ad244 = ad247 := (by injection e247); replace hx247_0 := (HB.out.cell (World.block_lt_of_cell? w _ hx247_0)).trans hx247_0; replace hx247_1 := (HB.out.cell (World.block_lt_of_cell? w _ hx247_1)).trans hx247_1; replace hx247_2 := (HB.out.cell (World.block_lt_of_cell? w _ hx247_2)).trans hx247_2; replace p247 := eq_true p247; replace q247 := eq_true q247)))
           go_ret
           exact ⟨by first | rfl | (simp [errW_none, errW_some] <;> rfl) | (simp only [← hji8]; first | rfl | (simp [errW_none, errW_some] <;> rfl)) | (simp [*, errW_none, errW_some] <;> rfl), lV1 GE245⟩
         ·rw [if_neg c10] at H
          exact absurd H (by simp)
        ·rw [if_neg c9] at H
         exact absurd H (by simp)
       ·rw [if_neg c7] at H
        have c7b0 : decide (0 < x7_1) = false := decide_eq_false c7
        clear c7
        by_cases c25 : (((rd_T59 l0 x7_1).f2).size : Int) > 100
        ·rw [if_pos c25] at H
         have c25b0 : decide (100 < (((rd_T59 l0 x7_1).f2).size : Int)) = true := decide_eq_true c25
         have c25b1 : decide (100 < ((rd_T59 l0 x7_1).f2).size) = true := decide_eq_true (by omega)
         clear c25
         obtain rfl := Option.some.inj H
         have p244 : 0 ≤ (x7_1 : Int) := of_decide_eq_true hE
         have q244 : x7_1 < (l0.length : Int) := of_decide_eq_true hE
         obtain ⟨ad244, e244, hx244_0, hx244_1, hx244_2⟩ := at_T59 HR0.out x7_1 p244 q244
         cases e244
         replace hx244_0 := (HB.out.cell (World.block_lt_of_cell? w _ hx244_0)).trans hx244_0
         replace hx244_1 := (HB.out.cell (World.block_lt_of_cell? w _ hx244_1)).trans hx244_1
         replace hx244_2 := (HB.out.cell (World.block_lt_of_cell? w _ hx244_2)).trans hx244_2
         replace p244 := eq_true p244
         replace q244 := eq_true q244
         go_wp2_with (first | ((with_reducible refine gate_dst (N := 4) rfl ?_); (try (refine gate_guard (by rfl) ?_; dsimp only)); refine box_event rfl (N := 4) rfl (cs := #[.string (⟨#[]⟩ : ByteArray), .int .i64 0, .string (⟨#[]⟩ : ByteArray)]) (t := 59) sE ?_; intro gb245 hg w26 hbox hb; have BK245 := Aside0.mk hbox; have GW245 := gS w hg (lU); have GE245 := gS w hg (lU); replace HB := bH (lU) hb; clear hb hbox hg; have hcz27_0 := cz BK245 0 (.string (⟨#[]⟩ : ByteArray)); have hcz27_1 := cz BK245 1 (.int .i64 0); have hcz27_2 := cz BK245 2 (.string (⟨#[]⟩ : ByteArray)); have hfz27_0 := fz BK245 0; have hfz27_1 := fz BK245 1; have hfz27_2 := fz BK245 2) | ((with_reducible refine gate_store (t := 59) (p := 4) rfl ?_); (try (rw [drewN_self w26]; generalize hq_ : World.drewN w26 _ = w26; replace BK245 := Aside0.mk (blk_at hq_ BK245.out); replace HB := Aside0.mk (below_at hq_ HB.out); clear hq_)); refine store_event (t := 59) (p := 4) (v := ?vo_w28) (w1 := (((w26.setCell ⟨gb245, 0, none⟩ (.string ((rd_T59 l0 x7_1).f0))).setCell ⟨gb245, 1, none⟩ (.int .i64 ((rd_T59 l0 x7_1).f1))).setCell ⟨gb245, 2, none⟩ (.string ((rd_T59 l0 x7_1).f2)))) ?hg ?ho ?hn ?hr ?_; (case ho => rfl); (case hg => rfl); (case hn => rfl); (case hr => first | (go_simp; done) | (go_simp; rfl) | (have hq0_ := (blk_cell BK245.out 0).trans (show _ = some _ from rfl); have hf0_ := blk_frozen BK245.out 0; have hq1_ := (blk_cell BK245.out 1).trans (show _ = some _ from rfl); have hf1_ := blk_frozen BK245.out 1; have hq2_ := (blk_cell BK245.out 2).trans (show _ = some _ from rfl); have hf2_ := blk_frozen BK245.out 2; first | (go_simp; done) | (go_simp; rfl))); intro w28 hw; replace BK245 : Aside0 (w28.heap[gb245]? = some (.cells #[.string ((rd_T59 l0 x7_1).f0), .int .i64 ((rd_T59 l0 x7_1).f1), .string ((rd_T59 l0 x7_1).f2)] 59 (0, 0))) := ⟨(by rw [hw]; exact (by refine bU ?_; refine blk_put (cs := #[.string ((rd_T59 l0 x7_1).f0), .int .i64 ((rd_T59 l0 x7_1).f1), .string (⟨#[]⟩ : ByteArray)]) ?_ 2 _ rfl; refine bU ?_; refine blk_put (cs := #[.string ((rd_T59 l0 x7_1).f0), .int .i64 0, .string (⟨#[]⟩ : ByteArray)]) ?_ 1 _ rfl; refine bU ?_; refine blk_put (cs := #[.string (⟨#[]⟩ : ByteArray), .int .i64 0, .string (⟨#[]⟩ : ByteArray)]) ?_ 0 _ rfl; refine bU ?_; exact BK245.out))⟩; replace HB : Aside0 (Below w.heap.size w w28) := ⟨(by rw [hw]; exact (lV1 GE245))⟩; clear hw; have hcz29_0 := cz BK245 0 (.string ((rd_T59 l0 x7_1).f0)); have hcz29_1 := cz BK245 1 (.int .i64 ((rd_T59 l0 x7_1).f1)); have hcz29_2 := cz BK245 2 (.string ((rd_T59 l0 x7_1).f2)); have hfz29_0 := fz BK245 0; have hfz29_1 := fz BK245 1; have hfz29_2 := fz BK245 2) | (go_at_call 55; (with_reducible refine (impl_GoodName.calls k1 ((rd_T59 l0 x7_1).f0) true _ A5.out).mono ?_); rintro e w' ⟨rfl, ⟨nd, rfl⟩⟩; (try first | exact ⟨rfl, _, World.drewN_drewN _ _ _⟩ | exact ⟨rfl, _, Eq.trans (World.drewN_drewN _ _ _) (congrArg (World.drewN _) (Nat.add_assoc _ _ _))⟩)))
         repeat (go_quiet (first | ((with_reducible refine gate_dst (N := 4) rfl ?_); (try (refine gate_guard (by rfl) ?_; dsimp only)); refine box_event rfl (N := 4) rfl (cs := #[.string (⟨#[]⟩ : ByteArray), .int .i64 0, .string (⟨#[]⟩ : ByteArray)]) (t := 59) sE ?_; intro gb245 hg w26 hbox hb; have BK245 := Aside0.mk hbox; have GW245 := gS w hg (lU); have GE245 := gS w hg (lU); replace HB := bH (lU) hb; clear hb hbox hg; have hcz27_0 := cz BK245 0 (.string (⟨#[]⟩ : ByteArray)); have hcz27_1 := cz BK245 1 (.int .i64 0); have hcz27_2 := cz BK245 2 (.string (⟨#[]⟩ : ByteArray)); have hfz27_0 := fz BK245 0; have hfz27_1 := fz BK245 1; have hfz27_2 := fz BK245 2) | ((with_reducible refine gate_store (t := 59) (p := 4) rfl ?_); (try (rw [drewN_self w26]; generalize hq_ : World.drewN w26 _ = w26; replace BK245 := Aside0.mk (blk_at hq_ BK245.out); replace HB := Aside0.mk (below_at hq_ HB.out); clear hq_)); refine store_event (t := 59) (p := 4) (v := ?vo_w28) (w1 := (((w26.setCell ⟨gb245, 0, none⟩ (.string ((rd_T59 l0 x7_1).f0))).setCell ⟨gb245, 1, none⟩ (.int .i64 ((rd_T59 l0 x7_1).f1))).setCell ⟨gb245, 2, none⟩ (.string ((rd_T59 l0 x7_1).f2)))) ?hg ?ho ?hn ?hr ?_; (case ho => rfl); (case hg => rfl); (case hn => rfl); (case hr => first | (go_simp; done) | (go_simp; rfl) | (have hq0_ := (blk_cell BK245.out 0).trans (show _ = some _ from rfl); have hf0_ := blk_frozen BK245.out 0; have hq1_ := (blk_cell BK245.out 1).trans (show _ = some _ from rfl); have hf1_ := blk_frozen BK245.out 1; have hq2_ := (blk_cell BK245.out 2).trans (show _ = some _ from rfl); have hf2_ := blk_frozen BK245.out 2; first | (go_simp; done) | (go_simp; rfl))); intro w28 hw; replace BK245 : Aside0 (w28.heap[gb245]? = some (.cells #[.string ((rd_T59 l0 x7_1).f0), .int .i64 ((rd_T59 l0 x7_1).f1), .string ((rd_T59 l0 x7_1).f2)] 59 (0, 0))) := ⟨(by rw [hw]; exact (by refine bU ?_; refine blk_put (cs := #[.string ((rd_T59 l0 x7_1).f0), .int .i64 ((rd_T59 l0 x7_1).f1), .string (⟨#[]⟩ : ByteArray)]) ?_ 2 _ rfl; refine bU ?_; refine blk_put (cs := #[.string ((rd_T59 l0 x7_1).f0), .int .i64 0, .string (⟨#[]⟩ : ByteArray)]) ?_ 1 _ rfl; refine bU ?_; refine blk_put (cs := #[.string (⟨#[]⟩ : ByteArray), .int .i64 0, .string (⟨#[]⟩ : ByteArray)]) ?_ 0 _ rfl; refine bU ?_; exact BK245.out))⟩; replace HB : Aside0 (Below w.heap.size w w28) := ⟨(by rw [hw]; exact (lV1 GE245))⟩; clear hw; have hcz29_0 := cz BK245 0 (.string ((rd_T59 l0 x7_1).f0)); have hcz29_1 := cz BK245 1 (.int .i64 ((rd_T59 l0 x7_1).f1)); have hcz29_2 := cz BK245 2 (.string ((rd_T59 l0 x7_1).f2)); have hfz29_0 := fz BK245 0; have hfz29_1 := fz BK245 1; have hfz29_2 := fz BK245 2) | (go_at_call 55; (with_reducible refine (impl_GoodName.calls k1 ((rd_T59 l0 x7_1).f0) true _ A5.out).mono ?_); rintro e w' ⟨rfl, ⟨nd, rfl⟩⟩; (try first | exact ⟨rfl, _, World.drewN_drewN _ _ _⟩ | exact ⟨rfl, _, Eq.trans (World.drewN_drewN _ _ _) (congrArg (World.drewN _) (Nat.add_assoc _ _ _))⟩))); try go_wp2_with (first | ((with_reducible refine gate_dst (N := 4) rfl ?_); (try (refine gate_guard (by rfl) ?_; dsimp only)); refine box_event rfl (N := 4) rfl (cs := #[.string (⟨#[]⟩ : ByteArray), .int .i64 0, .string (⟨#[]⟩ : ByteArray)]) (t := 59) sE ?_; intro gb245 hg w26 hbox hb; have BK245 := Aside0.mk hbox; have GW245 := gS w hg (lU); have GE245 := gS w hg (lU); replace HB := bH (lU) hb; clear hb hbox hg; have hcz27_0 := cz BK245 0 (.string (⟨#[]⟩ : ByteArray)); have hcz27_1 := cz BK245 1 (.int .i64 0); have hcz27_2 := cz BK245 2 (.string (⟨#[]⟩ : ByteArray)); have hfz27_0 := fz BK245 0; have hfz27_1 := fz BK245 1; have hfz27_2 := fz BK245 2) | ((with_reducible refine gate_store (t := 59) (p := 4) rfl ?_); (try (rw [drewN_self w26]; generalize hq_ : World.drewN w26 _ = w26; replace BK245 := Aside0.mk (blk_at hq_ BK245.out); replace HB := Aside0.mk (below_at hq_ HB.out); clear hq_)); refine store_event (t := 59) (p := 4) (v := ?vo_w28) (w1 := (((w26.setCell ⟨gb245, 0, none⟩ (.string ((rd_T59 l0 x7_1).f0))).setCell ⟨gb245, 1, none⟩ (.int .i64 ((rd_T59 l0 x7_1).f1))).setCell ⟨gb245, 2, none⟩ (.string ((rd_T59 l0 x7_1).f2)))) ?hg ?ho ?hn ?hr ?_; (case ho => rfl); (case hg => rfl); (case hn => rfl); (case hr => first | (go_simp; done) | (go_simp; rfl) | (have hq0_ := (blk_cell BK245.out 0).trans (show _ = some _ from rfl); have hf0_ := blk_frozen BK245.out 0; have hq1_ := (blk_cell BK245.out 1).trans (show _ = some _ from rfl); have hf1_ := blk_frozen BK245.out 1; have hq2_ := (blk_cell BK245.out 2).trans (show _ = some _ from rfl); have hf2_ := blk_frozen BK245.out 2; first | (go_simp; done) | (go_simp; rfl))); intro w28 hw; replace BK245 : Aside0 (w28.heap[gb245]? = some (.cells #[.string ((rd_T59 l0 x7_1).f0), .int .i64 ((rd_T59 l0 x7_1).f1), .string ((rd_T59 l0 x7_1).f2)] 59 (0, 0))) := ⟨(by rw [hw]; exact (by refine bU ?_; refine blk_put (cs := #[.string ((rd_T59 l0 x7_1).f0), .int .i64 ((rd_T59 l0 x7_1).f1), .string (⟨#[]⟩ : ByteArray)]) ?_ 2 _ rfl; refine bU ?_; refine blk_put (cs := #[.string ((rd_T59 l0 x7_1).f0), .int .i64 0, .string (⟨#[]⟩ : ByteArray)]) ?_ 1 _ rfl; refine bU ?_; refine blk_put (cs := #[.string (⟨#[]⟩ : ByteArray), .int .i64 0, .string (⟨#[]⟩ : ByteArray)]) ?_ 0 _ rfl; refine bU ?_; exact BK245.out))⟩; replace HB : Aside0 (Below w.heap.size w w28) := ⟨(by rw [hw]; exact (lV1 GE245))⟩; clear hw; have hcz29_0 := cz BK245 0 (.string ((rd_T59 l0 x7_1).f0)); have hcz29_1 := cz BK245 1 (.int .i64 ((rd_T59 l0 x7_1).f1)); have hcz29_2 := cz BK245 2 (.string ((rd_T59 l0 x7_1).f2)); have hfz29_0 := fz BK245 0; have hfz29_1 := fz BK245 1; have hfz29_2 := fz BK245 2) | (go_at_call 55; (with_reducible refine (impl_GoodName.calls k1 ((rd_T59 l0 x7_1).f0) true _ A5.out).mono ?_); rintro e w' ⟨rfl, ⟨nd, rfl⟩⟩; (try first | exact ⟨rfl, _, World.drewN_drewN _ _ _⟩ | exact ⟨rfl, _, Eq.trans (World.drewN_drewN _ _ _) (congrArg (World.drewN _) (Nat.add_assoc _ _ _))⟩))))
         go_ret
         exact ⟨eE, lV1 GE245⟩
        ·rw [if_neg c25] at H
         have c25b0 : decide (100 < (((rd_T59 l0 x7_1).f2).size : Int)) = false := decide_eq_false c25
         have c25b1 : decide (100 < ((rd_T59 l0 x7_1).f2).size) = false := decide_eq_false (by omega)
         clear c25
         have H' := Aside0.mk H
         clear H
         have p244 : 0 ≤ (x7_1 : Int) := of_decide_eq_true hE
         have q244 : x7_1 < (l0.length : Int) := of_decide_eq_true hE
         obtain ⟨ad244, e244, hx244_0, hx244_1, hx244_2⟩ := at_T59 HR0.out x7_1 p244 q244
         cases e244
         replace hx244_0 := (HB.out.cell (World.block_lt_of_cell? w _ hx244_0)).trans hx244_0
         replace hx244_1 := (HB.out.cell (World.block_lt_of_cell? w _ hx244_1)).trans hx244_1
         replace hx244_2 := (HB.out.cell (World.block_lt_of_cell? w _ hx244_2)).trans hx244_2
         replace p244 := eq_true p244
         replace q244 := eq_true q244
         go_wp2_with (first | ((with_reducible refine gate_dst (N := 4) rfl ?_); (try (refine gate_guard (by rfl) ?_; dsimp only)); refine box_event rfl (N := 4) rfl (cs := #[.string (⟨#[]⟩ : ByteArray), .int .i64 0, .string (⟨#[]⟩ : ByteArray)]) (t := 59) sE ?_; intro gb245 hg w30 hbox hb; have BK245 := Aside0.mk hbox; have GW245 := gS w hg (lU); have GE245 := gS w hg (lU); replace HB := bH (lU) hb; clear hb hbox hg; have hcz31_0 := cz BK245 0 (.string (⟨#[]⟩ : ByteArray)); have hcz31_1 := cz BK245 1 (.int .i64 0); have hcz31_2 := cz BK245 2 (.string (⟨#[]⟩ : ByteArray)); have hfz31_0 := fz BK245 0; have hfz31_1 := fz BK245 1; have hfz31_2 := fz BK245 2) | ((with_reducible refine gate_store (t := 59) (p := 4) rfl ?_); (try (rw [drewN_self w30]; generalize hq_ : World.drewN w30 _ = w30; replace BK245 := Aside0.mk (blk_at hq_ BK245.out); replace HB := Aside0.mk (below_at hq_ HB.out); clear hq_)); refine store_event (t := 59) (p := 4) (v := ?vo_w32) (w1 := (((w30.setCell ⟨gb245, 0, none⟩ (.string ((rd_T59 l0 x7_1).f0))).setCell ⟨gb245, 1, none⟩ (.int .i64 ((rd_T59 l0 x7_1).f1))).setCell ⟨gb245, 2, none⟩ (.string ((rd_T59 l0 x7_1).f2)))) ?hg ?ho ?hn ?hr ?_; (case ho => rfl); (case hg => rfl); (case hn => rfl); (case hr => first | (go_simp; done) | (go_simp; rfl) | (have hq0_ := (blk_cell BK245.out 0).trans (show _ = some _ from rfl); have hf0_ := blk_frozen BK245.out 0; have hq1_ := (blk_cell BK245.out 1).trans (show _ = some _ from rfl); have hf1_ := blk_frozen BK245.out 1; have hq2_ := (blk_cell BK245.out 2).trans (show _ = some _ from rfl); have hf2_ := blk_frozen BK245.out 2; first | (go_simp; done) | (go_simp; rfl))); intro w32 hw; replace BK245 : Aside0 (w32.heap[gb245]? = some (.cells #[.string ((rd_T59 l0 x7_1).f0), .int .i64 ((rd_T59 l0 x7_1).f1), .string ((rd_T59 l0 x7_1).f2)] 59 (0, 0))) := ⟨(by rw [hw]; exact (by refine bU ?_; refine blk_put (cs := #[.string ((rd_T59 l0 x7_1).f0), .int .i64 ((rd_T59 l0 x7_1).f1), .string (⟨#[]⟩ : ByteArray)]) ?_ 2 _ rfl; refine bU ?_; refine blk_put (cs := #[.string ((rd_T59 l0 x7_1).f0), .int .i64 0, .string (⟨#[]⟩ : ByteArray)]) ?_ 1 _ rfl; refine bU ?_; refine blk_put (cs := #[.string (⟨#[]⟩ : ByteArray), .int .i64 0, .string (⟨#[]⟩ : ByteArray)]) ?_ 0 _ rfl; refine bU ?_; exact BK245.out))⟩; replace HB : Aside0 (Below w.heap.size w w32) := ⟨(by rw [hw]; exact (lV1 GE245))⟩; clear hw; have hcz33_0 := cz BK245 0 (.string ((rd_T59 l0 x7_1).f0)); have hcz33_1 := cz BK245 1 (.int .i64 ((rd_T59 l0 x7_1).f1)); have hcz33_2 := cz BK245 2 (.string ((rd_T59 l0 x7_1).f2)); have hfz33_0 := fz BK245 0; have hfz33_1 := fz BK245 1; have hfz33_2 := fz BK245 2) | (go_at_call 55; (with_reducible refine (impl_GoodName.calls k1 ((rd_T59 l0 x7_1).f0) true _ A5.out).mono ?_); rintro e w' ⟨rfl, ⟨nd, rfl⟩⟩; (try first | exact ⟨rfl, _, World.drewN_drewN _ _ _⟩ | exact ⟨rfl, _, Eq.trans (World.drewN_drewN _ _ _) (congrArg (World.drewN _) (Nat.add_assoc _ _ _))⟩)))
         repeat (go_quiet (first | ((with_reducible refine gate_dst (N := 4) rfl ?_); (try (refine gate_guard (by rfl) ?_; dsimp only)); refine box_event rfl (N := 4) rfl (cs := #[.string (⟨#[]⟩ : ByteArray), .int .i64 0, .string (⟨#[]⟩ : ByteArray)]) (t := 59) sE ?_; intro gb245 hg w30 hbox hb; have BK245 := Aside0.mk hbox; have GW245 := gS w hg (lU); have GE245 := gS w hg (lU); replace HB := bH (lU) hb; clear hb hbox hg; have hcz31_0 := cz BK245 0 (.string (⟨#[]⟩ : ByteArray)); have hcz31_1 := cz BK245 1 (.int .i64 0); have hcz31_2 := cz BK245 2 (.string (⟨#[]⟩ : ByteArray)); have hfz31_0 := fz BK245 0; have hfz31_1 := fz BK245 1; have hfz31_2 := fz BK245 2) | ((with_reducible refine gate_store (t := 59) (p := 4) rfl ?_); (try (rw [drewN_self w30]; generalize hq_ : World.drewN w30 _ = w30; replace BK245 := Aside0.mk (blk_at hq_ BK245.out); replace HB := Aside0.mk (below_at hq_ HB.out); clear hq_)); refine store_event (t := 59) (p := 4) (v := ?vo_w32) (w1 := (((w30.setCell ⟨gb245, 0, none⟩ (.string ((rd_T59 l0 x7_1).f0))).setCell ⟨gb245, 1, none⟩ (.int .i64 ((rd_T59 l0 x7_1).f1))).setCell ⟨gb245, 2, none⟩ (.string ((rd_T59 l0 x7_1).f2)))) ?hg ?ho ?hn ?hr ?_; (case ho => rfl); (case hg => rfl); (case hn => rfl); (case hr => first | (go_simp; done) | (go_simp; rfl) | (have hq0_ := (blk_cell BK245.out 0).trans (show _ = some _ from rfl); have hf0_ := blk_frozen BK245.out 0; have hq1_ := (blk_cell BK245.out 1).trans (show _ = some _ from rfl); have hf1_ := blk_frozen BK245.out 1; have hq2_ := (blk_cell BK245.out 2).trans (show _ = some _ from rfl); have hf2_ := blk_frozen BK245.out 2; first | (go_simp; done) | (go_simp; rfl))); intro w32 hw; replace BK245 : Aside0 (w32.heap[gb245]? = some (.cells #[.string ((rd_T59 l0 x7_1).f0), .int .i64 ((rd_T59 l0 x7_1).f1), .string ((rd_T59 l0 x7_1).f2)] 59 (0, 0))) := ⟨(by rw [hw]; exact (by refine bU ?_; refine blk_put (cs := #[.string ((rd_T59 l0 x7_1).f0), .int .i64 ((rd_T59 l0 x7_1).f1), .string (⟨#[]⟩ : ByteArray)]) ?_ 2 _ rfl; refine bU ?_; refine blk_put (cs := #[.string ((rd_T59 l0 x7_1).f0), .int .i64 0, .string (⟨#[]⟩ : ByteArray)]) ?_ 1 _ rfl; refine bU ?_; refine blk_put (cs := #[.string (⟨#[]⟩ : ByteArray), .int .i64 0, .string (⟨#[]⟩ : ByteArray)]) ?_ 0 _ rfl; refine bU ?_; exact BK245.out))⟩; replace HB : Aside0 (Below w.heap.size w w32) := ⟨(by rw [hw]; exact (lV1 GE245))⟩; clear hw; have hcz33_0 := cz BK245 0 (.string ((rd_T59 l0 x7_1).f0)); have hcz33_1 := cz BK245 1 (.int .i64 ((rd_T59 l0 x7_1).f1)); have hcz33_2 := cz BK245 2 (.string ((rd_T59 l0 x7_1).f2)); have hfz33_0 := fz BK245 0; have hfz33_1 := fz BK245 1; have hfz33_2 := fz BK245 2) | (go_at_call 55; (with_reducible refine (impl_GoodName.calls k1 ((rd_T59 l0 x7_1).f0) true _ A5.out).mono ?_); rintro e w' ⟨rfl, ⟨nd, rfl⟩⟩; (try first | exact ⟨rfl, _, World.drewN_drewN _ _ _⟩ | exact ⟨rfl, _, Eq.trans (World.drewN_drewN _ _ _) (congrArg (World.drewN _) (Nat.add_assoc _ _ _))⟩))); try go_wp2_with (first | ((with_reducible refine gate_dst (N := 4) rfl ?_); (try (refine gate_guard (by rfl) ?_; dsimp only)); refine box_event rfl (N := 4) rfl (cs := #[.string (⟨#[]⟩ : ByteArray), .int .i64 0, .string (⟨#[]⟩ : ByteArray)]) (t := 59) sE ?_; intro gb245 hg w30 hbox hb; have BK245 := Aside0.mk hbox; have GW245 := gS w hg (lU); have GE245 := gS w hg (lU); replace HB := bH (lU) hb; clear hb hbox hg; have hcz31_0 := cz BK245 0 (.string (⟨#[]⟩ : ByteArray)); have hcz31_1 := cz BK245 1 (.int .i64 0); have hcz31_2 := cz BK245 2 (.string (⟨#[]⟩ : ByteArray)); have hfz31_0 := fz BK245 0; have hfz31_1 := fz BK245 1; have hfz31_2 := fz BK245 2) | ((with_reducible refine gate_store (t := 59) (p := 4) rfl ?_); (try (rw [drewN_self w30]; generalize hq_ : World.drewN w30 _ = w30; replace BK245 := Aside0.mk (blk_at hq_ BK245.out); replace HB := Aside0.mk (below_at hq_ HB.out); clear hq_)); refine store_event (t := 59) (p := 4) (v := ?vo_w32) (w1 := (((w30.setCell ⟨gb245, 0, none⟩ (.string ((rd_T59 l0 x7_1).f0))).setCell ⟨gb245, 1, none⟩ (.int .i64 ((rd_T59 l0 x7_1).f1))).setCell ⟨gb245, 2, none⟩ (.string ((rd_T59 l0 x7_1).f2)))) ?hg ?ho ?hn ?hr ?_; (case ho => rfl); (case hg => rfl); (case hn => rfl); (case hr => first | (go_simp; done) | (go_simp; rfl) | (have hq0_ := (blk_cell BK245.out 0).trans (show _ = some _ from rfl); have hf0_ := blk_frozen BK245.out 0; have hq1_ := (blk_cell BK245.out 1).trans (show _ = some _ from rfl); have hf1_ := blk_frozen BK245.out 1; have hq2_ := (blk_cell BK245.out 2).trans (show _ = some _ from rfl); have hf2_ := blk_frozen BK245.out 2; first | (go_simp; done) | (go_simp; rfl))); intro w32 hw; replace BK245 : Aside0 (w32.heap[gb245]? = some (.cells #[.string ((rd_T59 l0 x7_1).f0), .int .i64 ((rd_T59 l0 x7_1).f1), .string ((rd_T59 l0 x7_1).f2)] 59 (0, 0))) := ⟨(by rw [hw]; exact (by refine bU ?_; refine blk_put (cs := #[.string ((rd_T59 l0 x7_1).f0), .int .i64 ((rd_T59 l0 x7_1).f1), .string (⟨#[]⟩ : ByteArray)]) ?_ 2 _ rfl; refine bU ?_; refine blk_put (cs := #[.string ((rd_T59 l0 x7_1).f0), .int .i64 0, .string (⟨#[]⟩ : ByteArray)]) ?_ 1 _ rfl; refine bU ?_; refine blk_put (cs := #[.string (⟨#[]⟩ : ByteArray), .int .i64 0, .string (⟨#[]⟩ : ByteArray)]) ?_ 0 _ rfl; refine bU ?_; exact BK245.out))⟩; replace HB : Aside0 (Below w.heap.size w w32) := ⟨(by rw [hw]; exact (lV1 GE245))⟩; clear hw; have hcz33_0 := cz BK245 0 (.string ((rd_T59 l0 x7_1).f0)); have hcz33_1 := cz BK245 1 (.int .i64 ((rd_T59 l0 x7_1).f1)); have hcz33_2 := cz BK245 2 (.string ((rd_T59 l0 x7_1).f2)); have hfz33_0 := fz BK245 0; have hfz33_1 := fz BK245 1; have hfz33_2 := fz BK245 2) | (go_at_call 55; (with_reducible refine (impl_GoodName.calls k1 ((rd_T59 l0 x7_1).f0) true _ A5.out).mono ?_); rintro e w' ⟨rfl, ⟨nd, rfl⟩⟩; (try first | exact ⟨rfl, _, World.drewN_drewN _ _ _⟩ | exact ⟨rfl, _, Eq.trans (World.drewN_drewN _ _ _) (congrArg (World.drewN _) (Nat.add_assoc _ _ _))⟩))))
         go_roundg k1
         case measure => have := HK1.out; omega
         case rel => exact ⟨(wrap64 (x7_1 + 1)), tE, H', ⟨by have := HK1.out; omega⟩, ⟨by repeat (first | (with_reducible first | exact HB.out | apply below_alloc | apply pw_below_drewN | apply below_drew1 | refine below_set ?_ GE245.out) | exact HB.out)⟩⟩
      ·replace c6 := Bool.eq_false_iff.mpr c6
       subst c6
       have H1 : (some false) = some r := by rw [if_neg (show ¬ (false = true) by decide)] at H; exact H
       clear H
       have H := H1
       clear H1
       obtain rfl := Option.some.inj H
       have p244 : 0 ≤ (x7_1 : Int) := of_decide_eq_true hE
       have q244 : x7_1 < (l0.length : Int) := of_decide_eq_true hE
       obtain ⟨ad244, e244, hx244_0, hx244_1, hx244_2⟩ := at_T59 HR0.out x7_1 p244 q244
       cases e244
       replace hx244_0 := (HB.out.cell (World.block_lt_of_cell? w _ hx244_0)).trans hx244_0
       replace hx244_1 := (HB.out.cell (World.block_lt_of_cell? w _ hx244_1)).trans hx244_1
       replace hx244_2 := (HB.out.cell (World.block_lt_of_cell? w _ hx244_2)).trans hx244_2
       replace p244 := eq_true p244
       replace q244 := eq_true q244
       go_wp2_with (first | ((with_reducible refine gate_dst (N := 4) rfl ?_); (try (refine gate_guard (by rfl) ?_; dsimp only)); refine box_event rfl (N := 4) rfl (cs := #[.string (⟨#[]⟩ : ByteArray), .int .i64 0, .string (⟨#[]⟩ : ByteArray)]) (t := 59) sE ?_; intro gb245 hg w34 hbox hb; have BK245 := Aside0.mk hbox; have GW245 := gS w hg (lU); have GE245 := gS w hg (lU); replace HB := bH (lU) hb; clear hb hbox hg; have hcz35_0 := cz BK245 0 (.string (⟨#[]⟩ : ByteArray)); have hcz35_1 := cz BK245 1 (.int .i64 0); have hcz35_2 := cz BK245 2 (.string (⟨#[]⟩ : ByteArray)); have hfz35_0 := fz BK245 0; have hfz35_1 := fz BK245 1; have hfz35_2 := fz BK245 2) | ((with_reducible refine gate_store (t := 59) (p := 4) rfl ?_); (try (rw [drewN_self w34]; generalize hq_ : World.drewN w34 _ = w34; replace BK245 := Aside0.mk (blk_at hq_ BK245.out); replace HB := Aside0.mk (below_at hq_ HB.out); clear hq_)); refine store_event (t := 59) (p := 4) (v := ?vo_w36) (w1 := (((w34.setCell ⟨gb245, 0, none⟩ (.string ((rd_T59 l0 x7_1).f0))).setCell ⟨gb245, 1, none⟩ (.int .i64 ((rd_T59 l0 x7_1).f1))).setCell ⟨gb245, 2, none⟩ (.string ((rd_T59 l0 x7_1).f2)))) ?hg ?ho ?hn ?hr ?_; (case ho => rfl); (case hg => rfl); (case hn => rfl); (case hr => first | (go_simp; done) | (go_simp; rfl) | (have hq0_ := (blk_cell BK245.out 0).trans (show _ = some _ from rfl); have hf0_ := blk_frozen BK245.out 0; have hq1_ := (blk_cell BK245.out 1).trans (show _ = some _ from rfl); have hf1_ := blk_frozen BK245.out 1; have hq2_ := (blk_cell BK245.out 2).trans (show _ = some _ from rfl); have hf2_ := blk_frozen BK245.out 2; first | (go_simp; done) | (go_simp; rfl))); intro w36 hw; replace BK245 : Aside0 (w36.heap[gb245]? = some (.cells #[.string ((rd_T59 l0 x7_1).f0), .int .i64 ((rd_T59 l0 x7_1).f1), .string ((rd_T59 l0 x7_1).f2)] 59 (0, 0))) := ⟨(by rw [hw]; exact (by refine bU ?_; refine blk_put (cs := #[.string ((rd_T59 l0 x7_1).f0), .int .i64 ((rd_T59 l0 x7_1).f1), .string (⟨#[]⟩ : ByteArray)]) ?_ 2 _ rfl; refine bU ?_; refine blk_put (cs := #[.string ((rd_T59 l0 x7_1).f0), .int .i64 0, .string (⟨#[]⟩ : ByteArray)]) ?_ 1 _ rfl; refine bU ?_; refine blk_put (cs := #[.string (⟨#[]⟩ : ByteArray), .int .i64 0, .string (⟨#[]⟩ : ByteArray)]) ?_ 0 _ rfl; refine bU ?_; exact BK245.out))⟩; replace HB : Aside0 (Below w.heap.size w w36) := ⟨(by rw [hw]; exact (lV1 GE245))⟩; clear hw; have hcz37_0 := cz BK245 0 (.string ((rd_T59 l0 x7_1).f0)); have hcz37_1 := cz BK245 1 (.int .i64 ((rd_T59 l0 x7_1).f1)); have hcz37_2 := cz BK245 2 (.string ((rd_T59 l0 x7_1).f2)); have hfz37_0 := fz BK245 0; have hfz37_1 := fz BK245 1; have hfz37_2 := fz BK245 2) | (go_at_call 55; (with_reducible refine (impl_GoodName.calls k1 ((rd_T59 l0 x7_1).f0) false _ A5.out).mono ?_); rintro e w' ⟨rfl, ⟨nd, rfl⟩⟩; (try first | exact ⟨rfl, _, World.drewN_drewN _ _ _⟩ | exact ⟨rfl, _, Eq.trans (World.drewN_drewN _ _ _) (congrArg (World.drewN _) (Nat.add_assoc _ _ _))⟩)))
       repeat (go_quiet (first | ((with_reducible refine gate_dst (N := 4) rfl ?_); (try (refine gate_guard (by rfl) ?_; dsimp only)); refine box_event rfl (N := 4) rfl (cs := #[.string (⟨#[]⟩ : ByteArray), .int .i64 0, .string (⟨#[]⟩ : ByteArray)]) (t := 59) sE ?_; intro gb245 hg w34 hbox hb; have BK245 := Aside0.mk hbox; have GW245 := gS w hg (lU); have GE245 := gS w hg (lU); replace HB := bH (lU) hb; clear hb hbox hg; have hcz35_0 := cz BK245 0 (.string (⟨#[]⟩ : ByteArray)); have hcz35_1 := cz BK245 1 (.int .i64 0); have hcz35_2 := cz BK245 2 (.string (⟨#[]⟩ : ByteArray)); have hfz35_0 := fz BK245 0; have hfz35_1 := fz BK245 1; have hfz35_2 := fz BK245 2) | ((with_reducible refine gate_store (t := 59) (p := 4) rfl ?_); (try (rw [drewN_self w34]; generalize hq_ : World.drewN w34 _ = w34; replace BK245 := Aside0.mk (blk_at hq_ BK245.out); replace HB := Aside0.mk (below_at hq_ HB.out); clear hq_)); refine store_event (t := 59) (p := 4) (v := ?vo_w36) (w1 := (((w34.setCell ⟨gb245, 0, none⟩ (.string ((rd_T59 l0 x7_1).f0))).setCell ⟨gb245, 1, none⟩ (.int .i64 ((rd_T59 l0 x7_1).f1))).setCell ⟨gb245, 2, none⟩ (.string ((rd_T59 l0 x7_1).f2)))) ?hg ?ho ?hn ?hr ?_; (case ho => rfl); (case hg => rfl); (case hn => rfl); (case hr => first | (go_simp; done) | (go_simp; rfl) | (have hq0_ := (blk_cell BK245.out 0).trans (show _ = some _ from rfl); have hf0_ := blk_frozen BK245.out 0; have hq1_ := (blk_cell BK245.out 1).trans (show _ = some _ from rfl); have hf1_ := blk_frozen BK245.out 1; have hq2_ := (blk_cell BK245.out 2).trans (show _ = some _ from rfl); have hf2_ := blk_frozen BK245.out 2; first | (go_simp; done) | (go_simp; rfl))); intro w36 hw; replace BK245 : Aside0 (w36.heap[gb245]? = some (.cells #[.string ((rd_T59 l0 x7_1).f0), .int .i64 ((rd_T59 l0 x7_1).f1), .string ((rd_T59 l0 x7_1).f2)] 59 (0, 0))) := ⟨(by rw [hw]; exact (by refine bU ?_; refine blk_put (cs := #[.string ((rd_T59 l0 x7_1).f0), .int .i64 ((rd_T59 l0 x7_1).f1), .string (⟨#[]⟩ : ByteArray)]) ?_ 2 _ rfl; refine bU ?_; refine blk_put (cs := #[.string ((rd_T59 l0 x7_1).f0), .int .i64 0, .string (⟨#[]⟩ : ByteArray)]) ?_ 1 _ rfl; refine bU ?_; refine blk_put (cs := #[.string (⟨#[]⟩ : ByteArray), .int .i64 0, .string (⟨#[]⟩ : ByteArray)]) ?_ 0 _ rfl; refine bU ?_; exact BK245.out))⟩; replace HB : Aside0 (Below w.heap.size w w36) := ⟨(by rw [hw]; exact (lV1 GE245))⟩; clear hw; have hcz37_0 := cz BK245 0 (.string ((rd_T59 l0 x7_1).f0)); have hcz37_1 := cz BK245 1 (.int .i64 ((rd_T59 l0 x7_1).f1)); have hcz37_2 := cz BK245 2 (.string ((rd_T59 l0 x7_1).f2)); have hfz37_0 := fz BK245 0; have hfz37_1 := fz BK245 1; have hfz37_2 := fz BK245 2) | (go_at_call 55; (with_reducible refine (impl_GoodName.calls k1 ((rd_T59 l0 x7_1).f0) false _ A5.out).mono ?_); rintro e w' ⟨rfl, ⟨nd, rfl⟩⟩; (try first | exact ⟨rfl, _, World.drewN_drewN _ _ _⟩ | exact ⟨rfl, _, Eq.trans (World.drewN_drewN _ _ _) (congrArg (World.drewN _) (Nat.add_assoc _ _ _))⟩))); try go_wp2_with (first | ((with_reducible refine gate_dst (N := 4) rfl ?_); (try (refine gate_guard (by rfl) ?_; dsimp only)); refine box_event rfl (N := 4) rfl (cs := #[.string (⟨#[]⟩ : ByteArray), .int .i64 0, .string (⟨#[]⟩ : ByteArray)]) (t := 59) sE ?_; intro gb245 hg w34 hbox hb; have BK245 := Aside0.mk hbox; have GW245 := gS w hg (lU); have GE245 := gS w hg (lU); replace HB := bH (lU) hb; clear hb hbox hg; have hcz35_0 := cz BK245 0 (.string (⟨#[]⟩ : ByteArray)); have hcz35_1 := cz BK245 1 (.int .i64 0); have hcz35_2 := cz BK245 2 (.string (⟨#[]⟩ : ByteArray)); have hfz35_0 := fz BK245 0; have hfz35_1 := fz BK245 1; have hfz35_2 := fz BK245 2) | ((with_reducible refine gate_store (t := 59) (p := 4) rfl ?_); (try (rw [drewN_self w34]; generalize hq_ : World.drewN w34 _ = w34; replace BK245 := Aside0.mk (blk_at hq_ BK245.out); replace HB := Aside0.mk (below_at hq_ HB.out); clear hq_)); refine store_event (t := 59) (p := 4) (v := ?vo_w36) (w1 := (((w34.setCell ⟨gb245, 0, none⟩ (.string ((rd_T59 l0 x7_1).f0))).setCell ⟨gb245, 1, none⟩ (.int .i64 ((rd_T59 l0 x7_1).f1))).setCell ⟨gb245, 2, none⟩ (.string ((rd_T59 l0 x7_1).f2)))) ?hg ?ho ?hn ?hr ?_; (case ho => rfl); (case hg => rfl); (case hn => rfl); (case hr => first | (go_simp; done) | (go_simp; rfl) | (have hq0_ := (blk_cell BK245.out 0).trans (show _ = some _ from rfl); have hf0_ := blk_frozen BK245.out 0; have hq1_ := (blk_cell BK245.out 1).trans (show _ = some _ from rfl); have hf1_ := blk_frozen BK245.out 1; have hq2_ := (blk_cell BK245.out 2).trans (show _ = some _ from rfl); have hf2_ := blk_frozen BK245.out 2; first | (go_simp; done) | (go_simp; rfl))); intro w36 hw; replace BK245 : Aside0 (w36.heap[gb245]? = some (.cells #[.string ((rd_T59 l0 x7_1).f0), .int .i64 ((rd_T59 l0 x7_1).f1), .string ((rd_T59 l0 x7_1).f2)] 59 (0, 0))) := ⟨(by rw [hw]; exact (by refine bU ?_; refine blk_put (cs := #[.string ((rd_T59 l0 x7_1).f0), .int .i64 ((rd_T59 l0 x7_1).f1), .string (⟨#[]⟩ : ByteArray)]) ?_ 2 _ rfl; refine bU ?_; refine blk_put (cs := #[.string ((rd_T59 l0 x7_1).f0), .int .i64 0, .string (⟨#[]⟩ : ByteArray)]) ?_ 1 _ rfl; refine bU ?_; refine blk_put (cs := #[.string (⟨#[]⟩ : ByteArray), .int .i64 0, .string (⟨#[]⟩ : ByteArray)]) ?_ 0 _ rfl; refine bU ?_; exact BK245.out))⟩; replace HB : Aside0 (Below w.heap.size w w36) := ⟨(by rw [hw]; exact (lV1 GE245))⟩; clear hw; have hcz37_0 := cz BK245 0 (.string ((rd_T59 l0 x7_1).f0)); have hcz37_1 := cz BK245 1 (.int .i64 ((rd_T59 l0 x7_1).f1)); have hcz37_2 := cz BK245 2 (.string ((rd_T59 l0 x7_1).f2)); have hfz37_0 := fz BK245 0; have hfz37_1 := fz BK245 1; have hfz37_2 := fz BK245 2) | (go_at_call 55; (with_reducible refine (impl_GoodName.calls k1 ((rd_T59 l0 x7_1).f0) false _ A5.out).mono ?_); rintro e w' ⟨rfl, ⟨nd, rfl⟩⟩; (try first | exact ⟨rfl, _, World.drewN_drewN _ _ _⟩ | exact ⟨rfl, _, Eq.trans (World.drewN_drewN _ _ _) (congrArg (World.drewN _) (Nat.add_assoc _ _ _))⟩))))
       go_ret
       exact ⟨eE, lV1 GE245⟩
     ·rw [if_neg c4] at H
      exact absurd H (by simp)
    ·rw [if_neg c3] at H
     exact absurd H (by simp)
   ·rw [if_neg c2] at H
    have c2b0 : decide (x7_1 < (l0.length : Int)) = false := decide_eq_false c2
    clear c2
    obtain rfl := Option.some.inj H
    go_wp2
    repeat (go_quiet (fail); try go_wp2)
    go_ret
    exact ⟨eE, lU⟩
def impl_isFar.f (a0 : Int) : Option (Bool) := (impl_inRange.f a0 (-1000000) 1000000).bind fun t248 => (some t248)
set_option maxHeartbeats 8000000 in
set_option maxRecDepth 100000 in
theorem impl_isFar.calls (a0 : Int) (r : Bool) (w : World) (h : impl_isFar.f a0 = some r) :
  Calls Try.prog 65 #[.int .i64 a0] w fun e w' => e = .returned (.bool r) ∧ Drawn0 w w' := by
 have H : ((impl_inRange.f a0 (-1000000) 1000000).bind fun t248 => (some t248)) = some r := h
 clear h
 replace H := Option.bind_eq_some_iff.mp H
 obtain ⟨t248, A20, H⟩ := H
 replace H : (some t248) = some r := H
 have A2 := Aside0.mk A20
 clear A20
 obtain rfl := Option.some.inj H
 go_enter Try.func65, Try.ntmps65
 go_wp2_with (first | ((with_reducible refine gate_callee (f := 35) rfl ?_); refine goesL_ (some 4) rfl rfl Try.func35 (by kernel_rfl) rfl #[.int .i64 a0, .int .i64 (-1000000), .int .i64 1000000] rfl aE ?_; (with_reducible refine (impl_inRange.calls a0 (-1000000) 1000000 t248 _ A2.out).mono ?_); rintro e w' ⟨rfl, ⟨nd, rfl⟩⟩; refine ⟨_, rfl, ?_⟩))
 go_ret
 exact ⟨by first | rfl | (simp; done) | (simp [*]; done) | exact not_isEmpty _ | exact (not_isEmpty _).symm | exact is_empty _ | exact (is_empty _).symm, by repeat (first | exact Drawn0.refl _ | apply Drawn0.step)⟩
end Go.Proofs.Ytdgaphefgpjbfaa.PFnExactMigrateSave
namespace Go.Proofs.Ytdgaphefgpjbfaa.PFnExactMigrateSave
open Go.RowKit Go.Proofs.YtdgaphefgpjbfaaW.PrintWords Go.Proofs.YtdgaphefgpjbfaaW.PrintLast Go.Proofs.YtdgaphefgpjbfaaW.PrintMore
attribute [local go_sem] max2_int min2_int max_two min_two max_three min_three max_four min_four   -- for this text's walks alone
set_option linter.unusedVariables false
set_option linter.unusedSimpArgs false
mutual
def impl_isChange.j0 : Nat → Bool → Int → Int → ByteArray → ByteArray → Int → Option (Bool)
 | 0, _, _, _, _, _, _ => none
 | k + 1, x3, x250000, x250001, x250002, x250003, x250004 => if x250001 = 1 then ((impl_GoodName.f k x250003).bind fun t250 => (if t250 = true then (if x3 = true then (impl_isChange.j1 k false x250000 x250001 x250002 x250003 x250004) else (impl_isChange.j1 k (x250004 != 0) x250000 x250001 x250002 x250003 x250004)) else (impl_isChange.j1 k true x250000 x250001 x250002 x250003 x250004))) else (if x250003.toList = ([] : List UInt8) then (if x3 = true then (impl_isChange.j1 k false x250000 x250001 x250002 x250003 x250004) else (impl_isChange.j1 k (x250004 != 0) x250000 x250001 x250002 x250003 x250004)) else (impl_isChange.j1 k true x250000 x250001 x250002 x250003 x250004))
def impl_isChange.j1 : Nat → Bool → Int → Int → ByteArray → ByteArray → Int → Option (Bool)
 | 0, _, _, _, _, _, _ => none
 | k + 1, x44, x250000, x250001, x250002, x250003, x250004 => if x44 = true then (some false) else ((impl_inRange.f x250000 1 2).bind fun t251 => (if t251 = true then ((impl_inRange.f x250001 1 5).bind fun t252 => (if t252 = true then ((impl_GoodName.f k x250002).bind fun t253 => (if t253 = true then ((impl_isFar.f x250004).bind fun t254 => (some t254)) else (some false))) else (some false))) else (some false)))
end
def impl_isChange.f (k : Nat) (a0_0 : Int) (a0_1 : Int) (a0_2 : ByteArray) (a0_3 : ByteArray) (a0_4 : Int) : Option (Bool) := if a0_1 = 2 then (impl_isChange.j0 k true a0_0 a0_1 a0_2 a0_3 a0_4) else (if a0_1 = 3 then (impl_isChange.j0 k true a0_0 a0_1 a0_2 a0_3 a0_4) else (impl_isChange.j0 k (a0_1 == 5) a0_0 a0_1 a0_2 a0_3 a0_4))
theorem impl_isChange.mono_l : ∀ k, (∀ y0 y1 y2 y3 y4 y5, LeO (impl_isChange.j0 k y0 y1 y2 y3 y4 y5) (impl_isChange.j0 (k + 1) y0 y1 y2 y3 y4 y5)) ∧ (∀ y0 y1 y2 y3 y4 y5, LeO (impl_isChange.j1 k y0 y1 y2 y3 y4 y5) (impl_isChange.j1 (k + 1) y0 y1 y2 y3 y4 y5))
 | 0 => ⟨fun _ _ _ _ _ _ r h => by simp [impl_isChange.j0] at h, fun _ _ _ _ _ _ r h => by simp [impl_isChange.j1] at h⟩
 | k + 1 => by
  obtain ⟨ih0, ih1⟩ := impl_isChange.mono_l k
  refine ⟨?_, ?_⟩
  ·intro y0 y1 y2 y3 y4 y5
   unfold impl_isChange.j0
   repeat' first
   | (with_reducible exact ih0 _ _ _ _ _ _)
   | (with_reducible exact ih1 _ _ _ _ _ _)
   | (with_reducible exact impl_GoodName.mono _ _)
   | (with_reducible first | exact LeO.refl _ | exact LeO.none _ | refine LeO.ite ?_ ?_ | refine LeO.bind ?_ (fun _ => ?_))
   | exact ih0 _ _ _ _ _ _
   | exact ih1 _ _ _ _ _ _
   | exact impl_GoodName.mono _ _ | exact LeO.none _ | refine LeO.ite ?_ ?_ | refine LeO.bind ?_ (fun _ => ?_)
  ·intro y0 y1 y2 y3 y4 y5
   unfold impl_isChange.j1
   repeat' first
   | (with_reducible exact ih0 _ _ _ _ _ _)
   | (with_reducible exact ih1 _ _ _ _ _ _)
   | (with_reducible exact impl_GoodName.mono _ _)
   | (with_reducible first | exact LeO.refl _ | exact LeO.none _ | refine LeO.ite ?_ ?_ | refine LeO.bind ?_ (fun _ => ?_))
   | exact ih0 _ _ _ _ _ _
   | exact ih1 _ _ _ _ _ _
   | exact impl_GoodName.mono _ _ | exact LeO.none _ | refine LeO.ite ?_ ?_ | refine LeO.bind ?_ (fun _ => ?_)
theorem impl_isChange.mono : ∀ a0 a1 a2 a3 a4 k, LeO (impl_isChange.f k a0 a1 a2 a3 a4) (impl_isChange.f (k + 1) a0 a1 a2 a3 a4) := by
 intro a0 a1 a2 a3 a4 k
 obtain ⟨ih0, ih1⟩ := impl_isChange.mono_l k
 unfold impl_isChange.f
 repeat' first
   | (with_reducible exact ih0 _ _ _ _ _ _)
   | (with_reducible exact ih1 _ _ _ _ _ _)
   | (with_reducible exact impl_GoodName.mono _ _)
   | (with_reducible first | exact LeO.refl _ | exact LeO.none _ | refine LeO.ite ?_ ?_ | refine LeO.bind ?_ (fun _ => ?_))
   | exact ih0 _ _ _ _ _ _
   | exact ih1 _ _ _ _ _ _
   | exact impl_GoodName.mono _ _ | exact LeO.none _ | refine LeO.ite ?_ ?_ | refine LeO.bind ?_ (fun _ => ?_)
set_option maxHeartbeats 8000000 in
set_option maxRecDepth 100000 in
theorem impl_isChange.calls (k : Nat) (a0_0 : Int) (a0_1 : Int) (a0_2 : ByteArray) (a0_3 : ByteArray) (a0_4 : Int) (r : Bool) (w : World) (h : impl_isChange.f k a0_0 a0_1 a0_2 a0_3 a0_4 = some r) :
  Calls Try.prog 56 #[.agg #[.int .i64 a0_0, .int .i64 a0_1, .string a0_2, .string a0_3, .int .i64 a0_4]] w fun e w' => e = .returned (.bool r) ∧ Below w.heap.size w w' := by
 have hu56 := Try.underlying56
 have HB := Aside0.mk (Below.refl w.heap.size w)
 have H : (if a0_1 = 2 then (impl_isChange.j0 k true a0_0 a0_1 a0_2 a0_3 a0_4) else (if a0_1 = 3 then (impl_isChange.j0 k true a0_0 a0_1 a0_2 a0_3 a0_4) else (impl_isChange.j0 k (a0_1 == 5) a0_0 a0_1 a0_2 a0_3 a0_4))) = some r := h
 clear h
 have HC2 := Aside0.mk H
 clear H
 go_enter Try.func56, Try.ntmps56
 go_upto_region 1 with (first | ((with_reducible refine gate_dst (N := 1) rfl ?_); refine box_event rfl (N := 1) rfl (cs := #[.int .i64 a0_0, .int .i64 a0_1, .string a0_2, .string a0_3, .int .i64 a0_4]) (t := 56) sE ?_; intro gb249 hg w3 hbox hb; have BK249 := Aside0.mk hbox; have GW249 := gS w hg (lU); have GE249 := gS w hg (lU); replace HB := bH (lU) hb; clear hb hbox hg))
 (try simp only [Act.put, List.setIfInBounds_toArray, List.set_cons_zero, List.set_cons_succ])
 go_cut [3] (fun v3 wc => ∃ (kq : Nat) (x3_1 : Bool), v3 = .bool x3_1 ∧ Aside0 (impl_isChange.j0 kq x3_1 a0_0 a0_1 a0_2 a0_3 a0_4 = some r) ∧ Aside0 (kq ≤ k) ∧ Aside0 (wc.heap[gb249]? = some (.cells #[.int .i64 a0_0, .int .i64 a0_1, .string a0_2, .string a0_3, .int .i64 a0_4] 56 (0, 0))) ∧ Aside0 (Below w.heap.size w wc))
 case first =>
  have H := HC2.out
  clear HC2
  by_cases c4 : a0_1 = 2
  ·rw [if_pos c4] at H
   have c4b0 : (a0_1 == 2) = true := beq_iff_eq.mpr c4
   have c4b1 : (a0_1 != 2) = false := bne_eq_false_iff_eq.mpr c4
   clear c4
   (first | rw [c4b0] | (simp only [i64_w, i32_w]; rw [c4b0]) | (rw [c4b2]; simp only [Bool.not_false, Bool.not_true]) | skip)
   have H' := Aside0.mk H
   clear H
   have hcz5_0 := cz BK249 0 (.int .i64 a0_0)
   have hcz5_1 := cz BK249 1 (.int .i64 a0_1)
   have hcz5_2 := cz BK249 2 (.string a0_2)
   have hcz5_3 := cz BK249 3 (.string a0_3)
   have hcz5_4 := cz BK249 4 (.int .i64 a0_4)
   have hfz5_0 := fz BK249 0
   have hfz5_1 := fz BK249 1
   have hfz5_2 := fz BK249 2
   have hfz5_3 := fz BK249 3
   have hfz5_4 := fz BK249 4
   go_wp2
   go_meet
   case rel => exact ⟨_, (true), tE, H', ⟨by first | omega | exact Nat.le_refl _⟩, ⟨by refine bU ?_; exact BK249.out⟩, ⟨by repeat (first | (with_reducible first | exact HB.out | apply below_alloc | apply pw_below_drewN | apply below_drew1 | refine below_set ?_ GE249.out) | exact HB.out)⟩⟩
  ·rw [if_neg c4] at H
   have c4b0 : (a0_1 == 2) = false := beq_eq_false_iff_ne.mpr c4
   have c4b1 : (a0_1 != 2) = true := bne_iff_ne.mpr c4
   (first | rw [c4b0] | (simp only [i64_w, i32_w]; rw [c4b0]) | (rw [c4b2]; simp only [Bool.not_false, Bool.not_true]) | skip)
   by_cases c6 : a0_1 = 3
   ·rw [if_pos c6] at H
    have c6b0 : (a0_1 == 3) = true := beq_iff_eq.mpr c6
    have c6b1 : (a0_1 != 3) = false := bne_eq_false_iff_eq.mpr c6
    clear c6
    have H' := Aside0.mk H
    clear H
    have hcz7_0 := cz BK249 0 (.int .i64 a0_0)
    have hcz7_1 := cz BK249 1 (.int .i64 a0_1)
    have hcz7_2 := cz BK249 2 (.string a0_2)
    have hcz7_3 := cz BK249 3 (.string a0_3)
    have hcz7_4 := cz BK249 4 (.int .i64 a0_4)
    have hfz7_0 := fz BK249 0
    have hfz7_1 := fz BK249 1
    have hfz7_2 := fz BK249 2
    have hfz7_3 := fz BK249 3
    have hfz7_4 := fz BK249 4
    go_wp2
    go_meet
    case rel => exact ⟨_, (true), tE, H', ⟨by first | omega | exact Nat.le_refl _⟩, ⟨by refine bU ?_; exact BK249.out⟩, ⟨by repeat (first | (with_reducible first | exact HB.out | apply below_alloc | apply pw_below_drewN | apply below_drew1 | refine below_set ?_ GE249.out) | exact HB.out)⟩⟩
   ·rw [if_neg c6] at H
    have c6b0 : (a0_1 == 3) = false := beq_eq_false_iff_ne.mpr c6
    have c6b1 : (a0_1 != 3) = true := bne_iff_ne.mpr c6
    have H' := Aside0.mk H
    clear H
    have hcz8_0 := cz BK249 0 (.int .i64 a0_0)
    have hcz8_1 := cz BK249 1 (.int .i64 a0_1)
    have hcz8_2 := cz BK249 2 (.string a0_2)
    have hcz8_3 := cz BK249 3 (.string a0_3)
    have hcz8_4 := cz BK249 4 (.int .i64 a0_4)
    have hfz8_0 := fz BK249 0
    have hfz8_1 := fz BK249 1
    have hfz8_2 := fz BK249 2
    have hfz8_3 := fz BK249 3
    have hfz8_4 := fz BK249 4
    go_wp2
    go_meet
    case rel => exact ⟨_, ((a0_1 == 5)), tE, H', ⟨by first | omega | exact Nat.le_refl _⟩, ⟨by refine bU ?_; exact BK249.out⟩, ⟨by repeat (first | (with_reducible first | exact HB.out | apply below_alloc | apply pw_below_drewN | apply below_drew1 | refine below_set ?_ GE249.out) | exact HB.out)⟩⟩
 case rest =>
  clear HC2
  try clear p2
  try clear c4
  try clear c4b0
  try clear c4b1
  try clear c4b2
  try clear c5
  try clear c6
  try clear c6b0
  try clear c6b1
  try clear hcz5_0
  try clear hcz5_1
  try clear hcz5_2
  try clear hcz5_3
  try clear hcz5_4
  try clear hcz7_0
  try clear hcz7_1
  try clear hcz7_2
  try clear hcz7_3
  try clear hcz7_4
  try clear hcz8_0
  try clear hcz8_1
  try clear hcz8_2
  try clear hcz8_3
  try clear hcz8_4
  try clear hfz5_0
  try clear hfz5_1
  try clear hfz5_2
  try clear hfz5_3
  try clear hfz5_4
  try clear hfz7_0
  try clear hfz7_1
  try clear hfz7_2
  try clear hfz7_3
  try clear hfz7_4
  try clear hfz8_0
  try clear hfz8_1
  try clear hfz8_2
  try clear hfz8_3
  try clear hfz8_4
  obtain ⟨kq, x3_1, rfl, HA, HJ1, BK249, HB⟩ := hcut
  cases kq with
  | zero => exact absurd HA.out (by simp [impl_isChange.j0])
  | succ kj1 =>
   have H := HA.out
   clear HA
   simp only [impl_isChange.j0] at H
   have HC9 := Aside0.mk H
   clear H
   go_upto_region 2 with (fail)
   go_cut [44] (fun v44 wc => ∃ (kq : Nat) (x44_8 : Bool), v44 = .bool x44_8 ∧ Aside0 (impl_isChange.j1 kq x44_8 a0_0 a0_1 a0_2 a0_3 a0_4 = some r) ∧ Aside0 (kq ≤ kj1) ∧ Aside0 (wc.heap[gb249]? = some (.cells #[.int .i64 a0_0, .int .i64 a0_1, .string a0_2, .string a0_3, .int .i64 a0_4] 56 (0, 0))) ∧ Aside0 (Below w.heap.size w wc))
   case first =>
    have H := HC9.out
    clear HC9
    by_cases c10 : a0_1 = 1
    ·rw [if_pos c10] at H
     have c10b0 : (a0_1 == 1) = true := beq_iff_eq.mpr c10
     have c10b1 : (a0_1 != 1) = false := bne_eq_false_iff_eq.mpr c10
     clear c10
     (first | rw [c10b0] | (simp only [i64_w, i32_w]; rw [c10b0]) | (rw [c10b2]; simp only [Bool.not_false, Bool.not_true]) | skip)
     replace H := Option.bind_eq_some_iff.mp H
     obtain ⟨t250, A110, H⟩ := H
     replace H : (if t250 = true then (if x3_1 = true then (impl_isChange.j1 kj1 false a0_0 a0_1 a0_2 a0_3 a0_4) else (impl_isChange.j1 kj1 (a0_4 != 0) a0_0 a0_1 a0_2 a0_3 a0_4)) else (impl_isChange.j1 kj1 true a0_0 a0_1 a0_2 a0_3 a0_4)) = some r := H
     have A11 := Aside0.mk A110
     clear A110
     by_cases c12 : t250 = true
     ·subst c12
      have H1 : (if x3_1 = true then (impl_isChange.j1 kj1 false a0_0 a0_1 a0_2 a0_3 a0_4) else (impl_isChange.j1 kj1 (a0_4 != 0) a0_0 a0_1 a0_2 a0_3 a0_4)) = some r := by rw [if_pos rfl] at H; exact H
      clear H
      have H := H1
      clear H1
      by_cases c13 : x3_1 = true
      ·subst c13
       have H1 : (impl_isChange.j1 kj1 false a0_0 a0_1 a0_2 a0_3 a0_4) = some r := by rw [if_pos rfl] at H; exact H
       clear H
       have H := H1
       clear H1
       have H' := Aside0.mk H
       clear H
       have hcz14_0 := cz BK249 0 (.int .i64 a0_0)
       have hcz14_1 := cz BK249 1 (.int .i64 a0_1)
       have hcz14_2 := cz BK249 2 (.string a0_2)
       have hcz14_3 := cz BK249 3 (.string a0_3)
       have hcz14_4 := cz BK249 4 (.int .i64 a0_4)
       have hfz14_0 := fz BK249 0
       have hfz14_1 := fz BK249 1
       have hfz14_2 := fz BK249 2
       have hfz14_3 := fz BK249 3
       have hfz14_4 := fz BK249 4
       go_wp2_with (first | (go_at_call 55; (with_reducible refine (impl_GoodName.calls kj1 a0_3 true _ A11.out).mono ?_); rintro e w' ⟨rfl, ⟨nd, rfl⟩⟩))
       go_meet
       case rel => exact ⟨_, (false), tE, H', ⟨by have := HJ1.out; first | omega | exact Nat.le_refl _⟩, ⟨by refine bU ?_; exact BK249.out⟩, ⟨by repeat (first | (with_reducible first | exact HB.out | apply below_alloc | apply pw_below_drewN | apply below_drew1 | refine below_set ?_ GE249.out) | exact HB.out)⟩⟩
      ·replace c13 := Bool.eq_false_iff.mpr c13
       subst c13
       have H1 : (impl_isChange.j1 kj1 (a0_4 != 0) a0_0 a0_1 a0_2 a0_3 a0_4) = some r := by rw [if_neg (show ¬ (false = true) by decide)] at H; exact H
       clear H
       have H := H1
       clear H1
       have H' := Aside0.mk H
       clear H
       have hcz15_0 := cz BK249 0 (.int .i64 a0_0)
       have hcz15_1 := cz BK249 1 (.int .i64 a0_1)
       have hcz15_2 := cz BK249 2 (.string a0_2)
       have hcz15_3 := cz BK249 3 (.string a0_3)
       have hcz15_4 := cz BK249 4 (.int .i64 a0_4)
       have hfz15_0 := fz BK249 0
       have hfz15_1 := fz BK249 1
       have hfz15_2 := fz BK249 2
       have hfz15_3 := fz BK249 3
       have hfz15_4 := fz BK249 4
       go_wp2_with (first | (go_at_call 55; (with_reducible refine (impl_GoodName.calls kj1 a0_3 true _ A11.out).mono ?_); rintro e w' ⟨rfl, ⟨nd, rfl⟩⟩))
       go_meet
       case rel => exact ⟨_, ((a0_4 != 0)), tE, H', ⟨by have := HJ1.out; first | omega | exact Nat.le_refl _⟩, ⟨by refine bU ?_; exact BK249.out⟩, ⟨by repeat (first | (with_reducible first | exact HB.out | apply below_alloc | apply pw_below_drewN | apply below_drew1 | refine below_set ?_ GE249.out) | exact HB.out)⟩⟩
     ·replace c12 := Bool.eq_false_iff.mpr c12
      subst c12
      have H1 : (impl_isChange.j1 kj1 true a0_0 a0_1 a0_2 a0_3 a0_4) = some r := by rw [if_neg (show ¬ (false = true) by decide)] at H; exact H
      clear H
      have H := H1
      clear H1
      have H' := Aside0.mk H
      clear H
      have hcz16_0 := cz BK249 0 (.int .i64 a0_0)
      have hcz16_1 := cz BK249 1 (.int .i64 a0_1)
      have hcz16_2 := cz BK249 2 (.string a0_2)
      have hcz16_3 := cz BK249 3 (.string a0_3)
      have hcz16_4 := cz BK249 4 (.int .i64 a0_4)
      have hfz16_0 := fz BK249 0
      have hfz16_1 := fz BK249 1
      have hfz16_2 := fz BK249 2
      have hfz16_3 := fz BK249 3
      have hfz16_4 := fz BK249 4
      go_wp2_with (first | (go_at_call 55; (with_reducible refine (impl_GoodName.calls kj1 a0_3 false _ A11.out).mono ?_); rintro e w' ⟨rfl, ⟨nd, rfl⟩⟩))
      go_meet
      case rel => exact ⟨_, (true), tE, H', ⟨by have := HJ1.out; first | omega | exact Nat.le_refl _⟩, ⟨by refine bU ?_; exact BK249.out⟩, ⟨by repeat (first | (with_reducible first | exact HB.out | apply below_alloc | apply pw_below_drewN | apply below_drew1 | refine below_set ?_ GE249.out) | exact HB.out)⟩⟩
    ·rw [if_neg c10] at H
     have c10b0 : (a0_1 == 1) = false := beq_eq_false_iff_ne.mpr c10
     have c10b1 : (a0_1 != 1) = true := bne_iff_ne.mpr c10
     (first | rw [c10b0] | (simp only [i64_w, i32_w]; rw [c10b0]) | (rw [c10b2]; simp only [Bool.not_false, Bool.not_true]) | skip)
     by_cases c17 : a0_3.toList = ([] : List UInt8)
     ·rw [if_pos c17] at H
      have c17b0 : (a0_3.toList == ([] : List UInt8)) = true := beq_iff_eq.mpr c17
      have c17b1 : (a0_3.toList != ([] : List UInt8)) = false := bne_eq_false_iff_eq.mpr c17
      clear c17
      by_cases c18 : x3_1 = true
      ·subst c18
       have H1 : (impl_isChange.j1 kj1 false a0_0 a0_1 a0_2 a0_3 a0_4) = some r := by rw [if_pos rfl] at H; exact H
       clear H
       have H := H1
       clear H1
       have H' := Aside0.mk H
       clear H
       have hcz19_0 := cz BK249 0 (.int .i64 a0_0)
       have hcz19_1 := cz BK249 1 (.int .i64 a0_1)
       have hcz19_2 := cz BK249 2 (.string a0_2)
       have hcz19_3 := cz BK249 3 (.string a0_3)
       have hcz19_4 := cz BK249 4 (.int .i64 a0_4)
       have hfz19_0 := fz BK249 0
       have hfz19_1 := fz BK249 1
       have hfz19_2 := fz BK249 2
       have hfz19_3 := fz BK249 3
       have hfz19_4 := fz BK249 4
       go_wp2
       go_meet
       case rel => exact ⟨_, (false), tE, H', ⟨by have := HJ1.out; first | omega | exact Nat.le_refl _⟩, ⟨by refine bU ?_; exact BK249.out⟩, ⟨by repeat (first | (with_reducible first | exact HB.out | apply below_alloc | apply pw_below_drewN | apply below_drew1 | refine below_set ?_ GE249.out) | exact HB.out)⟩⟩
      ·replace c18 := Bool.eq_false_iff.mpr c18
       subst c18
       have H1 : (impl_isChange.j1 kj1 (a0_4 != 0) a0_0 a0_1 a0_2 a0_3 a0_4) = some r := by rw [if_neg (show ¬ (false = true) by decide)] at H; exact H
       clear H
       have H := H1
       clear H1
       have H' := Aside0.mk H
       clear H
       have hcz20_0 := cz BK249 0 (.int .i64 a0_0)
       have hcz20_1 := cz BK249 1 (.int .i64 a0_1)
       have hcz20_2 := cz BK249 2 (.string a0_2)
       have hcz20_3 := cz BK249 3 (.string a0_3)
       have hcz20_4 := cz BK249 4 (.int .i64 a0_4)
       have hfz20_0 := fz BK249 0
       have hfz20_1 := fz BK249 1
       have hfz20_2 := fz BK249 2
       have hfz20_3 := fz BK249 3
       have hfz20_4 := fz BK249 4
       go_wp2
       go_meet
       case rel => exact ⟨_, ((a0_4 != 0)), tE, H', ⟨by have := HJ1.out; first | omega | exact Nat.le_refl _⟩, ⟨by refine bU ?_; exact BK249.out⟩, ⟨by repeat (first | (with_reducible first | exact HB.out | apply below_alloc | apply pw_below_drewN | apply below_drew1 | refine below_set ?_ GE249.out) | exact HB.out)⟩⟩
     ·rw [if_neg c17] at H
      have c17b0 : (a0_3.toList == ([] : List UInt8)) = false := beq_eq_false_iff_ne.mpr c17
      have c17b1 : (a0_3.toList != ([] : List UInt8)) = true := bne_iff_ne.mpr c17
      have H' := Aside0.mk H
      clear H
      have hcz21_0 := cz BK249 0 (.int .i64 a0_0)
      have hcz21_1 := cz BK249 1 (.int .i64 a0_1)
      have hcz21_2 := cz BK249 2 (.string a0_2)
      have hcz21_3 := cz BK249 3 (.string a0_3)
      have hcz21_4 := cz BK249 4 (.int .i64 a0_4)
      have hfz21_0 := fz BK249 0
      have hfz21_1 := fz BK249 1
      have hfz21_2 := fz BK249 2
      have hfz21_3 := fz BK249 3
      have hfz21_4 := fz BK249 4
      go_wp2
      go_meet
      case rel => exact ⟨_, (true), tE, H', ⟨by have := HJ1.out; first | omega | exact Nat.le_refl _⟩, ⟨by refine bU ?_; exact BK249.out⟩, ⟨by repeat (first | (with_reducible first | exact HB.out | apply below_alloc | apply pw_below_drewN | apply below_drew1 | refine below_set ?_ GE249.out) | exact HB.out)⟩⟩
   case rest =>
    clear HC9
    try clear c1
    try clear p2
    try clear c4
    try clear c4b0
    try clear c4b1
    try clear c4b2
    try clear c5
    try clear c6
    try clear c6b0
    try clear c6b1
    try clear c10
    try clear c10b0
    try clear c10b1
    try clear c10b2
    try clear c12
    try clear c13
    try clear c17
    try clear c17b0
    try clear c17b1
    try clear c18
    try clear hcz14_0
    try clear hcz14_1
    try clear hcz14_2
    try clear hcz14_3
    try clear hcz14_4
    try clear hcz15_0
    try clear hcz15_1
    try clear hcz15_2
    try clear hcz15_3
    try clear hcz15_4
    try clear hcz16_0
    try clear hcz16_1
    try clear hcz16_2
    try clear hcz16_3
    try clear hcz16_4
    try clear hcz19_0
    try clear hcz19_1
    try clear hcz19_2
    try clear hcz19_3
    try clear hcz19_4
    try clear hcz20_0
    try clear hcz20_1
    try clear hcz20_2
    try clear hcz20_3
    try clear hcz20_4
    try clear hcz21_0
    try clear hcz21_1
    try clear hcz21_2
    try clear hcz21_3
    try clear hcz21_4
    try clear hcz5_0
    try clear hcz5_1
    try clear hcz5_2
    try clear hcz5_3
    try clear hcz5_4
    try clear hcz7_0
    try clear hcz7_1
    try clear hcz7_2
    try clear hcz7_3
    try clear hcz7_4
    try clear hcz8_0
    try clear hcz8_1
    try clear hcz8_2
    try clear hcz8_3
    try clear hcz8_4
    try clear hfz14_0
    try clear hfz14_1
    try clear hfz14_2
    try clear hfz14_3
    try clear hfz14_4
    try clear hfz15_0
    try clear hfz15_1
    try clear hfz15_2
    try clear hfz15_3
    try clear hfz15_4
    try clear hfz16_0
    try clear hfz16_1
    try clear hfz16_2
    try clear hfz16_3
    try clear hfz16_4
    try clear hfz19_0
    try clear hfz19_1
    try clear hfz19_2
    try clear hfz19_3
    try clear hfz19_4
    try clear hfz20_0
    try clear hfz20_1
    try clear hfz20_2
    try clear hfz20_3
    try clear hfz20_4
    try clear hfz21_0
    try clear hfz21_1
    try clear hfz21_2
    try clear hfz21_3
    try clear hfz21_4
    try clear hfz5_0
    try clear hfz5_1
    try clear hfz5_2
    try clear hfz5_3
    try clear hfz5_4
    try clear hfz7_0
    try clear hfz7_1
    try clear hfz7_2
    try clear hfz7_3
    try clear hfz7_4
    try clear hfz8_0
    try clear hfz8_1
    try clear hfz8_2
    try clear hfz8_3
    try clear hfz8_4
    try clear p2
    obtain ⟨kq, x44_8, rfl, HA, HJ8, BK249, HB⟩ := hcut
    cases kq with
    | zero => exact absurd HA.out (by simp [impl_isChange.j1])
    | succ kj8 =>
     have H := HA.out
     clear HA
     simp only [impl_isChange.j1] at H
     by_cases c22 : x44_8 = true
     ·subst c22
      have H1 : (some false) = some r := by rw [if_pos rfl] at H; exact H
      clear H
      have H := H1
      clear H1
      obtain rfl := Option.some.inj H
      go_wp2
      go_ret
      exact ⟨eE, lV1 GE249⟩
     ·replace c22 := Bool.eq_false_iff.mpr c22
      subst c22
      have H1 : ((impl_inRange.f a0_0 1 2).bind fun t251 => (if t251 = true then ((impl_inRange.f a0_1 1 5).bind fun t252 => (if t252 = true then ((impl_GoodName.f kj8 a0_2).bind fun t253 => (if t253 = true then ((impl_isFar.f a0_4).bind fun t254 => (some t254)) else (some false))) else (some false))) else (some false))) = some r := by rw [if_neg (show ¬ (false = true) by decide)] at H; exact H
      clear H
      have H := H1
      clear H1
      replace H := Option.bind_eq_some_iff.mp H
      obtain ⟨t251, A230, H⟩ := H
      replace H : (if t251 = true then ((impl_inRange.f a0_1 1 5).bind fun t252 => (if t252 = true then ((impl_GoodName.f kj8 a0_2).bind fun t253 => (if t253 = true then ((impl_isFar.f a0_4).bind fun t254 => (some t254)) else (some false))) else (some false))) else (some false)) = some r := H
      have A23 := Aside0.mk A230
      clear A230
      by_cases c24 : t251 = true
      ·subst c24
       have H1 : ((impl_inRange.f a0_1 1 5).bind fun t252 => (if t252 = true then ((impl_GoodName.f kj8 a0_2).bind fun t253 => (if t253 = true then ((impl_isFar.f a0_4).bind fun t254 => (some t254)) else (some false))) else (some false))) = some r := by rw [if_pos rfl] at H; exact H
       clear H
       have H := H1
       clear H1
       replace H := Option.bind_eq_some_iff.mp H
       obtain ⟨t252, A250, H⟩ := H
       replace H : (if t252 = true then ((impl_GoodName.f kj8 a0_2).bind fun t253 => (if t253 = true then ((impl_isFar.f a0_4).bind fun t254 => (some t254)) else (some false))) else (some false)) = some r := H
       have A25 := Aside0.mk A250
       clear A250
       by_cases c26 : t252 = true
       ·subst c26
        have H1 : ((impl_GoodName.f kj8 a0_2).bind fun t253 => (if t253 = true then ((impl_isFar.f a0_4).bind fun t254 => (some t254)) else (some false))) = some r := by rw [if_pos rfl] at H; exact H
        clear H
        have H := H1
        clear H1
        replace H := Option.bind_eq_some_iff.mp H
        obtain ⟨t253, A270, H⟩ := H
        replace H : (if t253 = true then ((impl_isFar.f a0_4).bind fun t254 => (some t254)) else (some false)) = some r := H
        have A27 := Aside0.mk A270
        clear A270
        by_cases c28 : t253 = true
        ·subst c28
         have H1 : ((impl_isFar.f a0_4).bind fun t254 => (some t254)) = some r := by rw [if_pos rfl] at H; exact H
         clear H
         have H := H1
         clear H1
         replace H := Option.bind_eq_some_iff.mp H
         obtain ⟨t254, A290, H⟩ := H
         replace H : (some t254) = some r := H
         have A29 := Aside0.mk A290
         clear A290
         obtain rfl := Option.some.inj H
         have hcz30_0 := cz BK249 0 (.int .i64 a0_0)
         have hcz30_1 := cz BK249 1 (.int .i64 a0_1)
         have hcz30_2 := cz BK249 2 (.string a0_2)
         have hcz30_3 := cz BK249 3 (.string a0_3)
         have hcz30_4 := cz BK249 4 (.int .i64 a0_4)
         have hfz30_0 := fz BK249 0
         have hfz30_1 := fz BK249 1
         have hfz30_2 := fz BK249 2
         have hfz30_3 := fz BK249 3
         have hfz30_4 := fz BK249 4
         go_wp2_with (first | ((with_reducible refine gate_callee (f := 35) rfl ?_); refine goesL_ (some 47) rfl rfl Try.func35 (by kernel_rfl) rfl #[.int .i64 a0_0, .int .i64 1, .int .i64 2] rfl aE ?_; (with_reducible refine (impl_inRange.calls a0_0 1 2 true _ A23.out).mono ?_); rintro e w' ⟨rfl, ⟨nd, rfl⟩⟩; refine ⟨_, rfl, ?_⟩) | (go_at_call 35; (with_reducible refine (impl_inRange.calls a0_1 1 5 true _ A25.out).mono ?_); rintro e w' ⟨rfl, ⟨nd, rfl⟩⟩) | (go_at_call 55; (with_reducible refine (impl_GoodName.calls kj8 a0_2 true _ A27.out).mono ?_); rintro e w' ⟨rfl, ⟨nd, rfl⟩⟩) | (go_at_call 65; (with_reducible refine (impl_isFar.calls a0_4 t254 _ A29.out).mono ?_); rintro e w' ⟨rfl, ⟨nd, rfl⟩⟩))
         go_ret
         exact ⟨eE, lV1 GE249⟩
        ·replace c28 := Bool.eq_false_iff.mpr c28
         subst c28
         have H1 : (some false) = some r := by rw [if_neg (show ¬ (false = true) by decide)] at H; exact H
         clear H
         have H := H1
         clear H1
         obtain rfl := Option.some.inj H
         have hcz31_0 := cz BK249 0 (.int .i64 a0_0)
         have hcz31_1 := cz BK249 1 (.int .i64 a0_1)
         have hcz31_2 := cz BK249 2 (.string a0_2)
         have hcz31_3 := cz BK249 3 (.string a0_3)
         have hcz31_4 := cz BK249 4 (.int .i64 a0_4)
         have hfz31_0 := fz BK249 0
         have hfz31_1 := fz BK249 1
         have hfz31_2 := fz BK249 2
         have hfz31_3 := fz BK249 3
         have hfz31_4 := fz BK249 4
         go_wp2_with (first | ((with_reducible refine gate_callee (f := 35) rfl ?_); refine goesL_ (some 47) rfl rfl Try.func35 (by kernel_rfl) rfl #[.int .i64 a0_0, .int .i64 1, .int .i64 2] rfl aE ?_; (with_reducible refine (impl_inRange.calls a0_0 1 2 true _ A23.out).mono ?_); rintro e w' ⟨rfl, ⟨nd, rfl⟩⟩; refine ⟨_, rfl, ?_⟩) | (go_at_call 35; (with_reducible refine (impl_inRange.calls a0_1 1 5 true _ A25.out).mono ?_); rintro e w' ⟨rfl, ⟨nd, rfl⟩⟩) | (go_at_call 55; (with_reducible refine (impl_GoodName.calls kj8 a0_2 false _ A27.out).mono ?_); rintro e w' ⟨rfl, ⟨nd, rfl⟩⟩))
         go_ret
         exact ⟨eE, lV1 GE249⟩
       ·replace c26 := Bool.eq_false_iff.mpr c26
        subst c26
        have H1 : (some false) = some r := by rw [if_neg (show ¬ (false = true) by decide)] at H; exact H
        clear H
        have H := H1
        clear H1
        obtain rfl := Option.some.inj H
        have hcz32_0 := cz BK249 0 (.int .i64 a0_0)
        have hcz32_1 := cz BK249 1 (.int .i64 a0_1)
        have hcz32_2 := cz BK249 2 (.string a0_2)
        have hcz32_3 := cz BK249 3 (.string a0_3)
        have hcz32_4 := cz BK249 4 (.int .i64 a0_4)
        have hfz32_0 := fz BK249 0
        have hfz32_1 := fz BK249 1
        have hfz32_2 := fz BK249 2
        have hfz32_3 := fz BK249 3
        have hfz32_4 := fz BK249 4
        go_wp2_with (first | ((with_reducible refine gate_callee (f := 35) rfl ?_); refine goesL_ (some 47) rfl rfl Try.func35 (by kernel_rfl) rfl #[.int .i64 a0_0, .int .i64 1, .int .i64 2] rfl aE ?_; (with_reducible refine (impl_inRange.calls a0_0 1 2 true _ A23.out).mono ?_); rintro e w' ⟨rfl, ⟨nd, rfl⟩⟩; refine ⟨_, rfl, ?_⟩) | (go_at_call 35; (with_reducible refine (impl_inRange.calls a0_1 1 5 false _ A25.out).mono ?_); rintro e w' ⟨rfl, ⟨nd, rfl⟩⟩))
        go_ret
        exact ⟨eE, lV1 GE249⟩
      ·replace c24 := Bool.eq_false_iff.mpr c24
       subst c24
       have H1 : (some false) = some r := by rw [if_neg (show ¬ (false = true) by decide)] at H; exact H
       clear H
       have H := H1
       clear H1
       obtain rfl := Option.some.inj H
       have hcz33_0 := cz BK249 0 (.int .i64 a0_0)
       have hcz33_1 := cz BK249 1 (.int .i64 a0_1)
       have hcz33_2 := cz BK249 2 (.string a0_2)
       have hcz33_3 := cz BK249 3 (.string a0_3)
       have hcz33_4 := cz BK249 4 (.int .i64 a0_4)
       have hfz33_0 := fz BK249 0
       have hfz33_1 := fz BK249 1
       have hfz33_2 := fz BK249 2
       have hfz33_3 := fz BK249 3
       have hfz33_4 := fz BK249 4
       go_wp2_with (first | ((with_reducible refine gate_callee (f := 35) rfl ?_); refine goesL_ (some 47) rfl rfl Try.func35 (by kernel_rfl) rfl #[.int .i64 a0_0, .int .i64 1, .int .i64 2] rfl aE ?_; (with_reducible refine (impl_inRange.calls a0_0 1 2 false _ A23.out).mono ?_); rintro e w' ⟨rfl, ⟨nd, rfl⟩⟩; refine ⟨_, rfl, ?_⟩))
       go_ret
       exact ⟨eE, lV1 GE249⟩
end Go.Proofs.Ytdgaphefgpjbfaa.PFnExactMigrateSave
namespace Go.Proofs.Ytdgaphefgpjbfaa.PFnExactMigrateSave
open Go.RowKit Go.Proofs.YtdgaphefgpjbfaaW.PrintWords Go.Proofs.YtdgaphefgpjbfaaW.PrintLast Go.Proofs.YtdgaphefgpjbfaaW.PrintMore
attribute [local go_sem] max2_int min2_int max_two min_two max_three min_three max_four min_four   -- for this text's walks alone
set_option linter.unusedVariables false
set_option linter.unusedSimpArgs false
def impl_GoodChanges.l0 : Nat → List (S56) → List (S56) → Int → Int → Option (Bool)
 | 0, _, _, _, _ => none
 | k + 1, x0, x5, x6, x7 => if x7 < x6 then (if 0 ≤ x7 then (if x7 < (x5.length : Int) then ((impl_isChange.f k ((rd_T56 x5 x7).f0) ((rd_T56 x5 x7).f1) ((rd_T56 x5 x7).f2) ((rd_T56 x5 x7).f3) ((rd_T56 x5 x7).f4)).bind fun t257 => (if t257 = true then (if x7 > 0 then (if 0 ≤ (wrap64 (x7 - 1)) then (if (wrap64 (x7 - 1)) < (x0.length : Int) then (if ((rd_T56 x0 (wrap64 (x7 - 1))).f0) > ((rd_T56 x5 x7).f0) then (some false) else (impl_GoodChanges.l0 k x0 x5 x6 (wrap64 (x7 + 1)))) else (none)) else (none)) else (impl_GoodChanges.l0 k x0 x5 x6 (wrap64 (x7 + 1)))) else (some false))) else (none)) else (none)) else (some (decide ((x0.length : Int) ≤ 30)))
def impl_GoodChanges.f (k : Nat) (l0 : List (S56)) : Option (Bool) := impl_GoodChanges.l0 k l0 l0 (l0.length : Int) 0
theorem impl_GoodChanges.mono_l : ∀ k, (∀ y0 y1 y2 y3, LeO (impl_GoodChanges.l0 k y0 y1 y2 y3) (impl_GoodChanges.l0 (k + 1) y0 y1 y2 y3))
 | 0 => fun _ _ _ _ r h => by simp [impl_GoodChanges.l0] at h
 | k + 1 => by
  have ih0 := impl_GoodChanges.mono_l k
  ·intro y0 y1 y2 y3
   unfold impl_GoodChanges.l0
   repeat' first
   | (with_reducible exact ih0 _ _ _ _)
   | (with_reducible exact impl_isChange.mono _ _ _ _ _ _)
   | (with_reducible first | exact LeO.refl _ | exact LeO.none _ | refine LeO.ite ?_ ?_ | refine LeO.bind ?_ (fun _ => ?_))
   | exact ih0 _ _ _ _
   | exact impl_isChange.mono _ _ _ _ _ _ | exact LeO.none _ | refine LeO.ite ?_ ?_ | refine LeO.bind ?_ (fun _ => ?_)
theorem impl_GoodChanges.mono : ∀ a0 k, LeO (impl_GoodChanges.f k a0) (impl_GoodChanges.f (k + 1) a0) := by
 intro a0 k
 have ih0 := impl_GoodChanges.mono_l k
 unfold impl_GoodChanges.f
 repeat' first
   | (with_reducible exact ih0 _ _ _ _)
   | (with_reducible exact impl_isChange.mono _ _ _ _ _ _)
   | (with_reducible first | exact LeO.refl _ | exact LeO.none _ | refine LeO.ite ?_ ?_ | refine LeO.bind ?_ (fun _ => ?_))
   | exact ih0 _ _ _ _
   | exact impl_isChange.mono _ _ _ _ _ _ | exact LeO.none _ | refine LeO.ite ?_ ?_ | refine LeO.bind ?_ (fun _ => ?_)
def impl_GoodChanges.T4 : Bool × List (List Nat × List Nat) := (true, [([], []), ([0], [0]), ([1], [1]), ([2, 1], [2]), ([3], [3]), ([4, 3], [3, 4]), ([5, 3, 3], [3, 5]), ([6], [6]), ([6], [6]), ([8, 6], [6, 8]), ([7, 9, 6], [6, 7, 9]), ([10, 6], [6, 10]), ([11, 6], [6, 11]), ([6], [6]), ([13, 6], [6, 13]), ([12, 14, 6], [6, 12, 14]), ([6, 15, 3], [3, 6, 15]), ([3, 16], [3, 16])])
def impl_GoodChanges.B4 : List Nat := [0, 1, 3, 7, 15, 31, 63, 127, 127, 383, 1023, 2047, 4095, 127, 8319, 32767, 65535, 131071]
theorem impl_GoodChanges.tab4 : rtab .any (opsOf Try.f37 4) = impl_GoodChanges.T4 := by kernel_rfl
theorem impl_GoodChanges.bits4 : waitsOk impl_GoodChanges.T4.2 impl_GoodChanges.B4 = true := by kernel_rfl
set_option maxHeartbeats 8000000 in
set_option maxRecDepth 100000 in
theorem impl_GoodChanges.calls (k : Nat) (A0 : Option Addr) (c0 : Nat) (l0 : List (S56)) (r : Bool) (w : World) (hr0 : Kd.C k56 w A0 l0.length l0) (hc0 : l0.length ≤ c0) (h : impl_GoodChanges.f k l0 = some r) :
  Calls Try.prog 37 #[.slice A0 l0.length c0] w fun e w' => e = .returned (.bool r) ∧ Below w.heap.size w w' := by
 have hu56 := Try.underlying56
 have HR0 := Aside0.mk hr0
 have HC0 := Aside0.mk hc0
 clear hr0 hc0
 have HB := Aside0.mk (Below.refl w.heap.size w)
 have H : (impl_GoodChanges.l0 k l0 l0 (l0.length : Int) 0) = some r := h
 clear h
 have H' := Aside0.mk H
 clear H
 go_enter Try.func37, Try.ntmps37
 go_wp2
 go_loopg [7] k (fun kq v7 w' => ∃ (x7_1 : Int), v7 = .int .i64 x7_1 ∧ Aside0 (impl_GoodChanges.l0 kq l0 l0 (l0.length : Int) x7_1 = some r) ∧ Aside0 (kq ≤ k) ∧ Aside0 (Below w.heap.size w w'))
 case atStart => exact ⟨(0), tE, H', ⟨Nat.le_refl _⟩, ⟨by repeat (first | (with_reducible first | exact HB.out | apply below_alloc | apply pw_below_drewN | apply below_drew1) | exact HB.out)⟩⟩
 case round =>
  clear H'
  obtain ⟨x7_1, rfl, HA, HK1, HB⟩ := hrel
  cases gk with
  | zero => exact absurd HA.out (by simp [impl_GoodChanges.l0])
  | succ k1 =>
   have H := HA.out
   clear HA
   simp only [impl_GoodChanges.l0] at H
   by_cases c2 : x7_1 < (l0.length : Int)
   ·rw [if_pos c2] at H
    have c2b0 : decide (x7_1 < (l0.length : Int)) = true := decide_eq_true c2
    clear c2
    by_cases c3 : 0 ≤ x7_1
    ·rw [if_pos c3] at H
     have c3b0 : decide (0 ≤ x7_1) = true := decide_eq_true c3
     clear c3
     by_cases c4 : x7_1 < (l0.length : Int)
     ·rw [if_pos c4] at H
      have c4b0 : decide (x7_1 < (l0.length : Int)) = true := decide_eq_true c4
      clear c4
      replace H := Option.bind_eq_some_iff.mp H
      obtain ⟨t257, A50, H⟩ := H
      replace H : (if t257 = true then (if x7_1 > 0 then (if 0 ≤ (wrap64 (x7_1 - 1)) then (if (wrap64 (x7_1 - 1)) < (l0.length : Int) then (if ((rd_T56 l0 (wrap64 (x7_1 - 1))).f0) > ((rd_T56 l0 x7_1).f0) then (some false) else (impl_GoodChanges.l0 k1 l0 l0 (l0.length : Int) (wrap64 (x7_1 + 1)))) else (none)) else (none)) else (impl_GoodChanges.l0 k1 l0 l0 (l0.length : Int) (wrap64 (x7_1 + 1)))) else (some false)) = some r := H
      have A5 := Aside0.mk A50
      clear A50
      by_cases c6 : t257 = true
      ·subst c6
       have H1 : (if x7_1 > 0 then (if 0 ≤ (wrap64 (x7_1 - 1)) then (if (wrap64 (x7_1 - 1)) < (l0.length : Int) then (if ((rd_T56 l0 (wrap64 (x7_1 - 1))).f0) > ((rd_T56 l0 x7_1).f0) then (some false) else (impl_GoodChanges.l0 k1 l0 l0 (l0.length : Int) (wrap64 (x7_1 + 1)))) else (none)) else (none)) else (impl_GoodChanges.l0 k1 l0 l0 (l0.length : Int) (wrap64 (x7_1 + 1)))) = some r := by rw [if_pos rfl] at H; exact H
       clear H
       have H := H1
       clear H1
       by_cases c7 : x7_1 > 0
       ·rw [if_pos c7] at H
        have c7b0 : decide (0 < x7_1) = true := decide_eq_true c7
        clear c7
        obtain ⟨ji8, hji8⟩ : ∃ j_ : Int, (wrap64 (x7_1 - 1)) = j_ := ⟨_, rfl⟩
        replace H : (if 0 ≤ (ji8) then (if (ji8) < (l0.length : Int) then (if ((rd_T56 l0 (ji8)).f0) > ((rd_T56 l0 x7_1).f0) then (some false) else (impl_GoodChanges.l0 k1 l0 l0 (l0.length : Int) (wrap64 (x7_1 + 1)))) else (none)) else (none)) = some r := by first | (rw [hji8] at H; exact H) | (simp only [hji8] at H ⊢; exact H)
        (try rw [hji8] at A5)
        have hji8w : (IntKind.i64.wrap (x7_1 - 1)) = ji8 := (i64_w _).trans hji8
        by_cases c9 : 0 ≤ (ji8)
        ·rw [if_pos c9] at H
         have c9b0 : decide (0 ≤ (ji8)) = true := decide_eq_true c9
         clear c9
         by_cases c10 : (ji8) < (l0.length : Int)
         ·rw [if_pos c10] at H
          have c10b0 : decide ((ji8) < (l0.length : Int)) = true := decide_eq_true c10
          clear c10
          by_cases c11 : ((rd_T56 l0 (ji8)).f0) > ((rd_T56 l0 x7_1).f0)
          ·rw [if_pos c11] at H
           have c11b0 : decide (((rd_T56 l0 x7_1).f0) < ((rd_T56 l0 (ji8)).f0)) = true := decide_eq_true c11
           clear c11
           obtain rfl := Option.some.inj H
           have p255 : 0 ≤ (x7_1 : Int) := of_decide_eq_true hE
           have q255 : x7_1 < (l0.length : Int) := of_decide_eq_true hE
           obtain ⟨ad255, e255, hx255_0, hx255_1, hx255_2, hx255_3, hx255_4⟩ := at_T56 HR0.out x7_1 p255 q255
           cases e255
           replace hx255_0 := (HB.out.cell (World.block_lt_of_cell? w _ hx255_0)).trans hx255_0
           replace hx255_1 := (HB.out.cell (World.block_lt_of_cell? w _ hx255_1)).trans hx255_1
           replace hx255_2 := (HB.out.cell (World.block_lt_of_cell? w _ hx255_2)).trans hx255_2
           replace hx255_3 := (HB.out.cell (World.block_lt_of_cell? w _ hx255_3)).trans hx255_3
           replace hx255_4 := (HB.out.cell (World.block_lt_of_cell? w _ hx255_4)).trans hx255_4
           replace p255 := eq_true p255
           replace q255 := eq_true q255
           try go_wp2_with (first | ((with_reducible refine gate_dst (N := 4) rfl ?_); refine box_event rfl (N := 4) rfl (cs := #[.int .i64 0, .int .i64 0, .string (⟨#[]⟩ : ByteArray), .string (⟨#[]⟩ : ByteArray), .int .i64 0]) (t := 56) sE ?_; intro gb256 hg w12 hbox hb; have BK256 := Aside0.mk hbox; have GW256 := gS w hg (lU); have GE256 := gS w hg (lU); replace HB := bH (lU) hb; clear hb hbox hg; have hcz13_0 := cz BK256 0 (.int .i64 0); have hcz13_1 := cz BK256 1 (.int .i64 0); have hcz13_2 := cz BK256 2 (.string (⟨#[]⟩ : ByteArray)); have hcz13_3 := cz BK256 3 (.string (⟨#[]⟩ : ByteArray)); have hcz13_4 := cz BK256 4 (.int .i64 0); have hfz13_0 := fz BK256 0; have hfz13_1 := fz BK256 1; have hfz13_2 := fz BK256 2; have hfz13_3 := fz BK256 3; have hfz13_4 := fz BK256 4) | ((with_reducible refine gate_store (t := 56) (p := 4) rfl ?_); refine store_event (t := 56) (p := 4) (v := ?vo_w14) (w1 := (((((w12.setCell ⟨gb256, 0, none⟩ (.int .i64 ((rd_T56 l0 x7_1).f0))).setCell ⟨gb256, 1, none⟩ (.int .i64 ((rd_T56 l0 x7_1).f1))).setCell ⟨gb256, 2, none⟩ (.string ((rd_T56 l0 x7_1).f2))).setCell ⟨gb256, 3, none⟩ (.string ((rd_T56 l0 x7_1).f3))).setCell ⟨gb256, 4, none⟩ (.int .i64 ((rd_T56 l0 x7_1).f4)))) ?hg ?ho ?hn ?hr ?_; (case ho => rfl); (case hg => rfl); (case hn => rfl); (case hr => first | (go_simp; done) | (go_simp; rfl) | (have hq0_ := (blk_cell BK256.out 0).trans (show _ = some _ from rfl); have hf0_ := blk_frozen BK256.out 0; have hq1_ := (blk_cell BK256.out 1).trans (show _ = some _ from rfl); have hf1_ := blk_frozen BK256.out 1; have hq2_ := (blk_cell BK256.out 2).trans (show _ = some _ from rfl); have hf2_ := blk_frozen BK256.out 2; have hq3_ := (blk_cell BK256.out 3).trans (show _ = some _ from rfl); have hf3_ := blk_frozen BK256.out 3; have hq4_ := (blk_cell BK256.out 4).trans (show _ = some _ from rfl); have hf4_ := blk_frozen BK256.out 4; first | (go_simp; done) | (go_simp; rfl))); intro w14 hw; replace BK256 : Aside0 (w14.heap[gb256]? = some (.cells #[.int .i64 ((rd_T56 l0 x7_1).f0), .int .i64 ((rd_T56 l0 x7_1).f1), .string ((rd_T56 l0 x7_1).f2), .string ((rd_T56 l0 x7_1).f3), .int .i64 ((rd_T56 l0 x7_1).f4)] 56 (0, 0))) := ⟨(by rw [hw]; exact (by refine bU ?_; refine blk_put (cs := #[.int .i64 ((rd_T56 l0 x7_1).f0), .int .i64 ((rd_T56 l0 x7_1).f1), .string ((rd_T56 l0 x7_1).f2), .string ((rd_T56 l0 x7_1).f3), .int .i64 0]) ?_ 4 _ rfl; refine bU ?_; refine blk_put (cs := #[.int .i64 ((rd_T56 l0 x7_1).f0), .int .i64 ((rd_T56 l0 x7_1).f1), .string ((rd_T56 l0 x7_1).f2), .string (⟨#[]⟩ : ByteArray), .int .i64 0]) ?_ 3 _ rfl; refine bU ?_; refine blk_put (cs := #[.int .i64 ((rd_T56 l0 x7_1).f0), .int .i64 ((rd_T56 l0 x7_1).f1), .string (⟨#[]⟩ : ByteArray), .string (⟨#[]⟩ : ByteArray), .int .i64 0]) ?_ 2 _ rfl; refine bU ?_; refine blk_put (cs := #[.int .i64 ((rd_T56 l0 x7_1).f0), .int .i64 0, .string (⟨#[]⟩ : ByteArray), .string (⟨#[]⟩ : ByteArray), .int .i64 0]) ?_ 1 _ rfl; refine bU ?_; refine blk_put (cs := #[.int .i64 0, .int .i64 0, .string (⟨#[]⟩ : ByteArray), .string (⟨#[]⟩ : ByteArray), .int .i64 0]) ?_ 0 _ rfl; refine bU ?_; exact BK256.out))⟩; replace HB : Aside0 (Below w.heap.size w w14) := ⟨(by rw [hw]; exact (lV1 GE256))⟩; clear hw))
           replace BK256 := Aside0.mk (blk_drew BK256.out)
           replace HB := Aside0.mk (below_drew1 HB.out)
           have p258 : 0 ≤ ((ji8) : Int) := of_decide_eq_true hE
           have q258 : (ji8) < (l0.length : Int) := of_decide_eq_true hE
           obtain ⟨ad258, e258, hx258_0, hx258_1, hx258_2, hx258_3, hx258_4⟩ := at_T56 HR0.out (ji8) p258 q258
           have hw258_4 := hx258_4
           have hw258_3 := hx258_3
           have hw258_2 := hx258_2
           have hw258_1 := hx258_1
           have hw258_0 := hx258_0
           obtain rfl : ad255 = ad258 := (by injection e258)
           replace hx258_0 := (HB.out.cell (World.block_lt_of_cell? w _ hx258_0)).trans hx258_0
           replace hx258_1 := (HB.out.cell (World.block_lt_of_cell? w _ hx258_1)).trans hx258_1
           replace hx258_2 := (HB.out.cell (World.block_lt_of_cell? w _ hx258_2)).trans hx258_2
           replace hx258_3 := (HB.out.cell (World.block_lt_of_cell? w _ hx258_3)).trans hx258_3
           replace hx258_4 := (HB.out.cell (World.block_lt_of_cell? w _ hx258_4)).trans hx258_4
           replace p258 := eq_true p258
           replace q258 := eq_true q258
           refine start_ (n := 18) (S := fun w' => w'.cell? ⟨gb256, 0, none⟩ = some (.int .i64 ((rd_T56 l0 x7_1).f0)) ∧ w'.cell? ⟨gb256, 1, none⟩ = some (.int .i64 ((rd_T56 l0 x7_1).f1)) ∧ w'.cell? ⟨gb256, 2, none⟩ = some (.string ((rd_T56 l0 x7_1).f2)) ∧ w'.cell? ⟨gb256, 3, none⟩ = some (.string ((rd_T56 l0 x7_1).f3)) ∧ w'.cell? ⟨gb256, 4, none⟩ = some (.int .i64 ((rd_T56 l0 x7_1).f4)) ∧ w'.cell? (ad255.add (((ji8)).toNat * 5)) = some (.int .i64 ((rd_T56 l0 (ji8)).f0)) ∧ w'.cell? ⟨(ad255.add (((ji8)).toNat * 5)).block, (ad255.add (((ji8)).toNat * 5)).off + 1, none⟩ = some (.int .i64 ((rd_T56 l0 (ji8)).f1)) ∧ w'.cell? ⟨(ad255.add (((ji8)).toNat * 5)).block, (ad255.add (((ji8)).toNat * 5)).off + 2, none⟩ = some (.string ((rd_T56 l0 (ji8)).f2)) ∧ w'.cell? ⟨(ad255.add (((ji8)).toNat * 5)).block, (ad255.add (((ji8)).toNat * 5)).off + 3, none⟩ = some (.string ((rd_T56 l0 (ji8)).f3)) ∧ w'.cell? ⟨(ad255.add (((ji8)).toNat * 5)).block, (ad255.add (((ji8)).toNat * 5)).off + 4, none⟩ = some (.int .i64 ((rd_T56 l0 (ji8)).f4))) (ds := []) #[false, false, false, false, false, false, false, false, false, false, false, false, false, false, false, false, false, false] (by kernel_rfl) rfl rfl ⟨cz BK256 0 _, cz BK256 1 _, cz BK256 2 _, cz BK256 3 _, cz BK256 4 _, ((HB.out.cell (World.block_lt_of_cell? w _ hw258_0)).trans hw258_0), ((HB.out.cell (World.block_lt_of_cell? w _ hw258_1)).trans hw258_1), ((HB.out.cell (World.block_lt_of_cell? w _ hw258_2)).trans hw258_2), ((HB.out.cell (World.block_lt_of_cell? w _ hw258_3)).trans hw258_3), ((HB.out.cell (World.block_lt_of_cell? w _ hw258_4)).trans hw258_4)⟩ (fun hHeld => ?_); refine with_tabW impl_GoodChanges.tab4 impl_GoodChanges.bits4 (fun HT_ HW_ => ?_)
           generalize w14.drew = w15 at BK256 HB hx258_0 hx258_1 hx258_2 hx258_3 hx258_4 hHeld ⊢
           refine takeA 0 12 (bz 18 1) rfl rfl (take_ofW HT_.out HW_.out (by kernel_rfl)) hHeld (by rintro w' ⟨s0, s1, s2, s3, s4, s5, s6, s7, s8, s9⟩; go_simp; with_reducible rfl) ?_
           refine one_ (i := 1) (N := some 13) (bz 18 3) rfl rfl (one_of HT_.out (by kernel_rfl)) (by decide) (fun K hK => ?_)
           refine goes_ Try.func56 (by kernel_rfl) rfl #[.agg #[.int .i64 ((rd_T56 l0 x7_1).f0), .int .i64 ((rd_T56 l0 x7_1).f1), .string ((rd_T56 l0 x7_1).f2), .string ((rd_T56 l0 x7_1).f3), .int .i64 ((rd_T56 l0 x7_1).f4)]] (by rfl) rfl rfl aE ?_
           with_reducible refine (impl_isChange.calls k1 ((rd_T56 l0 x7_1).f0) ((rd_T56 l0 x7_1).f1) ((rd_T56 l0 x7_1).f2) ((rd_T56 l0 x7_1).f3) ((rd_T56 l0 x7_1).f4) true _ A5.out).mono ?_
           rintro e w16 ⟨rfl, hb⟩
           refine ⟨_, rfl, ?_⟩
           replace BK256 := bB (bV BK256) hb
           replace HB := bH (lV1 GE256) hb
           (try clear hb)
           (try clear hb2)
           (try clear hk)
           (try clear hi)
           refine hK.out _ _ ⟨cz BK256 0 _, cz BK256 1 _, cz BK256 2 _, cz BK256 3 _, cz BK256 4 _, ((HB.out.cell (World.block_lt_of_cell? w _ hw258_0)).trans hw258_0), ((HB.out.cell (World.block_lt_of_cell? w _ hw258_1)).trans hw258_1), ((HB.out.cell (World.block_lt_of_cell? w _ hw258_2)).trans hw258_2), ((HB.out.cell (World.block_lt_of_cell? w _ hw258_3)).trans hw258_3), ((HB.out.cell (World.block_lt_of_cell? w _ hw258_4)).trans hw258_4)⟩ (fun hHeld => ?_)
           clear hK K
           refine norm_ (a' := ?_) ?_ ?_
           rotate_left
           ·show Act.put _ (some 13) _ = _
            simp only [Act.put, List.setIfInBounds_toArray, List.set_cons_zero, List.set_cons_succ, i64_w, i32_w]
            rfl
           refine pureA 2 14 (bz 18 7) rfl rfl (any_of HT_.out (by kernel_rfl)) ?_
           refine pureA 3 15 (bz 18 15) rfl rfl (any_of HT_.out (by kernel_rfl)) ?_
           refine pureA 4 16 (bz 18 31) rfl rfl (any_of HT_.out (by kernel_rfl)) ?_
           refine pureA 5 17 (bz 18 63) rfl rfl (any_of HT_.out (by kernel_rfl)) ?_
           refine pureA 6 18 (bz 18 127) rfl rfl (any_of HT_.out (by kernel_rfl)) ?_
           refine pureA 7 19 (bz 18 255) rfl rfl (any_of HT_.out (by kernel_rfl)) ?_
           refine pureA 8 20 (bz 18 511) rfl rfl (any_of HT_.out (by kernel_rfl)) ?_
           refine pureA 9 21 (bz 18 1023) rfl rfl (any_of HT_.out (by kernel_rfl)) ?_
           refine pureA 10 22 (bz 18 2047) rfl rfl (any_of HT_.out (by kernel_rfl)) ?_
           refine pureA 11 23 (bz 18 4095) rfl rfl (any_of HT_.out (by kernel_rfl)) ?_
           refine pureA 13 25 (bz 18 12287) rfl rfl (any_of HT_.out (by kernel_rfl)) ?_
           refine takeA 12 24 (bz 18 16383) rfl rfl (take_ofW HT_.out HW_.out (by kernel_rfl)) hHeld (by rintro w' ⟨s0, s1, s2, s3, s4, s5, s6, s7, s8, s9⟩; go_simp; with_reducible rfl) ?_
           refine takeA 14 26 (bz 18 32767) rfl rfl (take_ofW HT_.out HW_.out (by kernel_rfl)) hHeld (by rintro w' ⟨s0, s1, s2, s3, s4, s5, s6, s7, s8, s9⟩; go_simp; with_reducible rfl) ?_
           refine pureA 15 27 (bz 18 65535) rfl rfl (any_of HT_.out (by kernel_rfl)) ?_
           refine pureA 16 28 (bz 18 131071) rfl rfl (any_of HT_.out (by kernel_rfl)) ?_
           refine pureA 17 29 (bz 18 262143) rfl rfl (any_of HT_.out (by kernel_rfl)) ?_
           refine done_ (done_of HT_.out (by kernel_rfl)) ?_
           try go_wp2
           go_ret
           exact ⟨by first | rfl | (simp [errW_none, errW_some] <;> rfl) | (simp only [← hji8]; first | rfl | (simp [errW_none, errW_some] <;> rfl)) | (simp [*, errW_none, errW_some] <;> rfl), lV1 GE256⟩
          ·rw [if_neg c11] at H
           have c11b0 : decide (((rd_T56 l0 x7_1).f0) < ((rd_T56 l0 (ji8)).f0)) = false := decide_eq_false c11
           clear c11
           have H' := Aside0.mk H
           clear H
           have p255 : 0 ≤ (x7_1 : Int) := of_decide_eq_true hE
           have q255 : x7_1 < (l0.length : Int) := of_decide_eq_true hE
           obtain ⟨ad255, e255, hx255_0, hx255_1, hx255_2, hx255_3, hx255_4⟩ := at_T56 HR0.out x7_1 p255 q255
           cases e255
           replace hx255_0 := (HB.out.cell (World.block_lt_of_cell? w _ hx255_0)).trans hx255_0
           replace hx255_1 := (HB.out.cell (World.block_lt_of_cell? w _ hx255_1)).trans hx255_1
           replace hx255_2 := (HB.out.cell (World.block_lt_of_cell? w _ hx255_2)).trans hx255_2
           replace hx255_3 := (HB.out.cell (World.block_lt_of_cell? w _ hx255_3)).trans hx255_3
           replace hx255_4 := (HB.out.cell (World.block_lt_of_cell? w _ hx255_4)).trans hx255_4
           replace p255 := eq_true p255
           replace q255 := eq_true q255
           try go_wp2_with (first | ((with_reducible refine gate_dst (N := 4) rfl ?_); refine box_event rfl (N := 4) rfl (cs := #[.int .i64 0, .int .i64 0, .string (⟨#[]⟩ : ByteArray), .string (⟨#[]⟩ : ByteArray), .int .i64 0]) (t := 56) sE ?_; intro gb256 hg w17 hbox hb; have BK256 := Aside0.mk hbox; have GW256 := gS w hg (lU); have GE256 := gS w hg (lU); replace HB := bH (lU) hb; clear hb hbox hg; have hcz18_0 := cz BK256 0 (.int .i64 0); have hcz18_1 := cz BK256 1 (.int .i64 0); have hcz18_2 := cz BK256 2 (.string (⟨#[]⟩ : ByteArray)); have hcz18_3 := cz BK256 3 (.string (⟨#[]⟩ : ByteArray)); have hcz18_4 := cz BK256 4 (.int .i64 0); have hfz18_0 := fz BK256 0; have hfz18_1 := fz BK256 1; have hfz18_2 := fz BK256 2; have hfz18_3 := fz BK256 3; have hfz18_4 := fz BK256 4) | ((with_reducible refine gate_store (t := 56) (p := 4) rfl ?_); refine store_event (t := 56) (p := 4) (v := ?vo_w19) (w1 := (((((w17.setCell ⟨gb256, 0, none⟩ (.int .i64 ((rd_T56 l0 x7_1).f0))).setCell ⟨gb256, 1, none⟩ (.int .i64 ((rd_T56 l0 x7_1).f1))).setCell ⟨gb256, 2, none⟩ (.string ((rd_T56 l0 x7_1).f2))).setCell ⟨gb256, 3, none⟩ (.string ((rd_T56 l0 x7_1).f3))).setCell ⟨gb256, 4, none⟩ (.int .i64 ((rd_T56 l0 x7_1).f4)))) ?hg ?ho ?hn ?hr ?_; (case ho => rfl); (case hg => rfl); (case hn => rfl); (case hr => first | (go_simp; done) | (go_simp; rfl) | (have hq0_ := (blk_cell BK256.out 0).trans (show _ = some _ from rfl); have hf0_ := blk_frozen BK256.out 0; have hq1_ := (blk_cell BK256.out 1).trans (show _ = some _ from rfl); have hf1_ := blk_frozen BK256.out 1; have hq2_ := (blk_cell BK256.out 2).trans (show _ = some _ from rfl); have hf2_ := blk_frozen BK256.out 2; have hq3_ := (blk_cell BK256.out 3).trans (show _ = some _ from rfl); have hf3_ := blk_frozen BK256.out 3; have hq4_ := (blk_cell BK256.out 4).trans (show _ = some _ from rfl); have hf4_ := blk_frozen BK256.out 4; first | (go_simp; done) | (go_simp; rfl))); intro w19 hw; replace BK256 : Aside0 (w19.heap[gb256]? = some (.cells #[.int .i64 ((rd_T56 l0 x7_1).f0), .int .i64 ((rd_T56 l0 x7_1).f1), .string ((rd_T56 l0 x7_1).f2), .string ((rd_T56 l0 x7_1).f3), .int .i64 ((rd_T56 l0 x7_1).f4)] 56 (0, 0))) := ⟨(by rw [hw]; exact (by refine bU ?_; refine blk_put (cs := #[.int .i64 ((rd_T56 l0 x7_1).f0), .int .i64 ((rd_T56 l0 x7_1).f1), .string ((rd_T56 l0 x7_1).f2), .string ((rd_T56 l0 x7_1).f3), .int .i64 0]) ?_ 4 _ rfl; refine bU ?_; refine blk_put (cs := #[.int .i64 ((rd_T56 l0 x7_1).f0), .int .i64 ((rd_T56 l0 x7_1).f1), .string ((rd_T56 l0 x7_1).f2), .string (⟨#[]⟩ : ByteArray), .int .i64 0]) ?_ 3 _ rfl; refine bU ?_; refine blk_put (cs := #[.int .i64 ((rd_T56 l0 x7_1).f0), .int .i64 ((rd_T56 l0 x7_1).f1), .string (⟨#[]⟩ : ByteArray), .string (⟨#[]⟩ : ByteArray), .int .i64 0]) ?_ 2 _ rfl; refine bU ?_; refine blk_put (cs := #[.int .i64 ((rd_T56 l0 x7_1).f0), .int .i64 0, .string (⟨#[]⟩ : ByteArray), .string (⟨#[]⟩ : ByteArray), .int .i64 0]) ?_ 1 _ rfl; refine bU ?_; refine blk_put (cs := #[.int .i64 0, .int .i64 0, .string (⟨#[]⟩ : ByteArray), .string (⟨#[]⟩ : ByteArray), .int .i64 0]) ?_ 0 _ rfl; refine bU ?_; exact BK256.out))⟩; replace HB : Aside0 (Below w.heap.size w w19) := ⟨(by rw [hw]; exact (lV1 GE256))⟩; clear hw))
           replace BK256 := Aside0.mk (blk_drew BK256.out)
           replace HB := Aside0.mk (below_drew1 HB.out)
           have p258 : 0 ≤ ((ji8) : Int) := of_decide_eq_true hE
           have q258 : (ji8) < (l0.length : Int) := of_decide_eq_true hE
           obtain ⟨ad258, e258, hx258_0, hx258_1, hx258_2, hx258_3, hx258_4⟩ := at_T56 HR0.out (ji8) p258 q258
           have hw258_4 := hx258_4
           have hw258_3 := hx258_3
           have hw258_2 := hx258_2
           have hw258_1 := hx258_1
           have hw258_0 := hx258_0
           obtain rfl : ad255 = ad258 := (by injection e258)
           replace hx258_0 := (HB.out.cell (World.block_lt_of_cell? w _ hx258_0)).trans hx258_0
           replace hx258_1 := (HB.out.cell (World.block_lt_of_cell? w _ hx258_1)).trans hx258_1
           replace hx258_2 := (HB.out.cell (World.block_lt_of_cell? w _ hx258_2)).trans hx258_2
           replace hx258_3 := (HB.out.cell (World.block_lt_of_cell? w _ hx258_3)).trans hx258_3
           replace hx258_4 := (HB.out.cell (World.block_lt_of_cell? w _ hx258_4)).trans hx258_4
           replace p258 := eq_true p258
           replace q258 := eq_true q258
           refine start_ (n := 18) (S := fun w' => w'.cell? ⟨gb256, 0, none⟩ = some (.int .i64 ((rd_T56 l0 x7_1).f0)) ∧ w'.cell? ⟨gb256, 1, none⟩ = some (.int .i64 ((rd_T56 l0 x7_1).f1)) ∧ w'.cell? ⟨gb256, 2, none⟩ = some (.string ((rd_T56 l0 x7_1).f2)) ∧ w'.cell? ⟨gb256, 3, none⟩ = some (.string ((rd_T56 l0 x7_1).f3)) ∧ w'.cell? ⟨gb256, 4, none⟩ = some (.int .i64 ((rd_T56 l0 x7_1).f4)) ∧ w'.cell? (ad255.add (((ji8)).toNat * 5)) = some (.int .i64 ((rd_T56 l0 (ji8)).f0)) ∧ w'.cell? ⟨(ad255.add (((ji8)).toNat * 5)).block, (ad255.add (((ji8)).toNat * 5)).off + 1, none⟩ = some (.int .i64 ((rd_T56 l0 (ji8)).f1)) ∧ w'.cell? ⟨(ad255.add (((ji8)).toNat * 5)).block, (ad255.add (((ji8)).toNat * 5)).off + 2, none⟩ = some (.string ((rd_T56 l0 (ji8)).f2)) ∧ w'.cell? ⟨(ad255.add (((ji8)).toNat * 5)).block, (ad255.add (((ji8)).toNat * 5)).off + 3, none⟩ = some (.string ((rd_T56 l0 (ji8)).f3)) ∧ w'.cell? ⟨(ad255.add (((ji8)).toNat * 5)).block, (ad255.add (((ji8)).toNat * 5)).off + 4, none⟩ = some (.int .i64 ((rd_T56 l0 (ji8)).f4))) (ds := []) #[false, false, false, false, false, false, false, false, false, false, false, false, false, false, false, false, false, false] (by kernel_rfl) rfl rfl ⟨cz BK256 0 _, cz BK256 1 _, cz BK256 2 _, cz BK256 3 _, cz BK256 4 _, ((HB.out.cell (World.block_lt_of_cell? w _ hw258_0)).trans hw258_0), ((HB.out.cell (World.block_lt_of_cell? w _ hw258_1)).trans hw258_1), ((HB.out.cell (World.block_lt_of_cell? w _ hw258_2)).trans hw258_2), ((HB.out.cell (World.block_lt_of_cell? w _ hw258_3)).trans hw258_3), ((HB.out.cell (World.block_lt_of_cell? w _ hw258_4)).trans hw258_4)⟩ (fun hHeld => ?_); refine with_tabW impl_GoodChanges.tab4 impl_GoodChanges.bits4 (fun HT_ HW_ => ?_)
           generalize w19.drew = w20 at BK256 HB hx258_0 hx258_1 hx258_2 hx258_3 hx258_4 hHeld ⊢
           refine takeA 0 12 (bz 18 1) rfl rfl (take_ofW HT_.out HW_.out (by kernel_rfl)) hHeld (by rintro w' ⟨s0, s1, s2, s3, s4, s5, s6, s7, s8, s9⟩; go_simp; with_reducible rfl) ?_
           refine one_ (i := 1) (N := some 13) (bz 18 3) rfl rfl (one_of HT_.out (by kernel_rfl)) (by decide) (fun K hK => ?_)
           refine goes_ Try.func56 (by kernel_rfl) rfl #[.agg #[.int .i64 ((rd_T56 l0 x7_1).f0), .int .i64 ((rd_T56 l0 x7_1).f1), .string ((rd_T56 l0 x7_1).f2), .string ((rd_T56 l0 x7_1).f3), .int .i64 ((rd_T56 l0 x7_1).f4)]] (by rfl) rfl rfl aE ?_
           with_reducible refine (impl_isChange.calls k1 ((rd_T56 l0 x7_1).f0) ((rd_T56 l0 x7_1).f1) ((rd_T56 l0 x7_1).f2) ((rd_T56 l0 x7_1).f3) ((rd_T56 l0 x7_1).f4) true _ A5.out).mono ?_
           rintro e w21 ⟨rfl, hb⟩
           refine ⟨_, rfl, ?_⟩
           replace BK256 := bB (bV BK256) hb
           replace HB := bH (lV1 GE256) hb
           (try clear hb)
           (try clear hb2)
           (try clear hk)
           (try clear hi)
           refine hK.out _ _ ⟨cz BK256 0 _, cz BK256 1 _, cz BK256 2 _, cz BK256 3 _, cz BK256 4 _, ((HB.out.cell (World.block_lt_of_cell? w _ hw258_0)).trans hw258_0), ((HB.out.cell (World.block_lt_of_cell? w _ hw258_1)).trans hw258_1), ((HB.out.cell (World.block_lt_of_cell? w _ hw258_2)).trans hw258_2), ((HB.out.cell (World.block_lt_of_cell? w _ hw258_3)).trans hw258_3), ((HB.out.cell (World.block_lt_of_cell? w _ hw258_4)).trans hw258_4)⟩ (fun hHeld => ?_)
           clear hK K
           refine norm_ (a' := ?_) ?_ ?_
           rotate_left
           ·show Act.put _ (some 13) _ = _
            simp only [Act.put, List.setIfInBounds_toArray, List.set_cons_zero, List.set_cons_succ, i64_w, i32_w]
            rfl
           refine pureA 2 14 (bz 18 7) rfl rfl (any_of HT_.out (by kernel_rfl)) ?_
           refine pureA 3 15 (bz 18 15) rfl rfl (any_of HT_.out (by kernel_rfl)) ?_
           refine pureA 4 16 (bz 18 31) rfl rfl (any_of HT_.out (by kernel_rfl)) ?_
           refine pureA 5 17 (bz 18 63) rfl rfl (any_of HT_.out (by kernel_rfl)) ?_
           refine pureA 6 18 (bz 18 127) rfl rfl (any_of HT_.out (by kernel_rfl)) ?_
           refine pureA 7 19 (bz 18 255) rfl rfl (any_of HT_.out (by kernel_rfl)) ?_
           refine pureA 8 20 (bz 18 511) rfl rfl (any_of HT_.out (by kernel_rfl)) ?_
           refine pureA 9 21 (bz 18 1023) rfl rfl (any_of HT_.out (by kernel_rfl)) ?_
           refine pureA 10 22 (bz 18 2047) rfl rfl (any_of HT_.out (by kernel_rfl)) ?_
           refine pureA 11 23 (bz 18 4095) rfl rfl (any_of HT_.out (by kernel_rfl)) ?_
           refine pureA 13 25 (bz 18 12287) rfl rfl (any_of HT_.out (by kernel_rfl)) ?_
           refine takeA 12 24 (bz 18 16383) rfl rfl (take_ofW HT_.out HW_.out (by kernel_rfl)) hHeld (by rintro w' ⟨s0, s1, s2, s3, s4, s5, s6, s7, s8, s9⟩; go_simp; with_reducible rfl) ?_
           refine takeA 14 26 (bz 18 32767) rfl rfl (take_ofW HT_.out HW_.out (by kernel_rfl)) hHeld (by rintro w' ⟨s0, s1, s2, s3, s4, s5, s6, s7, s8, s9⟩; go_simp; with_reducible rfl) ?_
           refine pureA 15 27 (bz 18 65535) rfl rfl (any_of HT_.out (by kernel_rfl)) ?_
           refine pureA 16 28 (bz 18 131071) rfl rfl (any_of HT_.out (by kernel_rfl)) ?_
           refine pureA 17 29 (bz 18 262143) rfl rfl (any_of HT_.out (by kernel_rfl)) ?_
           refine done_ (done_of HT_.out (by kernel_rfl)) ?_
           try go_wp2
           go_roundg k1
           case measure => have := HK1.out; omega
           case rel => exact ⟨(wrap64 (x7_1 + 1)), tE, H', ⟨by have := HK1.out; omega⟩, ⟨by repeat (first | (with_reducible first | exact HB.out | apply below_alloc | apply pw_below_drewN | apply below_drew1 | refine below_set ?_ GE256.out) | exact HB.out)⟩⟩
         ·rw [if_neg c10] at H
          exact absurd H (by simp)
        ·rw [if_neg c9] at H
         exact absurd H (by simp)
       ·rw [if_neg c7] at H
        have c7b0 : decide (0 < x7_1) = false := decide_eq_false c7
        clear c7
        have H' := Aside0.mk H
        clear H
        have p255 : 0 ≤ (x7_1 : Int) := of_decide_eq_true hE
        have q255 : x7_1 < (l0.length : Int) := of_decide_eq_true hE
        obtain ⟨ad255, e255, hx255_0, hx255_1, hx255_2, hx255_3, hx255_4⟩ := at_T56 HR0.out x7_1 p255 q255
        cases e255
        replace hx255_0 := (HB.out.cell (World.block_lt_of_cell? w _ hx255_0)).trans hx255_0
        replace hx255_1 := (HB.out.cell (World.block_lt_of_cell? w _ hx255_1)).trans hx255_1
        replace hx255_2 := (HB.out.cell (World.block_lt_of_cell? w _ hx255_2)).trans hx255_2
        replace hx255_3 := (HB.out.cell (World.block_lt_of_cell? w _ hx255_3)).trans hx255_3
        replace hx255_4 := (HB.out.cell (World.block_lt_of_cell? w _ hx255_4)).trans hx255_4
        replace p255 := eq_true p255
        replace q255 := eq_true q255
        try go_wp2_with (first | ((with_reducible refine gate_dst (N := 4) rfl ?_); refine box_event rfl (N := 4) rfl (cs := #[.int .i64 0, .int .i64 0, .string (⟨#[]⟩ : ByteArray), .string (⟨#[]⟩ : ByteArray), .int .i64 0]) (t := 56) sE ?_; intro gb256 hg w22 hbox hb; have BK256 := Aside0.mk hbox; have GW256 := gS w hg (lU); have GE256 := gS w hg (lU); replace HB := bH (lU) hb; clear hb hbox hg; have hcz23_0 := cz BK256 0 (.int .i64 0); have hcz23_1 := cz BK256 1 (.int .i64 0); have hcz23_2 := cz BK256 2 (.string (⟨#[]⟩ : ByteArray)); have hcz23_3 := cz BK256 3 (.string (⟨#[]⟩ : ByteArray)); have hcz23_4 := cz BK256 4 (.int .i64 0); have hfz23_0 := fz BK256 0; have hfz23_1 := fz BK256 1; have hfz23_2 := fz BK256 2; have hfz23_3 := fz BK256 3; have hfz23_4 := fz BK256 4) | ((with_reducible refine gate_store (t := 56) (p := 4) rfl ?_); refine store_event (t := 56) (p := 4) (v := ?vo_w24) (w1 := (((((w22.setCell ⟨gb256, 0, none⟩ (.int .i64 ((rd_T56 l0 x7_1).f0))).setCell ⟨gb256, 1, none⟩ (.int .i64 ((rd_T56 l0 x7_1).f1))).setCell ⟨gb256, 2, none⟩ (.string ((rd_T56 l0 x7_1).f2))).setCell ⟨gb256, 3, none⟩ (.string ((rd_T56 l0 x7_1).f3))).setCell ⟨gb256, 4, none⟩ (.int .i64 ((rd_T56 l0 x7_1).f4)))) ?hg ?ho ?hn ?hr ?_; (case ho => rfl); (case hg => rfl); (case hn => rfl); (case hr => first | (go_simp; done) | (go_simp; rfl) | (have hq0_ := (blk_cell BK256.out 0).trans (show _ = some _ from rfl); have hf0_ := blk_frozen BK256.out 0; have hq1_ := (blk_cell BK256.out 1).trans (show _ = some _ from rfl); have hf1_ := blk_frozen BK256.out 1; have hq2_ := (blk_cell BK256.out 2).trans (show _ = some _ from rfl); have hf2_ := blk_frozen BK256.out 2; have hq3_ := (blk_cell BK256.out 3).trans (show _ = some _ from rfl); have hf3_ := blk_frozen BK256.out 3; have hq4_ := (blk_cell BK256.out 4).trans (show _ = some _ from rfl); have hf4_ := blk_frozen BK256.out 4; first | (go_simp; done) | (go_simp; rfl))); intro w24 hw; replace BK256 : Aside0 (w24.heap[gb256]? = some (.cells #[.int .i64 ((rd_T56 l0 x7_1).f0), .int .i64 ((rd_T56 l0 x7_1).f1), .string ((rd_T56 l0 x7_1).f2), .string ((rd_T56 l0 x7_1).f3), .int .i64 ((rd_T56 l0 x7_1).f4)] 56 (0, 0))) := ⟨(by rw [hw]; exact (by refine bU ?_; refine blk_put (cs := #[.int .i64 ((rd_T56 l0 x7_1).f0), .int .i64 ((rd_T56 l0 x7_1).f1), .string ((rd_T56 l0 x7_1).f2), .string ((rd_T56 l0 x7_1).f3), .int .i64 0]) ?_ 4 _ rfl; refine bU ?_; refine blk_put (cs := #[.int .i64 ((rd_T56 l0 x7_1).f0), .int .i64 ((rd_T56 l0 x7_1).f1), .string ((rd_T56 l0 x7_1).f2), .string (⟨#[]⟩ : ByteArray), .int .i64 0]) ?_ 3 _ rfl; refine bU ?_; refine blk_put (cs := #[.int .i64 ((rd_T56 l0 x7_1).f0), .int .i64 ((rd_T56 l0 x7_1).f1), .string (⟨#[]⟩ : ByteArray), .string (⟨#[]⟩ : ByteArray), .int .i64 0]) ?_ 2 _ rfl; refine bU ?_; refine blk_put (cs := #[.int .i64 ((rd_T56 l0 x7_1).f0), .int .i64 0, .string (⟨#[]⟩ : ByteArray), .string (⟨#[]⟩ : ByteArray), .int .i64 0]) ?_ 1 _ rfl; refine bU ?_; refine blk_put (cs := #[.int .i64 0, .int .i64 0, .string (⟨#[]⟩ : ByteArray), .string (⟨#[]⟩ : ByteArray), .int .i64 0]) ?_ 0 _ rfl; refine bU ?_; exact BK256.out))⟩; replace HB : Aside0 (Below w.heap.size w w24) := ⟨(by rw [hw]; exact (lV1 GE256))⟩; clear hw))
        replace BK256 := Aside0.mk (blk_drew BK256.out)
        replace HB := Aside0.mk (below_drew1 HB.out)
        refine start_ (n := 18) (S := fun w' => w'.cell? ⟨gb256, 0, none⟩ = some (.int .i64 ((rd_T56 l0 x7_1).f0)) ∧ w'.cell? ⟨gb256, 1, none⟩ = some (.int .i64 ((rd_T56 l0 x7_1).f1)) ∧ w'.cell? ⟨gb256, 2, none⟩ = some (.string ((rd_T56 l0 x7_1).f2)) ∧ w'.cell? ⟨gb256, 3, none⟩ = some (.string ((rd_T56 l0 x7_1).f3)) ∧ w'.cell? ⟨gb256, 4, none⟩ = some (.int .i64 ((rd_T56 l0 x7_1).f4))) (ds := []) #[false, false, false, false, false, false, false, false, false, false, false, false, false, false, false, false, false, false] (by kernel_rfl) rfl rfl ⟨cz BK256 0 _, cz BK256 1 _, cz BK256 2 _, cz BK256 3 _, cz BK256 4 _⟩ (fun hHeld => ?_); refine with_tabW impl_GoodChanges.tab4 impl_GoodChanges.bits4 (fun HT_ HW_ => ?_)
        generalize w24.drew = w25 at BK256 HB hHeld ⊢
        refine takeA 0 12 (bz 18 1) rfl rfl (take_ofW HT_.out HW_.out (by kernel_rfl)) hHeld (by rintro w' ⟨s0, s1, s2, s3, s4⟩; go_simp; with_reducible rfl) ?_
        refine one_ (i := 1) (N := some 13) (bz 18 3) rfl rfl (one_of HT_.out (by kernel_rfl)) (by decide) (fun K hK => ?_)
        refine goes_ Try.func56 (by kernel_rfl) rfl #[.agg #[.int .i64 ((rd_T56 l0 x7_1).f0), .int .i64 ((rd_T56 l0 x7_1).f1), .string ((rd_T56 l0 x7_1).f2), .string ((rd_T56 l0 x7_1).f3), .int .i64 ((rd_T56 l0 x7_1).f4)]] (by rfl) rfl rfl aE ?_
        with_reducible refine (impl_isChange.calls k1 ((rd_T56 l0 x7_1).f0) ((rd_T56 l0 x7_1).f1) ((rd_T56 l0 x7_1).f2) ((rd_T56 l0 x7_1).f3) ((rd_T56 l0 x7_1).f4) true _ A5.out).mono ?_
        rintro e w26 ⟨rfl, hb⟩
        refine ⟨_, rfl, ?_⟩
        replace BK256 := bB (bV BK256) hb
        replace HB := bH (lV1 GE256) hb
        (try clear hb)
        (try clear hb2)
        (try clear hk)
        (try clear hi)
        refine hK.out _ _ ⟨cz BK256 0 _, cz BK256 1 _, cz BK256 2 _, cz BK256 3 _, cz BK256 4 _⟩ (fun hHeld => ?_)
        clear hK K
        refine norm_ (a' := ?_) ?_ ?_
        rotate_left
        ·show Act.put _ (some 13) _ = _
         simp only [Act.put, List.setIfInBounds_toArray, List.set_cons_zero, List.set_cons_succ, i64_w, i32_w]
         rfl
        refine pureA 2 14 (bz 18 7) rfl rfl (any_of HT_.out (by kernel_rfl)) ?_
        refine pureA 3 15 (bz 18 15) rfl rfl (any_of HT_.out (by kernel_rfl)) ?_
        refine pureA 4 16 (bz 18 31) rfl rfl (any_of HT_.out (by kernel_rfl)) ?_
        refine pureA 5 17 (bz 18 63) rfl rfl (any_of HT_.out (by kernel_rfl)) ?_
        refine pureA 6 18 (bz 18 127) rfl rfl (any_of HT_.out (by kernel_rfl)) ?_
        refine pureU 7 19 (bz 18 255) rfl rfl (any_of HT_.out (by kernel_rfl)) ?_
        refine pureU 8 20 (bz 18 511) rfl rfl (any_of HT_.out (by kernel_rfl)) ?_
        refine pureU 9 21 (bz 18 1023) rfl rfl (any_of HT_.out (by kernel_rfl)) ?_
        refine pureU 10 22 (bz 18 2047) rfl rfl (any_of HT_.out (by kernel_rfl)) ?_
        refine pureU 11 23 (bz 18 4095) rfl rfl (any_of HT_.out (by kernel_rfl)) ?_
        refine pureU 12 24 (bz 18 8191) rfl rfl (any_of HT_.out (by kernel_rfl)) ?_
        refine pureU 13 25 (bz 18 16383) rfl rfl (any_of HT_.out (by kernel_rfl)) ?_
        refine pureU 14 26 (bz 18 32767) rfl rfl (any_of HT_.out (by kernel_rfl)) ?_
        refine pureU 15 27 (bz 18 65535) rfl rfl (any_of HT_.out (by kernel_rfl)) ?_
        refine pureA 16 28 (bz 18 131071) rfl rfl (any_of HT_.out (by kernel_rfl)) ?_
        refine pureA 17 29 (bz 18 262143) rfl rfl (any_of HT_.out (by kernel_rfl)) ?_
        refine done_ (done_of HT_.out (by kernel_rfl)) ?_
        try go_wp2
        go_roundg k1
        case measure => have := HK1.out; omega
        case rel => exact ⟨(wrap64 (x7_1 + 1)), tE, H', ⟨by have := HK1.out; omega⟩, ⟨by repeat (first | (with_reducible first | exact HB.out | apply below_alloc | apply pw_below_drewN | apply below_drew1 | refine below_set ?_ GE256.out) | exact HB.out)⟩⟩
      ·replace c6 := Bool.eq_false_iff.mpr c6
       subst c6
       have H1 : (some false) = some r := by rw [if_neg (show ¬ (false = true) by decide)] at H; exact H
       clear H
       have H := H1
       clear H1
       obtain rfl := Option.some.inj H
       have p255 : 0 ≤ (x7_1 : Int) := of_decide_eq_true hE
       have q255 : x7_1 < (l0.length : Int) := of_decide_eq_true hE
       obtain ⟨ad255, e255, hx255_0, hx255_1, hx255_2, hx255_3, hx255_4⟩ := at_T56 HR0.out x7_1 p255 q255
       cases e255
       replace hx255_0 := (HB.out.cell (World.block_lt_of_cell? w _ hx255_0)).trans hx255_0
       replace hx255_1 := (HB.out.cell (World.block_lt_of_cell? w _ hx255_1)).trans hx255_1
       replace hx255_2 := (HB.out.cell (World.block_lt_of_cell? w _ hx255_2)).trans hx255_2
       replace hx255_3 := (HB.out.cell (World.block_lt_of_cell? w _ hx255_3)).trans hx255_3
       replace hx255_4 := (HB.out.cell (World.block_lt_of_cell? w _ hx255_4)).trans hx255_4
       replace p255 := eq_true p255
       replace q255 := eq_true q255
       try go_wp2_with (first | ((with_reducible refine gate_dst (N := 4) rfl ?_); refine box_event rfl (N := 4) rfl (cs := #[.int .i64 0, .int .i64 0, .string (⟨#[]⟩ : ByteArray), .string (⟨#[]⟩ : ByteArray), .int .i64 0]) (t := 56) sE ?_; intro gb256 hg w27 hbox hb; have BK256 := Aside0.mk hbox; have GW256 := gS w hg (lU); have GE256 := gS w hg (lU); replace HB := bH (lU) hb; clear hb hbox hg; have hcz28_0 := cz BK256 0 (.int .i64 0); have hcz28_1 := cz BK256 1 (.int .i64 0); have hcz28_2 := cz BK256 2 (.string (⟨#[]⟩ : ByteArray)); have hcz28_3 := cz BK256 3 (.string (⟨#[]⟩ : ByteArray)); have hcz28_4 := cz BK256 4 (.int .i64 0); have hfz28_0 := fz BK256 0; have hfz28_1 := fz BK256 1; have hfz28_2 := fz BK256 2; have hfz28_3 := fz BK256 3; have hfz28_4 := fz BK256 4) | ((with_reducible refine gate_store (t := 56) (p := 4) rfl ?_); refine store_event (t := 56) (p := 4) (v := ?vo_w29) (w1 := (((((w27.setCell ⟨gb256, 0, none⟩ (.int .i64 ((rd_T56 l0 x7_1).f0))).setCell ⟨gb256, 1, none⟩ (.int .i64 ((rd_T56 l0 x7_1).f1))).setCell ⟨gb256, 2, none⟩ (.string ((rd_T56 l0 x7_1).f2))).setCell ⟨gb256, 3, none⟩ (.string ((rd_T56 l0 x7_1).f3))).setCell ⟨gb256, 4, none⟩ (.int .i64 ((rd_T56 l0 x7_1).f4)))) ?hg ?ho ?hn ?hr ?_; (case ho => rfl); (case hg => rfl); (case hn => rfl); (case hr => first | (go_simp; done) | (go_simp; rfl) | (have hq0_ := (blk_cell BK256.out 0).trans (show _ = some _ from rfl); have hf0_ := blk_frozen BK256.out 0; have hq1_ := (blk_cell BK256.out 1).trans (show _ = some _ from rfl); have hf1_ := blk_frozen BK256.out 1; have hq2_ := (blk_cell BK256.out 2).trans (show _ = some _ from rfl); have hf2_ := blk_frozen BK256.out 2; have hq3_ := (blk_cell BK256.out 3).trans (show _ = some _ from rfl); have hf3_ := blk_frozen BK256.out 3; have hq4_ := (blk_cell BK256.out 4).trans (show _ = some _ from rfl); have hf4_ := blk_frozen BK256.out 4; first | (go_simp; done) | (go_simp; rfl))); intro w29 hw; replace BK256 : Aside0 (w29.heap[gb256]? = some (.cells #[.int .i64 ((rd_T56 l0 x7_1).f0), .int .i64 ((rd_T56 l0 x7_1).f1), .string ((rd_T56 l0 x7_1).f2), .string ((rd_T56 l0 x7_1).f3), .int .i64 ((rd_T56 l0 x7_1).f4)] 56 (0, 0))) := ⟨(by rw [hw]; exact (by refine bU ?_; refine blk_put (cs := #[.int .i64 ((rd_T56 l0 x7_1).f0), .int .i64 ((rd_T56 l0 x7_1).f1), .string ((rd_T56 l0 x7_1).f2), .string ((rd_T56 l0 x7_1).f3), .int .i64 0]) ?_ 4 _ rfl; refine bU ?_; refine blk_put (cs := #[.int .i64 ((rd_T56 l0 x7_1).f0), .int .i64 ((rd_T56 l0 x7_1).f1), .string ((rd_T56 l0 x7_1).f2), .string (⟨#[]⟩ : ByteArray), .int .i64 0]) ?_ 3 _ rfl; refine bU ?_; refine blk_put (cs := #[.int .i64 ((rd_T56 l0 x7_1).f0), .int .i64 ((rd_T56 l0 x7_1).f1), .string (⟨#[]⟩ : ByteArray), .string (⟨#[]⟩ : ByteArray), .int .i64 0]) ?_ 2 _ rfl; refine bU ?_; refine blk_put (cs := #[.int .i64 ((rd_T56 l0 x7_1).f0), .int .i64 0, .string (⟨#[]⟩ : ByteArray), .string (⟨#[]⟩ : ByteArray), .int .i64 0]) ?_ 1 _ rfl; refine bU ?_; refine blk_put (cs := #[.int .i64 0, .int .i64 0, .string (⟨#[]⟩ : ByteArray), .string (⟨#[]⟩ : ByteArray), .int .i64 0]) ?_ 0 _ rfl; refine bU ?_; exact BK256.out))⟩; replace HB : Aside0 (Below w.heap.size w w29) := ⟨(by rw [hw]; exact (lV1 GE256))⟩; clear hw))
       replace BK256 := Aside0.mk (blk_drew BK256.out)
       replace HB := Aside0.mk (below_drew1 HB.out)
       refine start_ (n := 18) (S := fun w' => w'.cell? ⟨gb256, 0, none⟩ = some (.int .i64 ((rd_T56 l0 x7_1).f0)) ∧ w'.cell? ⟨gb256, 1, none⟩ = some (.int .i64 ((rd_T56 l0 x7_1).f1)) ∧ w'.cell? ⟨gb256, 2, none⟩ = some (.string ((rd_T56 l0 x7_1).f2)) ∧ w'.cell? ⟨gb256, 3, none⟩ = some (.string ((rd_T56 l0 x7_1).f3)) ∧ w'.cell? ⟨gb256, 4, none⟩ = some (.int .i64 ((rd_T56 l0 x7_1).f4))) (ds := []) #[false, false, false, false, false, false, false, false, false, false, false, false, false, false, false, false, false, false] (by kernel_rfl) rfl rfl ⟨cz BK256 0 _, cz BK256 1 _, cz BK256 2 _, cz BK256 3 _, cz BK256 4 _⟩ (fun hHeld => ?_); refine with_tabW impl_GoodChanges.tab4 impl_GoodChanges.bits4 (fun HT_ HW_ => ?_)
       generalize w29.drew = w30 at BK256 HB hHeld ⊢
       refine takeA 0 12 (bz 18 1) rfl rfl (take_ofW HT_.out HW_.out (by kernel_rfl)) hHeld (by rintro w' ⟨s0, s1, s2, s3, s4⟩; go_simp; with_reducible rfl) ?_
       refine one_ (i := 1) (N := some 13) (bz 18 3) rfl rfl (one_of HT_.out (by kernel_rfl)) (by decide) (fun K hK => ?_)
       refine goes_ Try.func56 (by kernel_rfl) rfl #[.agg #[.int .i64 ((rd_T56 l0 x7_1).f0), .int .i64 ((rd_T56 l0 x7_1).f1), .string ((rd_T56 l0 x7_1).f2), .string ((rd_T56 l0 x7_1).f3), .int .i64 ((rd_T56 l0 x7_1).f4)]] (by rfl) rfl rfl aE ?_
       with_reducible refine (impl_isChange.calls k1 ((rd_T56 l0 x7_1).f0) ((rd_T56 l0 x7_1).f1) ((rd_T56 l0 x7_1).f2) ((rd_T56 l0 x7_1).f3) ((rd_T56 l0 x7_1).f4) false _ A5.out).mono ?_
       rintro e w31 ⟨rfl, hb⟩
       refine ⟨_, rfl, ?_⟩
       replace BK256 := bB (bV BK256) hb
       replace HB := bH (lV1 GE256) hb
       (try clear hb)
       (try clear hb2)
       (try clear hk)
       (try clear hi)
       refine hK.out _ _ ⟨cz BK256 0 _, cz BK256 1 _, cz BK256 2 _, cz BK256 3 _, cz BK256 4 _⟩ (fun hHeld => ?_)
       clear hK K
       refine norm_ (a' := ?_) ?_ ?_
       rotate_left
       ·show Act.put _ (some 13) _ = _
        simp only [Act.put, List.setIfInBounds_toArray, List.set_cons_zero, List.set_cons_succ, i64_w, i32_w]
        rfl
       refine pureA 2 14 (bz 18 7) rfl rfl (any_of HT_.out (by kernel_rfl)) ?_
       refine pureA 3 15 (bz 18 15) rfl rfl (any_of HT_.out (by kernel_rfl)) ?_
       refine pureU 4 16 (bz 18 31) rfl rfl (any_of HT_.out (by kernel_rfl)) ?_
       refine pureU 5 17 (bz 18 63) rfl rfl (any_of HT_.out (by kernel_rfl)) ?_
       refine pureU 6 18 (bz 18 127) rfl rfl (any_of HT_.out (by kernel_rfl)) ?_
       refine pureU 7 19 (bz 18 255) rfl rfl (any_of HT_.out (by kernel_rfl)) ?_
       refine pureU 8 20 (bz 18 511) rfl rfl (any_of HT_.out (by kernel_rfl)) ?_
       refine pureU 9 21 (bz 18 1023) rfl rfl (any_of HT_.out (by kernel_rfl)) ?_
       refine pureU 10 22 (bz 18 2047) rfl rfl (any_of HT_.out (by kernel_rfl)) ?_
       refine pureU 11 23 (bz 18 4095) rfl rfl (any_of HT_.out (by kernel_rfl)) ?_
       refine pureU 12 24 (bz 18 8191) rfl rfl (any_of HT_.out (by kernel_rfl)) ?_
       refine pureU 13 25 (bz 18 16383) rfl rfl (any_of HT_.out (by kernel_rfl)) ?_
       refine pureU 14 26 (bz 18 32767) rfl rfl (any_of HT_.out (by kernel_rfl)) ?_
       refine pureU 15 27 (bz 18 65535) rfl rfl (any_of HT_.out (by kernel_rfl)) ?_
       refine pureU 16 28 (bz 18 131071) rfl rfl (any_of HT_.out (by kernel_rfl)) ?_
       refine pureA 17 29 (bz 18 262143) rfl rfl (any_of HT_.out (by kernel_rfl)) ?_
       refine done_ (done_of HT_.out (by kernel_rfl)) ?_
       try go_wp2
       go_ret
       exact ⟨eE, lV1 GE256⟩
     ·rw [if_neg c4] at H
      exact absurd H (by simp)
    ·rw [if_neg c3] at H
     exact absurd H (by simp)
   ·rw [if_neg c2] at H
    have c2b0 : decide (x7_1 < (l0.length : Int)) = false := decide_eq_false c2
    clear c2
    obtain rfl := Option.some.inj H
    go_wp2
    go_ret
    exact ⟨eE, lU⟩
def impl_Value_38.f (l0 : List (S59)) : Option (List (S59)) := if l0.length < 3518437208883 then (some l0) else (none)
set_option maxHeartbeats 8000000 in
set_option maxRecDepth 100000 in
theorem impl_Value_38.calls (A0 : Option Addr) (c0 : Nat) (l0 : List (S59)) (r : List (S59)) (w : World) (hr0 : Kd.C k59 w A0 l0.length l0) (hc0 : l0.length ≤ c0) (h : impl_Value_38.f l0 = some r) :
  Calls Try.prog 38 #[.slice A0 l0.length c0] w fun e w' => ∃ v0_ : Value, e = .returned (v0_) ∧ Kd.R k59 59 w' w.heap.size (fun _ => True) v0_ r ∧ Below w.heap.size w w' := by
 have hl : l0.length < 3518437208883 ∧ l0 = r := by
  unfold impl_Value_38.f at h
  split at h
  ·exact ⟨by assumption, Option.some.inj h⟩
  ·cases h
 clear h
 obtain ⟨hl, rfl⟩ := hl
 have HL := Aside0.mk hl
 have HR0 := Aside0.mk hr0
 clear hr0 hl
 have HT := Try.underlying26
 have u0 : ∀ w, Sem.run Try.prog (underlying 26) w = .ok (TypeDesc.slice 59) w := run_underlying HT
 have q0 : ∀ (w : World) (a : Option Addr) (n c n' c' : Nat), (binOp .eql 26 (.slice a n c) (.slice none n' c')).run Try.prog w = .ok (.bool a.isNone) w := fun w a n c n' c' => Lib.run_eql_slice_nil w _ _ a n c n' c' HT
 cases A0 with
 | none =>
  obtain rfl : l0 = [] := by
   rcases Nat.eq_zero_or_pos l0.length with h0 | h0
   ·exact List.eq_nil_of_length_eq_zero h0
   ·obtain ⟨ad, h1, _⟩ := HR0.out.2.2 h0
    cases h1
  go_enter Try.func38, Try.ntmps38
  go_wp2
  go_ret
  exact ⟨_, rfl, Kd.R_nil _ _ _ _ _, Below.refl _ _⟩
 | some ad =>
  go_enter Try.func38, Try.ntmps38
  go_wp2_with (first | ((with_reducible refine gate_builtin (b := .append) (xs := #[.tmp 5, .tmp 6]) rfl ?_); at_builtin; refine Kd.R_append_rows k59 (w0 := w) w.heap.size rfl (.tmp 5) (.tmp 6) 26 59 (.agg #[(.string ⟨#[]⟩), (.int .i64 0), (.string ⟨#[]⟩)]) 40 rfl Try.underlying26 info59 rfl (by decide) (by omega) (.slice (some ⟨w.heap.size, 0, none⟩) 0 0) [] l0 (some ad) l0.length c0 (fun _ => True) (fun _ => False) rfl rfl ?aO ?aR (fun _ _ h => h) (fun _ h => h.elim) ?aF ?aB ?aS ?aL ?_; (case aR => exact Kd.C_below HR0.out (below_alloc (Below.refl _ _) _)); (case aB => exact below_alloc (Below.refl _ _) _); (case aF => exact fun _ _ => trivial); (case aO => exact ⟨fun _ _ => trivial, [], World.ownsRow_made w #[] 0 (Nat.le_refl _) (Nat.zero_le _) rfl, ⟨rfl, fun j p hj => by simp at hj⟩⟩); (case aS => simp); (case aL => have := HL.out; simp only [List.length_nil, Nat.zero_add]; omega); intro v1 w1 ho hb hg hat; rw [List.nil_append] at ho; have HO := Aside0.mk ho; have HB := Aside0.mk hb; clear ho hb hg hat))
  go_ret
  exact ⟨_, rfl, HO.out, HB.out⟩
def bytealg_CompareString.f (a0 : ByteArray) (a1 : ByteArray) : Option (Int) := some (cmps a0 a1)
set_option maxHeartbeats 8000000 in
set_option maxRecDepth 100000 in
theorem bytealg_CompareString.calls (a0 : ByteArray) (a1 : ByteArray) (r : Int) (w : World) (h : bytealg_CompareString.f a0 a1 = some r) :
  Calls Try.prog 72 #[.string a0, .string a1] w fun e w' => e = .returned (.int .i64 r) ∧ Drawn0 w w' := by
 have hx74 : ∀ (x_ y_ : ByteArray) (W_ : World), (callFunc 74 #[.string x_, .string y_]).run Try.prog W_ = .ok (.value (.int .i64 (cmps x_ y_))) W_ := fun x_ y_ W_ => call_cmps Try.func74 (by kernel_rfl) (by kernel_rfl) (by kernel_rfl) (by kernel_rfl) x_ y_ W_
 have H : (some (cmps a0 a1)) = some r := h
 clear h
 obtain rfl := Option.some.inj H
 go_enter Try.func72, Try.ntmps72
 go_wp2
 go_ret
 exact ⟨by first | rfl | (simp; done) | (simp [*]; done) | exact not_isEmpty _ | exact (not_isEmpty _).symm | exact is_empty _ | exact (is_empty _).symm, by repeat (first | exact Drawn0.refl _ | apply Drawn0.step)⟩
def strings_Compare.f (a0 : ByteArray) (a1 : ByteArray) : Option (Int) := (bytealg_CompareString.f a0 a1).bind fun t259 => (some t259)
set_option maxHeartbeats 8000000 in
set_option maxRecDepth 100000 in
theorem strings_Compare.calls (a0 : ByteArray) (a1 : ByteArray) (r : Int) (w : World) (h : strings_Compare.f a0 a1 = some r) :
  Calls Try.prog 68 #[.string a0, .string a1] w fun e w' => e = .returned (.int .i64 r) ∧ Drawn0 w w' := by
 have H : ((bytealg_CompareString.f a0 a1).bind fun t259 => (some t259)) = some r := h
 clear h
 replace H := Option.bind_eq_some_iff.mp H
 obtain ⟨t259, A30, H⟩ := H
 replace H : (some t259) = some r := H
 have A3 := Aside0.mk A30
 clear A30
 obtain rfl := Option.some.inj H
 go_enter Try.func68, Try.ntmps68
 go_wp2_with (first | ((with_reducible refine gate_callee (f := 72) rfl ?_); refine goesL_ (some 7) rfl rfl Try.func72 (by kernel_rfl) rfl #[.string a0, .string a1] rfl aE ?_; (with_reducible refine (bytealg_CompareString.calls a0 a1 t259 _ A3.out).mono ?_); rintro e w' ⟨rfl, ⟨nd, rfl⟩⟩; refine ⟨_, rfl, ?_⟩))
 go_ret
 exact ⟨by first | rfl | (simp; done) | (simp [*]; done) | exact not_isEmpty _ | exact (not_isEmpty _).symm | exact is_empty _ | exact (is_empty _).symm, by repeat (first | exact Drawn0.refl _ | apply Drawn0.step)⟩
end Go.Proofs.Ytdgaphefgpjbfaa.PFnExactMigrateSave
namespace Go.Proofs.Ytdgaphefgpjbfaa.PFnExactMigrateSave
open Go.RowKit Go.Proofs.YtdgaphefgpjbfaaW.PrintWords Go.Proofs.YtdgaphefgpjbfaaW.PrintLast Go.Proofs.YtdgaphefgpjbfaaW.PrintMore
attribute [local go_sem] max2_int min2_int max_two min_two max_three min_three max_four min_four   -- for this text's walks alone
set_option linter.unusedVariables false
set_option linter.unusedSimpArgs false
def impl_valuePlace_1.f (a0_0 : ByteArray) (a0_1 : Int) (a0_2 : ByteArray) (a1 : ByteArray) : Option (Int) := (strings_Compare.f a0_0 a1).bind fun t261 => (some t261)
set_option maxHeartbeats 8000000 in
set_option maxRecDepth 100000 in
theorem impl_valuePlace_1.calls (a0_0 : ByteArray) (a0_1 : Int) (a0_2 : ByteArray) (a1 : ByteArray) (r : Int) (w : World) (h : impl_valuePlace_1.f a0_0 a0_1 a0_2 a1 = some r) :
  Calls Try.prog 67 #[.agg #[.string a0_0, .int .i64 a0_1, .string a0_2], .string a1] w fun e w' => e = .returned (.int .i64 r) ∧ Below w.heap.size w w' := by
 have hu59 := Try.underlying59
 have HB := Aside0.mk (Below.refl w.heap.size w)
 have H : ((strings_Compare.f a0_0 a1).bind fun t261 => (some t261)) = some r := h
 clear h
 replace H := Option.bind_eq_some_iff.mp H
 obtain ⟨t261, A30, H⟩ := H
 replace H : (some t261) = some r := H
 have A3 := Aside0.mk A30
 clear A30
 obtain rfl := Option.some.inj H
 go_enter Try.func67, Try.ntmps67
 go_wp2_with (first | ((with_reducible refine gate_dst (N := 2) rfl ?_); refine box_event rfl (N := 2) rfl (cs := #[.string a0_0, .int .i64 a0_1, .string a0_2]) (t := 59) sE ?_; intro gb260 hg w4 hbox hb; have BK260 := Aside0.mk hbox; have GW260 := gS w hg (lU); have GE260 := gS w hg (lU); replace HB := bH (lU) hb; clear hb hbox hg; have hcz5_0 := cz BK260 0 (.string a0_0); have hcz5_1 := cz BK260 1 (.int .i64 a0_1); have hcz5_2 := cz BK260 2 (.string a0_2); have hfz5_0 := fz BK260 0; have hfz5_1 := fz BK260 1; have hfz5_2 := fz BK260 2) | ((with_reducible refine gate_callee (f := 68) rfl ?_); refine goesL_ (some 8) rfl rfl Try.func68 (by kernel_rfl) rfl #[.string a0_0, .string a1] rfl aE ?_; (with_reducible refine (strings_Compare.calls a0_0 a1 t261 _ A3.out).mono ?_); rintro e w' ⟨rfl, ⟨nd, rfl⟩⟩; refine ⟨_, rfl, ?_⟩))
 go_ret
 exact ⟨eE, lV1 GE260⟩
def slices_BinarySearchFunc_w67.l0 : Nat → List (S59) → ByteArray → Int → Int → Int → Option (Int × Bool)
 | 0, _, _, _, _, _ => none
 | k + 1, x0, x1, x8, x9, x10 => if x9 < x10 then (if 0 ≤ (wrap64 ((IntKind.u64.wrap (wrap64 (x9 + x10))) / 2)) then (if (wrap64 ((IntKind.u64.wrap (wrap64 (x9 + x10))) / 2)) < (x0.length : Int) then ((impl_valuePlace_1.f ((rd_T59 x0 (wrap64 ((IntKind.u64.wrap (wrap64 (x9 + x10))) / 2))).f0) ((rd_T59 x0 (wrap64 ((IntKind.u64.wrap (wrap64 (x9 + x10))) / 2))).f1) ((rd_T59 x0 (wrap64 ((IntKind.u64.wrap (wrap64 (x9 + x10))) / 2))).f2) x1).bind fun t263 => (if t263 < 0 then (slices_BinarySearchFunc_w67.l0 k x0 x1 x8 (wrap64 ((wrap64 ((IntKind.u64.wrap (wrap64 (x9 + x10))) / 2)) + 1)) x10) else (slices_BinarySearchFunc_w67.l0 k x0 x1 x8 x9 (wrap64 ((IntKind.u64.wrap (wrap64 (x9 + x10))) / 2))))) else (none)) else (none)) else (if x9 < x8 then (if 0 ≤ x9 then (if x9 < (x0.length : Int) then ((impl_valuePlace_1.f ((rd_T59 x0 x9).f0) ((rd_T59 x0 x9).f1) ((rd_T59 x0 x9).f2) x1).bind fun t265 => (some (x9, (t265 == 0)))) else (none)) else (none)) else (some (x9, false)))
def slices_BinarySearchFunc_w67.f (k : Nat) (l0 : List (S59)) (a1 : ByteArray)  : Option (Int × Bool) := slices_BinarySearchFunc_w67.l0 k l0 a1 (l0.length : Int) 0 (l0.length : Int)
theorem slices_BinarySearchFunc_w67.mono_l : ∀ k, (∀ y0 y1 y2 y3 y4, LeO (slices_BinarySearchFunc_w67.l0 k y0 y1 y2 y3 y4) (slices_BinarySearchFunc_w67.l0 (k + 1) y0 y1 y2 y3 y4))
 | 0 => fun _ _ _ _ _ r h => by simp [slices_BinarySearchFunc_w67.l0] at h
 | k + 1 => by
  have ih0 := slices_BinarySearchFunc_w67.mono_l k
  ·intro y0 y1 y2 y3 y4
   unfold slices_BinarySearchFunc_w67.l0
   repeat' first
   | (with_reducible exact ih0 _ _ _ _ _)
   | (with_reducible first | exact LeO.refl _ | exact LeO.none _ | refine LeO.ite ?_ ?_ | refine LeO.bind ?_ (fun _ => ?_))
   | exact ih0 _ _ _ _ _ | exact LeO.none _ | refine LeO.ite ?_ ?_ | refine LeO.bind ?_ (fun _ => ?_)
theorem slices_BinarySearchFunc_w67.mono : ∀ a0 a1 k, LeO (slices_BinarySearchFunc_w67.f k a0 a1) (slices_BinarySearchFunc_w67.f (k + 1) a0 a1) := by
 intro a0 a1 k
 have ih0 := slices_BinarySearchFunc_w67.mono_l k
 unfold slices_BinarySearchFunc_w67.f
 repeat' first
   | (with_reducible exact ih0 _ _ _ _ _)
   | (with_reducible first | exact LeO.refl _ | exact LeO.none _ | refine LeO.ite ?_ ?_ | refine LeO.bind ?_ (fun _ => ?_))
   | exact ih0 _ _ _ _ _ | exact LeO.none _ | refine LeO.ite ?_ ?_ | refine LeO.bind ?_ (fun _ => ?_)
set_option maxHeartbeats 8000000 in
set_option maxRecDepth 100000 in
theorem slices_BinarySearchFunc_w67.calls (k : Nat) (A0 : Option Addr) (c0 : Nat) (l0 : List (S59)) (a1 : ByteArray)  (r1 : Int) (r2 : Bool) (w : World) (hr0 : Kd.C k59 w A0 l0.length l0) (hc0 : l0.length ≤ c0) (h : slices_BinarySearchFunc_w67.f k l0 a1 = some (r1, r2)) :
  Calls Try.prog 66 #[.slice A0 l0.length c0, .string a1, .func (.func 67) #[] #[]] w fun e w' => e = .returned (.tuple #[.int .i64 r1, .bool r2]) ∧ Below w.heap.size w w' := by
 have hu59 := Try.underlying59
 have HR0 := Aside0.mk hr0
 have HC0 := Aside0.mk hc0
 clear hr0 hc0
 have HB := Aside0.mk (Below.refl w.heap.size w)
 have H : (slices_BinarySearchFunc_w67.l0 k l0 a1 (l0.length : Int) 0 (l0.length : Int)) = some (r1, r2) := h
 clear h
 have H' := Aside0.mk H
 clear H
 go_enter Try.func66, Try.ntmps66
 go_wp2
 go_loopg [9, 10] k (fun kq v9 v10 w' => ∃ (x9_1 : Int) (x10_1 : Int), v9 = .int .i64 x9_1 ∧ v10 = .int .i64 x10_1 ∧ Aside0 (slices_BinarySearchFunc_w67.l0 kq l0 a1 (l0.length : Int) x9_1 x10_1 = some (r1, r2)) ∧ Aside0 (kq ≤ k) ∧ Aside0 (Below w.heap.size w w'))
 case atStart => exact ⟨(0), ((l0.length : Int)), tE, tE, H', ⟨Nat.le_refl _⟩, ⟨by repeat (first | (with_reducible first | exact HB.out | apply below_alloc | apply pw_below_drewN | apply below_drew1) | exact HB.out)⟩⟩
 case round =>
  clear H'
  try clear p2
  obtain ⟨x9_1, x10_1, rfl, rfl, HA, HK1, HB⟩ := hrel
  cases gk with
  | zero => exact absurd HA.out (by simp [slices_BinarySearchFunc_w67.l0])
  | succ k1 =>
   have H := HA.out
   clear HA
   simp only [slices_BinarySearchFunc_w67.l0] at H
   by_cases c4 : x9_1 < x10_1
   ·rw [if_pos c4] at H
    have c4b0 : decide (x9_1 < x10_1) = true := decide_eq_true c4
    clear c4
    obtain ⟨ji5, hji5⟩ : ∃ j_ : Int, (wrap64 ((IntKind.u64.wrap (wrap64 (x9_1 + x10_1))) / 2)) = j_ := ⟨_, rfl⟩
    replace H : (if 0 ≤ (ji5) then (if (ji5) < (l0.length : Int) then ((impl_valuePlace_1.f ((rd_T59 l0 (ji5)).f0) ((rd_T59 l0 (ji5)).f1) ((rd_T59 l0 (ji5)).f2) a1).bind fun t263 => (if t263 < 0 then (slices_BinarySearchFunc_w67.l0 k1 l0 a1 (l0.length : Int) (wrap64 ((ji5) + 1)) x10_1) else (slices_BinarySearchFunc_w67.l0 k1 l0 a1 (l0.length : Int) x9_1 ji5))) else (none)) else (none)) = some (r1, r2) := by first | (rw [hji5] at H; exact H) | (simp only [hji5] at H ⊢; exact H)
    have hji5w : (IntKind.i64.wrap ((IntKind.u64.wrap (wrap64 (x9_1 + x10_1))) / 2)) = ji5 := (i64_w _).trans hji5
    by_cases c6 : 0 ≤ (ji5)
    ·rw [if_pos c6] at H
     have c6b0 : decide (0 ≤ (ji5)) = true := decide_eq_true c6
     clear c6
     by_cases c7 : (ji5) < (l0.length : Int)
     ·rw [if_pos c7] at H
      have c7b0 : decide ((ji5) < (l0.length : Int)) = true := decide_eq_true c7
      clear c7
      replace H := Option.bind_eq_some_iff.mp H
      obtain ⟨t263, A80, H⟩ := H
      replace H : (if t263 < 0 then (slices_BinarySearchFunc_w67.l0 k1 l0 a1 (l0.length : Int) (wrap64 ((ji5) + 1)) x10_1) else (slices_BinarySearchFunc_w67.l0 k1 l0 a1 (l0.length : Int) x9_1 ji5)) = some (r1, r2) := H
      have A8 := Aside0.mk A80
      clear A80
      by_cases c9 : t263 < 0
      ·rw [if_pos c9] at H
       have c9b0 : decide (t263 < 0) = true := decide_eq_true c9
       clear c9
       have H' := Aside0.mk H
       clear H
       have p262 : 0 ≤ ((ji5) : Int) := of_decide_eq_true hE
       have q262 : (ji5) < (l0.length : Int) := of_decide_eq_true hE
       obtain ⟨ad262, e262, hx262_0, hx262_1, hx262_2⟩ := at_T59 HR0.out (ji5) p262 q262
       cases e262
       replace hx262_0 := (HB.out.cell (World.block_lt_of_cell? w _ hx262_0)).trans hx262_0
       replace hx262_1 := (HB.out.cell (World.block_lt_of_cell? w _ hx262_1)).trans hx262_1
       replace hx262_2 := (HB.out.cell (World.block_lt_of_cell? w _ hx262_2)).trans hx262_2
       replace p262 := eq_true p262
       replace q262 := eq_true q262
       go_wp2_with (first | ((with_reducible refine gateD_ rfl ?_); refine goesD_ (some 30) rfl rfl Try.func67 (by kernel_rfl) rfl rfl rfl #[.agg #[.string ((rd_T59 l0 (ji5)).f0), .int .i64 ((rd_T59 l0 (ji5)).f1), .string ((rd_T59 l0 (ji5)).f2)], .string a1] (by (try simp only [List.map_toArray, List.map_cons, List.map_nil]); first | done | (simp only [hji5]; rfl) | rfl | (simp only [List.length_drop, List.length_take]; rfl)) ?_; (with_reducible refine (impl_valuePlace_1.calls ((rd_T59 l0 (ji5)).f0) ((rd_T59 l0 (ji5)).f1) ((rd_T59 l0 (ji5)).f2) a1 t263 _ A8.out).mono ?_); rintro e w10 ⟨rfl, hb⟩; refine ⟨_, rfl, ?_⟩; replace HB := bH (lU) hb; (try clear hb)))
       go_roundg k1
       case measure => have := HK1.out; omega
       case rel => exact ⟨(wrap64 ((ji5) + 1)), (x10_1), (by first | rfl | (simp; done) | (simp only [← hji5] <;> (first | rfl | simp)) | (simp [*]; done) | exact not_isEmpty _ | exact (not_isEmpty _).symm | exact is_empty _ | exact (is_empty _).symm), tE, H', ⟨by have := HK1.out; omega⟩, ⟨by repeat (first | (with_reducible first | exact HB.out | apply below_alloc | apply pw_below_drewN | apply below_drew1) | exact HB.out)⟩⟩
      ·rw [if_neg c9] at H
       have c9b0 : decide (t263 < 0) = false := decide_eq_false c9
       clear c9
       have H' := Aside0.mk H
       clear H
       have p262 : 0 ≤ ((ji5) : Int) := of_decide_eq_true hE
       have q262 : (ji5) < (l0.length : Int) := of_decide_eq_true hE
       obtain ⟨ad262, e262, hx262_0, hx262_1, hx262_2⟩ := at_T59 HR0.out (ji5) p262 q262
       cases e262
       replace hx262_0 := (HB.out.cell (World.block_lt_of_cell? w _ hx262_0)).trans hx262_0
       replace hx262_1 := (HB.out.cell (World.block_lt_of_cell? w _ hx262_1)).trans hx262_1
       replace hx262_2 := (HB.out.cell (World.block_lt_of_cell? w _ hx262_2)).trans hx262_2
       replace p262 := eq_true p262
       replace q262 := eq_true q262
       go_wp2_with (first | ((with_reducible refine gateD_ rfl ?_); refine goesD_ (some 30) rfl rfl Try.func67 (by kernel_rfl) rfl rfl rfl #[.agg #[.string ((rd_T59 l0 (ji5)).f0), .int .i64 ((rd_T59 l0 (ji5)).f1), .string ((rd_T59 l0 (ji5)).f2)], .string a1] (by (try simp only [List.map_toArray, List.map_cons, List.map_nil]); first | done | (simp only [hji5]; rfl) | rfl | (simp only [List.length_drop, List.length_take]; rfl)) ?_; (with_reducible refine (impl_valuePlace_1.calls ((rd_T59 l0 (ji5)).f0) ((rd_T59 l0 (ji5)).f1) ((rd_T59 l0 (ji5)).f2) a1 t263 _ A8.out).mono ?_); rintro e w11 ⟨rfl, hb⟩; refine ⟨_, rfl, ?_⟩; replace HB := bH (lU) hb; (try clear hb)))
       go_roundg k1
       case measure => have := HK1.out; omega
       case rel => exact ⟨(x9_1), (ji5), tE, (by first | rfl | (simp; done) | (simp only [← hji5] <;> (first | rfl | simp)) | (simp [*]; done) | exact not_isEmpty _ | exact (not_isEmpty _).symm | exact is_empty _ | exact (is_empty _).symm), H', ⟨by have := HK1.out; omega⟩, ⟨by repeat (first | (with_reducible first | exact HB.out | apply below_alloc | apply pw_below_drewN | apply below_drew1) | exact HB.out)⟩⟩
     ·rw [if_neg c7] at H
      exact absurd H (by simp)
    ·rw [if_neg c6] at H
     exact absurd H (by simp)
   ·rw [if_neg c4] at H
    have c4b0 : decide (x9_1 < x10_1) = false := decide_eq_false c4
    clear c4
    by_cases c12 : x9_1 < (l0.length : Int)
    ·rw [if_pos c12] at H
     have c12b0 : decide (x9_1 < (l0.length : Int)) = true := decide_eq_true c12
     clear c12
     by_cases c13 : 0 ≤ x9_1
     ·rw [if_pos c13] at H
      have c13b0 : decide (0 ≤ x9_1) = true := decide_eq_true c13
      clear c13
      by_cases c14 : x9_1 < (l0.length : Int)
      ·rw [if_pos c14] at H
       have c14b0 : decide (x9_1 < (l0.length : Int)) = true := decide_eq_true c14
       clear c14
       replace H := Option.bind_eq_some_iff.mp H
       obtain ⟨t265, A150, H⟩ := H
       replace H : (some (x9_1, (t265 == 0))) = some (r1, r2) := H
       have A15 := Aside0.mk A150
       clear A150
       simp only [Option.some.injEq, Prod.mk.injEq] at H
       obtain ⟨rfl, rfl⟩ := H
       have p264 : 0 ≤ (x9_1 : Int) := of_decide_eq_true hE
       have q264 : x9_1 < (l0.length : Int) := of_decide_eq_true hE
       obtain ⟨ad264, e264, hx264_0, hx264_1, hx264_2⟩ := at_T59 HR0.out x9_1 p264 q264
       cases e264
       replace hx264_0 := (HB.out.cell (World.block_lt_of_cell? w _ hx264_0)).trans hx264_0
       replace hx264_1 := (HB.out.cell (World.block_lt_of_cell? w _ hx264_1)).trans hx264_1
       replace hx264_2 := (HB.out.cell (World.block_lt_of_cell? w _ hx264_2)).trans hx264_2
       replace p264 := eq_true p264
       replace q264 := eq_true q264
       go_wp2_with (first | (go_at_call 67; (with_reducible refine (impl_valuePlace_1.calls ((rd_T59 l0 x9_1).f0) ((rd_T59 l0 x9_1).f1) ((rd_T59 l0 x9_1).f2) a1 t265 _ A15.out).mono ?_); rintro e w16 ⟨rfl, hb⟩; replace HB := bH (lU) hb; (try clear hb)))
       go_ret2
       exact ⟨eE, lU⟩
      ·rw [if_neg c14] at H
       exact absurd H (by simp)
     ·rw [if_neg c13] at H
      exact absurd H (by simp)
    ·rw [if_neg c12] at H
     have c12b0 : decide (x9_1 < (l0.length : Int)) = false := decide_eq_false c12
     clear c12
     simp only [Option.some.injEq, Prod.mk.injEq] at H
     obtain ⟨rfl, rfl⟩ := H
     go_wp2
     go_ret2
     exact ⟨eE, lU⟩
def impl_valuePlace.f (k : Nat) (l0 : List (S59)) (a1 : ByteArray) : Option (Int × Bool) := (slices_BinarySearchFunc_w67.f k l0 a1).bind fun bt266 => (some (bt266.1, bt266.2))
theorem impl_valuePlace.mono : ∀ a0 a1 k, LeO (impl_valuePlace.f k a0 a1) (impl_valuePlace.f (k + 1) a0 a1) := by
 intro a0 a1 k
 unfold impl_valuePlace.f
 repeat' first
   | (with_reducible exact slices_BinarySearchFunc_w67.mono _ _ _)
   | (with_reducible first | exact LeO.refl _ | exact LeO.none _ | refine LeO.ite ?_ ?_ | refine LeO.bind ?_ (fun _ => ?_))
   | exact slices_BinarySearchFunc_w67.mono _ _ _ | exact LeO.none _ | refine LeO.ite ?_ ?_ | refine LeO.bind ?_ (fun _ => ?_)
set_option maxHeartbeats 8000000 in
set_option maxRecDepth 100000 in
theorem impl_valuePlace.calls (k : Nat) (A0 : Option Addr) (c0 : Nat) (l0 : List (S59)) (a1 : ByteArray) (r1 : Int) (r2 : Bool) (w : World) (hr0 : Kd.C k59 w A0 l0.length l0) (hc0 : l0.length ≤ c0) (h : impl_valuePlace.f k l0 a1 = some (r1, r2)) :
  Calls Try.prog 57 #[.slice A0 l0.length c0, .string a1] w fun e w' => e = .returned (.tuple #[.int .i64 r1, .bool r2]) ∧ Below w.heap.size w w' := by
 have HR0 := Aside0.mk hr0
 have HC0 := Aside0.mk hc0
 clear hr0 hc0
 have HB := Aside0.mk (Below.refl w.heap.size w)
 have H : ((slices_BinarySearchFunc_w67.f k l0 a1).bind fun bt266 => (some (bt266.1, bt266.2))) = some (r1, r2) := h
 clear h
 replace H := Option.bind_eq_some_iff.mp H
 obtain ⟨⟨t266, t267⟩, A30, H⟩ := H
 replace H : (some (t266, t267)) = some (r1, r2) := H
 have A3 := Aside0.mk A30
 clear A30
 simp only [Option.some.injEq, Prod.mk.injEq] at H
 obtain ⟨rfl, rfl⟩ := H
 go_enter Try.func57, Try.ntmps57
 go_wp2_with (first | ((with_reducible refine gate_callee (f := 66) rfl ?_); refine goesL_ (some 8) rfl rfl Try.func66 (by kernel_rfl) rfl #[.slice A0 l0.length c0, .string a1, .func (.func 67) #[] #[]] rfl aE ?_; (with_reducible refine (slices_BinarySearchFunc_w67.calls k _ _ l0 a1  t266 t267 _ ?side1 ?side2 A3.out).mono ?_); (case side1 => repeat (first | exact HR0.out | (with_reducible refine Kd.C_alloc ?_ _) | (with_reducible refine Kd.C_drewN ?_ _) | (with_reducible refine Kd.C_drew ?_))); (case side2 => exact HC0.out); rintro e w4 ⟨rfl, hb⟩; refine ⟨_, rfl, ?_⟩; replace HB := bH (lU) hb; (try clear hb)))
 go_ret2
 exact ⟨eE, lU⟩
def impl_Value_58.f (l0 : List (S59)) (a1 : Int) (l2 : List (S59)) : Option (List (S59)) := if 0 ≤ a1 then (if a1 ≤ (l0.length : Int) then (if l2.length = 1 then (if (l0.length + 1) * 40 ≤ 140737488355328 then (some (l0.take a1.toNat ++ l2 ++ l0.drop a1.toNat)) else (none)) else (none)) else (none)) else (none)
set_option maxHeartbeats 8000000 in
set_option maxRecDepth 100000 in
theorem impl_Value_58.calls (P0_ : Nat → Prop) (u9000_ : Value) (l0 : List (S59)) (a1 : Int) (A2 : Option Addr) (c2 : Nat) (l2 : List (S59)) (r : List (S59)) (w0 w : World) (hB : Below w0.heap.size w0 w) (ho0 : Kd.R k59 59 w w0.heap.size P0_ u9000_ l0) (hr2 : ∀ W_, Kept w W_ (fun k_ => P0_ k_) → Kd.C k59 W_ A2 l2.length l2) (hc2 : l2.length ≤ c2) (h : impl_Value_58.f l0 a1 l2 = some r) :
  Calls Try.prog 58 #[u9000_, .int .i64 a1, .slice A2 l2.length c2] w fun e w' => ∃ v0_ : Value, e = .returned (v0_) ∧ Kd.R k59 59 w' w0.heap.size (fun k_ => (P0_ k_ ∨ w.heap.size ≤ k_)) v0_ r ∧ Below w0.heap.size w0 w' ∧ Kept w w' (fun k_ => P0_ k_) := by
 obtain ⟨h0, h1, h2, h3, rfl⟩ : 0 ≤ a1 ∧ a1 ≤ (l0.length : Int) ∧ l2.length = 1 ∧ (l0.length + 1) * 40 ≤ 140737488355328 ∧ l0.take a1.toNat ++ l2 ++ l0.drop a1.toNat = r := by
  unfold impl_Value_58.f at h
  split at h
  ·split at h
   ·split at h
    ·split at h
     ·exact ⟨by assumption, by assumption, by assumption, by assumption, Option.some.inj h⟩
     ·cases h
    ·cases h
   ·cases h
  ·cases h
 clear h
 obtain ⟨x, rfl⟩ : ∃ x, l2 = [x] := List.length_eq_one_iff.1 h2
 obtain ⟨i, rfl⟩ : ∃ i : Nat, a1 = (i : Int) := ⟨a1.toNat, by omega⟩
 rw [Int.toNat_natCast]
 have hi : i ≤ l0.length := by omega
 obtain ⟨A0, c0, rfl⟩ := Kd.R_slice ho0
 obtain ⟨_, hnc, _⟩ := Kd.R_reads' ho0
 have HT := Try.underlying26
 obtain ⟨i0, hi0, hz0, hz1, hz2⟩ := info_parts info59
 have cut := cut_from (P := Try.prog) 26 59 .i64 HT hi0 3 hz1 A0 l0.length c0 (i : Int) (by omega) (by omega)
 have ei : ((i : Int)).toNat = i := rfl
 rw [ei] at cut
 obtain ⟨A3, hA3⟩ : ∃ A3, A3 = (if c0 = i then A0 else A0.map (·.add (i * 3))) := ⟨_, rfl⟩
 rw [← hA3] at cut
 clear hA3 ei
 have HC2 := Aside0.mk hr2
 have HO := Aside0.mk ho0
 have HB := Aside0.mk hB
 have HS := Aside0.mk hB.size
 have H3 := Aside0.mk h3
 clear hr2 ho0 hB h3 hi0 hz0 hz1 hz2
 by_cases hin : i = l0.length
 ·have HIN := Aside0.mk hin
  have hb1 : ((i : Int) == (l0.length : Int)) = true := by simp; omega
  go_enter Try.func58, Try.ntmps58
  go_wp2_with (first | ((with_reducible refine gate_builtin (b := .append) (xs := #[.tmp 23, .tmp 24]) rfl ?_); at_builtin; refine Kd.R_append_rows k59 (w0 := w0) (Rr := fun y cs => ∀ (W : World) (b_ : Nat) (q_ : Nat → Prop), k59.M W b_ q_ y cs) w0.heap.size rfl (.tmp 23) (.tmp 24) 26 59 (.agg #[(.string ⟨#[]⟩), (.int .i64 0), (.string ⟨#[]⟩)]) 40 rfl Try.underlying26 info59 rfl (by decide) (by decide) _ l0 [x] A2 1 c2 (fun k_ => P0_ k_ ∨ w.heap.size ≤ k_) (fun _ => False) rfl rfl ?aO ?aR ?aM (fun _ h => h.elim) ?aF ?aB ?aS H3.out ?_; (case aO => exact Kd.R_mono HO.out (fun _ h => .inl h)); (case aR => exact (HC2.out w (Kept.refl w _)).imp_ (Below.refl _ _) (fun y _ hp => by rw [k59_open hp]; exact fun _ _ _ => k59_mkM _ _ _ y)); (case aM => exact fun _ _ hy => hy _ _ _); (case aF => exact fun _ h => .inr h); (case aB => exact HB.out); (case aS => exact HS.out); intro v1 w1 ho hb hg hat))
  all_goals go_ret
  all_goals exact ⟨_, rfl, by have := ho; simpa [List.take_length, List.drop_length] using this, hb, Kept.of_grown hg (Kept.refl w _) (fun k hk => .inl (HO.out.1 k hk))⟩
 ·have hlt : i < l0.length := by omega
  obtain ⟨g, c, he, hg0, hg1, hg2⟩ := Kd.R_form HO.out (by omega)
  have hcc : c = c0 := by injection he with _ _ h; exact h.symm
  subst hcc
  have hA : A0 = some ⟨g, 0, none⟩ := by injection he
  subst hA
  have HLT := Aside0.mk hlt
  have hb1 : ((i : Int) == (l0.length : Int)) = false := by simp; omega
  obtain ⟨A2v, rfl⟩ : ∃ ad, A2 = some ad := by
   obtain ⟨ad, h, _⟩ := (HC2.out w (Kept.refl w _)).2.2 (by simp)
   exact ⟨ad, h⟩
  obtain ⟨j0, hj0, _, hj1, _⟩ := info_parts info59
  have hel : Try.prog.elem 26 = 59 := by simp [Program.elem, HT]
  have hu : Try.prog.underlying 26 = some (.slice (Try.prog.elem 26)) := by rw [hel]; exact HT
  have cutA : ∀ W : World, (Instr.slice 26 (.slice (some ⟨g, 0, none⟩) l0.length c) (some (.int .i64 (i : Int))) none none).run Try.prog W = .ok (.slice (some ⟨g, i * 3, none⟩) (l0.length - i) (c - i)) W := by
   intro W
   rw [run_slice_l W 26 (some ⟨g, 0, none⟩) l0.length c hu .i64 (i : Int) (by omega) (by omega), hel]
   have e1 : ¬ c = i := by omega
   simp [sizeOf, typeInfo, hj0, hj1, sliced, Result.andThen, e1, add_plain]
  by_cases hroom : l0.length + 1 ≤ c
  ·have cutB : ∀ W : World, (Instr.slice 26 (.slice (some ⟨g, 0, none⟩) l0.length c) none (some (.int .i64 ((l0.length : Int) + 1))) none).run Try.prog W = .ok (.slice (some ⟨g, 0, none⟩) (l0.length + 1) c) W := by
    intro W
    rw [run_slice_h W 26 (some ⟨g, 0, none⟩) l0.length c hu .i64 ((l0.length : Int) + 1) (by omega) (by omega), hel]
    have e2 : ((l0.length : Int) + 1).toNat = l0.length + 1 := by omega
    simp [sizeOf, typeInfo, hj0, hj1, sliced, Result.andThen, e2, add_plain]
   have cutC : ∀ W : World, (Instr.slice 26 (.slice (some ⟨g, 0, none⟩) (l0.length + 1) c) (some (.int .i64 ((i : Int) + 1))) none none).run Try.prog W = .ok (.slice (some ⟨g, (i + 1) * 3, none⟩) (l0.length - i) (c - (i + 1))) W := by
    intro W
    rw [run_slice_l W 26 (some ⟨g, 0, none⟩) (l0.length + 1) c hu .i64 ((i : Int) + 1) (by omega) (by omega), hel]
    have e1 : ¬ c = i + 1 := by omega
    have e2 : ((i : Int) + 1).toNat = i + 1 := by omega
    have e3 : l0.length + 1 - (i + 1) = l0.length - i := by omega
    simp [sizeOf, typeInfo, hj0, hj1, sliced, Result.andThen, e1, e2, add_plain]
   have cutD : ∀ W : World, (Instr.slice 26 (.slice (some ⟨g, 0, none⟩) (l0.length + 1) c) (some (.int .i64 (i : Int))) none none).run Try.prog W = .ok (.slice (some ⟨g, i * 3, none⟩) (l0.length + 1 - i) (c - i)) W := by
    intro W
    rw [run_slice_l W 26 (some ⟨g, 0, none⟩) (l0.length + 1) c hu .i64 (i : Int) (by omega) (by omega), hel]
    have e1 : ¬ c = i := by omega
    simp [sizeOf, typeInfo, hj0, hj1, sliced, Result.andThen, e1, add_plain]
   obtain ⟨gcur, hgcur⟩ : ∃ cur, w.heap[g]? = some (.cells cur 59 (0, 0)) := own_typed HO.out.2.choose_spec.1 g (by simp [Value.ownBlock])
   obtain ⟨adx, hadx, hadg, vc_, vt_, vf_, hvh, hvs⟩ := Kd.C_apart k59 (by decide) (by simp) HC2.out (HO.out.1 g (by simp [Value.ownBlock]))
   obtain rfl : A2v = adx := by injection hadx
   have hov : ∀ ca o lb cb, (callFunc 69 #[.slice (some A2v) 1 ca, .slice (some ⟨g, o, none⟩) lb cb]).run Try.prog w = .ok (.value (.bool false)) w := fun ca o lb cb => by
    rw [run_callFunc_extern Try.func69 (by kernel_rfl) (by kernel_rfl) (by kernel_rfl) (e := Extern.SlicesOverlaps.overlaps #[26, 26] #[4]) (by kernel_rfl),
     run_overlaps_own w 26 4 59 HT 3 (by intro W; simp [sizeOf, typeInfo, hj0, hj1]) A2v ⟨g, o, none⟩ 1 ca lb cb hadg vc_ gcur vt_ 59 vf_ hvh hvs hgcur]
    rfl
   have hz2 : ¬ ((i : Int) = (l0.length : Int)) := by omega
   have hz3 : ¬ ((c : Int) < (l0.length : Int) + 1) := by omega
   have hw1 : IntKind.i64.wrap ((i : Int) + 1) = (i : Int) + 1 := by rw [IntKind.wrap_i64]; have := H3.out; omega
   have hw2 : IntKind.i64.wrap ((l0.length : Int) + 1) = (l0.length : Int) + 1 := by rw [IntKind.wrap_i64]; have := H3.out; omega
   have hbi : (0 : Int) ≤ (i : Int) + 1 := by omega
   have htn : ((i : Int) + 1).toNat = i + 1 := by omega
   have htn2 : ((l0.length : Int) + 1).toNat = l0.length + 1 := by omega
   have hb3 : (i : Int) ≤ (l0.length : Int) + 1 := by omega
   have hb3' : (i : Int) ≤ (l0.length : Int) := by omega
   have HRM := Aside0.mk hroom
   have HGB := Aside0.mk hg0
   clear hroom hlt hg0 hg1 hg2 hj0 hj1 hu hel hadx hadg hvh hvs hgcur cut he
   go_enter Try.func58, Try.ntmps58
   go_wp2_with (simp only [hov])
   obtain ⟨w1, hrun, hu1, hg1⟩ := Kd.R_shift_run (P := Try.prog) k59 (W := w.drew) w0.heap.size 26 26 3 59 HT (by kernel_rfl) (cc1 := c - (i + 1)) (cc2 := c - i) (Kd.R_drew HO.out) HLT.out HRM.out
   have HU1 := Aside0.mk hu1
   have HG1 := Aside0.mk hg1
   have hrun : (Builtin.copy_ #[26, 26] 3 #[.slice (some ⟨g, (i + 1) * 3, none⟩) (l0.length - i) (c - (i + 1)), .slice (some ⟨g, i * 3, none⟩) (l0.length + 1 - i) (c - i)]).run Try.prog w.drew = .ok (goInt ((l0.length - i : Nat) : Int)) w1 := hrun
   clear hu1 hg1
   go_region_law (refine step_copyI rfl _ _ 26 26 rfl _ _ (by simp [Act.eval, Act.put]) (by simp [Act.eval, Act.put]) hrun ?_)
   have hgP : P0_ g := HO.out.1 g (by simp [Value.ownBlock])
   have hk1 : Kept w w1 (fun k_ => P0_ k_) := Kept.of_grown HG1.out (Kept.drew (Kept.refl w _)) (fun k hk => by injection hk with hk; exact .inl (hk ▸ hgP))
   have hC1 := HC2.out w1 hk1
   obtain ⟨adx, hA, hc⟩ := hC1.2.2 (by simp)
   obtain rfl : A2v = adx := by injection hA
   obtain ⟨cs, hcl, hK, hcell⟩ := hc 0 x rfl
   obtain ⟨w2, hrun2, hR2, hg2⟩ := Kd.U_fill_cells (P := Try.prog) k59 (W := w1) w0.heap.size 26 26 3 59 HT (by kernel_rfl) (cc1 := c - i) (cv := c2) HU1.out HLT.out hcl (fun j u hj => by have := hcell j u hj; rwa [Nat.zero_mul, Nat.zero_add] at this) (by rw [k59_open hK]; exact k59_mkM _ _ _ x)
   have HR2 := Aside0.mk hR2
   have HG2 := Aside0.mk hg2
   have hrun2 : (Builtin.copy_ #[26, 26] 3 #[.slice (some ⟨g, i * 3, none⟩) (l0.length + 1 - i) (c - i), .slice (some A2v) 1 c2]).run Try.prog w1 = .ok (goInt ((1 : Nat) : Int)) w2 := hrun2
   clear hR2 hg2 hC1 hA hc hcell hcl hK hk1
   go_wp2_with (at_builtin; refine wpList_copyI _ rfl _ _ 26 26 rfl _ _ rfl rfl hrun2 ?_)
   go_ret
   exact ⟨_, rfl, Kd.R_mono HR2.out (fun _ hk => .inl hk), ((below_drew1 HB.out).grown HG1.out HS.out (fun k hk => by injection hk with hk; exact hk ▸ HGB.out)).grown HG2.out (Nat.le_trans HS.out HG1.out.size) (fun k hk => by injection hk with hk; exact hk ▸ HGB.out), Kept.of_grown HG2.out (Kept.of_grown HG1.out (Kept.drew (Kept.refl w _)) (fun k hk => by injection hk with hk; exact .inl (hk ▸ hgP))) (fun k hk => by injection hk with hk; exact .inl (hk ▸ hgP))⟩
  ·have cutE : ∀ W : World, (Instr.slice 26 (.slice (some ⟨g, 0, none⟩) l0.length c) none (some (.int .i64 (i : Int))) none).run Try.prog W = .ok (.slice (some ⟨g, 0, none⟩) i c) W := by
    intro W
    rw [run_slice_h W 26 (some ⟨g, 0, none⟩) l0.length c hu .i64 (i : Int) (by omega) (by omega), hel]
    simp [sizeOf, typeInfo, hj0, hj1, sliced, Result.andThen, add_plain]
   have cutF : ∀ (W : World) (b G : Nat), l0.length + 1 ≤ G → (Instr.slice 26 (.slice (some ⟨b, 0, none⟩) (l0.length + 1) G) (some (.int .i64 (i : Int))) none none).run Try.prog W = .ok (.slice (some ⟨b, i * 3, none⟩) (l0.length + 1 - i) (G - i)) W := by
    intro W b G hG
    rw [run_slice_l W 26 (some ⟨b, 0, none⟩) (l0.length + 1) G hu .i64 (i : Int) (by omega) (by omega), hel]
    have e1 : ¬ G = i := by omega
    simp [sizeOf, typeInfo, hj0, hj1, sliced, Result.andThen, e1, add_plain]
   have cutH : ∀ (W : World) (b G : Nat), l0.length + 1 ≤ G → (Instr.slice 26 (.slice (some ⟨b, 0, none⟩) (l0.length + 1) G) (some (.int .i64 ((i : Int) + 1))) none none).run Try.prog W = .ok (.slice (some ⟨b, (i + 1) * 3, none⟩) (l0.length - i) (G - (i + 1))) W := by
    intro W b G hG
    rw [run_slice_l W 26 (some ⟨b, 0, none⟩) (l0.length + 1) G hu .i64 ((i : Int) + 1) (by omega) (by omega), hel]
    have e1 : ¬ G = i + 1 := by omega
    have e2 : ((i : Int) + 1).toNat = i + 1 := by omega
    have e3 : l0.length + 1 - (i + 1) = l0.length - i := by omega
    simp [sizeOf, typeInfo, hj0, hj1, sliced, Result.andThen, e1, e2, add_plain]
   have hz2 : ¬ ((i : Int) = (l0.length : Int)) := by omega
   have hz3 : (c : Int) < (l0.length : Int) + 1 := by omega
   have hw1 : IntKind.i64.wrap ((i : Int) + 1) = (i : Int) + 1 := by rw [IntKind.wrap_i64]; have := H3.out; omega
   have hw2 : IntKind.i64.wrap ((l0.length : Int) + 1) = (l0.length : Int) + 1 := by rw [IntKind.wrap_i64]; have := H3.out; omega
   have hkk : (l0.length : Int) + 1 - (i : Int) = ((l0.length + 1 - i : Nat) : Int) := by omega
   have hw3 : IntKind.i64.wrap ((l0.length : Int) + 1 - (i : Int)) = ((l0.length + 1 - i : Nat) : Int) := by rw [IntKind.wrap_i64, hkk]; have := H3.out; omega
   obtain ⟨w1, G, hrun, hG, hT1, hb1'⟩ := Kd.T_grow_run (P := Try.prog) k59 (W := w) w0.heap.size 26 3 26 59 j0 (.agg #[(.string ⟨#[]⟩), (.int .i64 0), (.string ⟨#[]⟩)]) .i64 .i64 HT (by kernel_rfl) hj0 (by assumption) (by rw [hj1]; rfl) rfl (by decide) (by omega) HO.out (k := i) (by omega) (by omega) (by have := H3.out; simp_all) HS.out
   have hgP : P0_ g := HO.out.1 g (by simp [Value.ownBlock])
   have htl : (l0.take i).length = i := by rw [List.length_take]; omega
   obtain ⟨w2, hrun2, hT2, hg2⟩ : ∃ w2, (Builtin.copy_ #[26, 26] 3 #[.slice (some ⟨w.heap.size, i * 3, none⟩) (l0.length + 1 - i) (G - i), .slice (some A2v) 1 c2]).run Try.prog w1 = .ok (goInt ((1 : Nat) : Int)) w2 ∧ Kd.T k59 59 w2 w0.heap.size (fun k' => P0_ k' ∨ w.heap.size ≤ k') w.heap.size G (l0.take i ++ [x]) ∧ w1.grownBy w2 (some w.heap.size) := by
    obtain ⟨adx, hA, hc⟩ := (HC2.out w1 (Kept.of_below hb1' _)).2.2 (by simp)
    obtain rfl : A2v = adx := by injection hA
    obtain ⟨cs, hcl, hK, hcell⟩ := hc 0 x rfl
    have h := Kd.T_extend_cells (P := Try.prog) k59 (W := w1) w0.heap.size 26 26 3 59 HT (by kernel_rfl) (dLen := l0.length + 1 - i) (cc1 := G - i) (cv := c2) hT1 (by omega) (by rw [htl]; omega) hcl (fun j u hj => by have := hcell j u hj; rwa [Nat.zero_mul, Nat.zero_add] at this) (by rw [k59_open hK]; exact k59_mkM _ _ _ x)
    rw [htl] at h
    exact h
   have htl2 : (l0.take i ++ [x]).length = i + 1 := by rw [List.length_append, htl]; rfl
   obtain ⟨w3, hrun3, hT3, hg3⟩ : ∃ w3, (Builtin.copy_ #[26, 26] 3 #[.slice (some ⟨w.heap.size, (i + 1) * 3, none⟩) (l0.length - i) (G - (i + 1)), .slice (some ⟨g, i * 3, none⟩) (l0.length - i) (c - i)]).run Try.prog w2.drew = .ok (goInt ((l0.length - i : Nat) : Int)) w3 ∧ Kd.T k59 59 w3 w0.heap.size (fun k' => P0_ k' ∨ w.heap.size ≤ k') w.heap.size G (l0.take i ++ [x] ++ l0.drop i) ∧ w2.drew.grownBy w3 (some w.heap.size) := by
    have hS : Kd.R k59 59 w2.drew w0.heap.size _ (.slice (some ⟨g, 0, none⟩) l0.length c) l0 := Kd.R_drew (Kd.R_grown (Kd.R_below (Kd.R_bound HO.out) hb1') hg2 (fun k hk he => by injection he with he; have := hk.2.2.1; omega))
    have hT2' : Kd.T k59 59 w2.drew w0.heap.size (fun k' => P0_ k' ∨ w.heap.size ≤ k') w.heap.size G (l0.take i ++ [x]) := Kd.T_drew hT2
    have h := Kd.T_extend_run (P := Try.prog) k59 (W := w2.drew) w0.heap.size 26 26 3 59 HT (by kernel_rfl) (dLen := l0.length - i) (cc1 := G - (i + 1)) (cc2 := c - i) (j := i) (m := l0.length - i) hT2' hS (by omega) (by omega) (by rw [htl2]; omega) (fun p q hp => k59.M_mono (fun k hk => ⟨.inl hk.1.1, by intro he; injection he with he; have := hk.1.2.2.1; omega⟩) hp)
    rw [htl2] at h
    exact h
   have hT3' := Kd.T_done _ hT3
   have htl3 : (l0.take i ++ [x] ++ l0.drop i).length = l0.length + 1 := by rw [List.length_append, htl2, List.length_drop]; omega
   rw [htl3] at hT3'
   have HT3 := Aside0.mk hT3'
   have HG2 := Aside0.mk hg2
   have HG3 := Aside0.mk hg3
   have HB1 := Aside0.mk hb1'
   have cutF1 : ∀ (W : World), (Instr.slice 26 (.slice (some ⟨w.heap.size, 0, none⟩) (l0.length + 1) G) (some (.int .i64 (i : Int))) none none).run Try.prog W = .ok (.slice (some ⟨w.heap.size, i * 3, none⟩) (l0.length + 1 - i) (G - i)) W := fun W => cutF W _ G hG
   have cutH1 : ∀ (W : World), (Instr.slice 26 (.slice (some ⟨w.heap.size, 0, none⟩) (l0.length + 1) G) (some (.int .i64 ((i : Int) + 1))) none none).run Try.prog W = .ok (.slice (some ⟨w.heap.size, (i + 1) * 3, none⟩) (l0.length - i) (G - (i + 1))) W := fun W => cutH W _ G hG
   have hb3 : (i : Int) ≤ (l0.length : Int) := by omega
   clear cutF cutH hlt hg0 hg1 hg2 hj0 hj1 hu hel cut he hT1 hT2 hT3 hT3' hg3 hb1' htl htl2 htl3 hG hkk
   go_enter Try.func58, Try.ntmps58
   go_wp2_with (first | (at_builtin; refine Lib.wpList_append_run _ rfl _ _ _ _ rfl _ _ rfl rfl _ _ hrun ?_) | (at_builtin; refine wpList_copyI _ rfl _ _ 26 26 rfl _ _ rfl rfl hrun2 ?_))
   go_region_law (refine step_copyI rfl _ _ 26 26 rfl _ _ (by simp [Act.eval, Act.put]) (by simp [Act.eval, Act.put]) hrun3 ?_)
   go_wp2
   go_ret
   exact ⟨_, rfl, HT3.out, ((below_drew1 ((below_step HB.out HB1.out).grown HG2.out (Nat.le_trans HS.out HB1.out.size) (fun k hk => by injection hk with hk; exact hk ▸ HS.out))).grown HG3.out (Nat.le_trans HS.out (Nat.le_trans HB1.out.size HG2.out.size)) (fun k hk => by injection hk with hk; exact hk ▸ HS.out)), Kept.of_grown HG3.out (Kept.drew (Kept.of_grown HG2.out (Kept.of_below HB1.out _) (fun k hk => by injection hk with hk; exact .inr (hk ▸ Nat.le_refl _)))) (fun k hk => by injection hk with hk; exact .inr (hk ▸ Nat.le_refl _))⟩
def impl_Value_59.f (l0 : List (S59)) (a1 : Int) (a2 : Int) : Option (List (S59)) := if 0 ≤ a1 then (if a1 < (l0.length : Int) then (if a2 = a1 + 1 then (some (l0.eraseIdx (a1 : Int).toNat)) else (none)) else (none)) else (none)
set_option maxHeartbeats 8000000 in
set_option maxRecDepth 100000 in
theorem impl_Value_59.calls (P0_ : Nat → Prop) (u9000_ : Value) (l0 : List (S59)) (a1 : Int) (a2 : Int) (r : List (S59)) (w0 w : World) (hB : Below w0.heap.size w0 w) (ho0 : Kd.R k59 59 w w0.heap.size P0_ u9000_ l0) (h : impl_Value_59.f l0 a1 a2 = some r) :
  Calls Try.prog 59 #[u9000_, .int .i64 a1, .int .i64 a2] w fun e w' => ∃ v0_ : Value, e = .returned (v0_) ∧ Kd.R k59 59 w' w0.heap.size (fun k_ => (P0_ k_ ∨ w.heap.size ≤ k_)) v0_ r ∧ Below w0.heap.size w0 w' ∧ Kept w w' (fun k_ => P0_ k_) := by
 obtain ⟨h0, h1, h2, rfl⟩ : 0 ≤ a1 ∧ a1 < (l0.length : Int) ∧ a2 = a1 + 1 ∧ l0.eraseIdx a1.toNat = r := by
  unfold impl_Value_59.f at h
  split at h
  ·split at h
   ·split at h
    ·exact ⟨by assumption, by assumption, by assumption, Option.some.inj h⟩
    ·cases h
   ·cases h
  ·cases h
 clear h
 obtain ⟨g, c, rfl, hg0, hg1, hg2⟩ := Kd.R_form ho0 (by omega)
 obtain ⟨_, hnc, _⟩ := Kd.R_reads' ho0
 have hgP : P0_ g := ho0.1 g (by simp [Value.ownBlock])
 obtain ⟨i, rfl⟩ : ∃ i : Nat, a1 = (i : Int) := ⟨a1.toNat, by omega⟩
 have hi : i < l0.length := by omega
 have HT := Try.underlying26
 obtain ⟨i0, hi0, hz0, hz1, hz2⟩ := info_parts info59
 have cut3 : ∀ W : World, (Instr.slice 26 (.slice (some ⟨g, 0, none⟩) l0.length c) (some (.int .i64 (i : Int))) (some (.int .i64 a2)) (some (.int .i64 (l0.length : Int)))).run Try.prog W = .ok (.slice (if l0.length = i then some ⟨g, 0, none⟩ else (some (⟨g, 0, none⟩ : Addr)).map (·.add (i * 3))) (a2.toNat - i) (l0.length - i)) W := by
  intro W
  have hel : Try.prog.elem 26 = 59 := by simp [Program.elem, HT]
  have hu : Try.prog.underlying 26 = some (.slice (Try.prog.elem 26)) := by rw [hel]; exact HT
  rw [run_slice_lhm W 26 (some ⟨g, 0, none⟩) l0.length c hu .i64 .i64 .i64 (i : Int) a2 (l0.length : Int) (by omega) (by omega) (by omega) (by omega), hel]
  simp [sizeOf, typeInfo, hi0, hz1, sliced, Result.andThen]
 have cut1 := cut_to (P := Try.prog) 26 59 .i64 HT hi0 (some ⟨g, 0, none⟩) l0.length c (i : Int) (by omega) (by omega) hnc
 have cut2 := cut_from (P := Try.prog) 26 59 .i64 HT hi0 3 hz1 (some ⟨g, 0, none⟩) l0.length c a2 (by omega) (by omega)
 have ei : ((i : Int)).toNat = i := rfl
 have e2 : a2.toNat = i + 1 := by omega
 rw [ei] at cut1 ⊢
 rw [e2] at cut2 cut3
 obtain ⟨A3, hA3⟩ : ∃ A3, A3 = (if l0.length = i then some ⟨g, 0, none⟩ else (some (⟨g, 0, none⟩ : Addr)).map (·.add (i * 3))) := ⟨_, rfl⟩
 obtain ⟨A2, hA2⟩ : ∃ A2, A2 = (if c = i + 1 then some ⟨g, 0, none⟩ else (some (⟨g, 0, none⟩ : Addr)).map (·.add ((i + 1) * 3))) := ⟨_, rfl⟩
 rw [← hA3] at cut3
 rw [← hA2] at cut2
 have HA2 := Aside0.mk hA2
 clear hA3 hA2
 have hne : ((i : Int) == a2) = false := by simp; omega
 have HL := Aside0.mk (show (l0.eraseIdx i).length = l0.length - 1 by rw [List.length_eraseIdx_of_lt hi])
 have cut4 : ∀ W : World, (Instr.slice 26 (.slice (some ⟨g, 0, none⟩) (l0.length - 1) c) (some (.int .i64 ((l0.length - 1 : Nat) : Int))) (some (.int .i64 (l0.length : Int))) none).run Try.prog W = .ok (.slice (some ⟨g, (l0.length - 1) * 3, none⟩) 1 (c - (l0.length - 1))) W := by
  intro W
  have hel : Try.prog.elem 26 = 59 := by simp [Program.elem, HT]
  have hu : Try.prog.underlying 26 = some (.slice (Try.prog.elem 26)) := by rw [hel]; exact HT
  rw [run_slice_lh W 26 (some ⟨g, 0, none⟩) (l0.length - 1) c hu .i64 .i64 ((l0.length - 1 : Nat) : Int) (l0.length : Int) (by omega) (by omega) (by omega), hel]
  have e1 : ¬ c = l0.length - 1 := by omega
  have e2 : l0.length - (l0.length - 1) = 1 := by omega
  simp [sizeOf, typeInfo, hi0, hz1, sliced, Result.andThen, e1, e2, add_plain]
 have HI := Aside0.mk hi
 have HC := Aside0.mk hnc
 have HO := Aside0.mk ho0
 have HB := Aside0.mk hB
 have HS := Aside0.mk hB.size
 have HG := Aside0.mk hgP
 have HGB := Aside0.mk hg0
 clear hi hnc ho0 hB hgP hg0 hg1 hg2 h1 h0 h2 ei e2 hi0 hz0 hz1 hz2
 go_enter Try.func59, Try.ntmps59
 go_wp2_with fail
 go_region_law ((refine Kd.R_delete_step k59 (w0 := w0) w0.heap.size ?hw (.tmp 22) (.tmp 25) 26 59 ?ho Try.underlying26 ?hi (g := g) (n := l0.length) (c := c) (k := i) (m := l0.length - (i + 1)) (c2 := c - (i + 1)) (A := A2) (xs := l0) (ok := P0_) ?hs ?hx HA2.out ?hm ?hR HI.out ?hB ?hb ?_); (case hw => simp [Region.wanted]); (case ho => rfl); (case hi => kernel_rfl); (case hs => simp [Act.eval, Act.put]); (case hx => simp [Act.eval, Act.put]); (case hm => rfl); (case hR => (with_reducible repeat (first | apply Kd.R_alloc | apply Kd.R_drewN | apply Kd.R_drew)); exact HO.out); (case hB => repeat (first | (with_reducible first | exact HB.out | apply below_alloc | apply pw_below_drewN | apply below_drew1) | exact HB.out)); (case hb => exact HS.out); intro w1 ho hb hg)
 have HO1 := Aside0.mk ho
 have HB1 := Aside0.mk hb
 have HG1 := Aside0.mk hg
 clear ho hb hg
 obtain ⟨j0, hj0, hy0, _, _⟩ := info_parts info59
 obtain ⟨w2, hrun, ho2, hg2⟩ := Kd.R_clear_run (P := Try.prog) k59 w0.heap.size 26 0 59 j0 (.agg #[(.string ⟨#[]⟩), (.int .i64 0), (.string ⟨#[]⟩)]) Try.underlying26 hj0 hy0 rfl (by simp [Value.cells, Value.oneCell']) (m := 1) (cc := c - (l0.length - 1)) HO1.out (by omega) (by have := HI.out; have := HC.out; omega)
 have HO2 := Aside0.mk ho2
 have HG2 := Aside0.mk hg2
 have hrun' : (Builtin.clear_ #[26] 0 #[.slice (some ⟨g, (l0.length - 1) * 3, none⟩) 1 (c - (l0.length - 1))]).run Try.prog w1 = .ok (.tuple #[]) w2 := hrun
 clear ho2 hg2 hj0 hy0 hrun
 go_wp2
 go_ret
 exact ⟨_, rfl, Kd.R_mono HO2.out (fun _ hk => .inl hk), HB1.out.grown HG2.out (Nat.le_trans HS.out HG1.out.size) (fun k hk => by injection hk with hk; exact hk ▸ HGB.out), Kept.of_grown HG2.out (Kept.of_grown HG1.out (Kept.drew (Kept.refl w _)) (fun k hk => by injection hk with hk; exact .inl (hk ▸ HG.out))) (fun k hk => by injection hk with hk; exact .inl (hk ▸ HG.out))⟩
def impl_size.f (a0 : Int) : Option (Int) := some (mx a0 (wrap64 (-a0)))
set_option maxHeartbeats 8000000 in
set_option maxRecDepth 100000 in
theorem impl_size.calls (a0 : Int) (r : Int) (w : World) (h : impl_size.f a0 = some r) :
  Calls Try.prog 71 #[.int .i64 a0] w fun e w' => e = .returned (.int .i64 r) ∧ Below w.heap.size w w' := by
 have HB := Aside0.mk (Below.refl w.heap.size w)
 have H : (some (mx a0 (wrap64 (-a0)))) = some r := h
 clear h
 obtain ⟨ji2, hji2⟩ : ∃ j_ : Int, (mx a0 (wrap64 (-a0))) = j_ := ⟨_, rfl⟩
 replace H : (some ji2) = some r := by first | (rw [hji2] at H; exact H) | (simp only [hji2] at H ⊢; exact H)
 have hji2_ : (if a0 < (wrap64 (-a0)) then (wrap64 (-a0)) else a0) = ji2 := hji2
 obtain rfl := Option.some.inj H
 go_enter Try.func71, Try.ntmps71
 go_wp2
 go_ret
 exact ⟨by first | rfl | (simp [errW_none, errW_some] <;> rfl) | (simp only [← hji2]; first | rfl | (simp [errW_none, errW_some] <;> rfl)) | (simp [*, errW_none, errW_some] <;> rfl), lU⟩
end Go.Proofs.Ytdgaphefgpjbfaa.PFnExactMigrateSave
