/- Texts of the row of the law FnExactPatchOf, laid together. -/
import Derived.Test.YtcpodjegdpbalaaZFnExactPatchOf3
import Derived.Test.YtcpodjegdpbalaaZFnExactPatchOf0
import Derived.SizedLaws
import Derived.ChangeArms
import Derived.OpenShut
import Derived.WideShapes
import Derived.WalkKit
import Derived.KernelRfl
import Derived.Laws.BitsLemmas
namespace Go.Proofs.Ytcpodjegdpbalaa.PFnExactPatchOf
open Go.RowKit Go.Proofs.YtcpodjegdpbalaaW.PrintWords Go.Proofs.YtcpodjegdpbalaaW.PrintLast Go.Proofs.YtcpodjegdpbalaaW.PrintMore
attribute [local go_sem] max2_int min2_int max_two min_two max_three min_three max_four min_four   -- for this text's walks alone
set_option linter.unusedVariables false
set_option linter.unusedSimpArgs false
def laws_markChunkS.l0 : Nat → List (S62) → Int → Int → Option (Int × (List (S62)))
 | 0, _, _, _ => none
 | k + 1, x0, x1, x5 => if x5 < (x0.length : Int) then (if 0 ≤ x5 then ((some (x0.set (x5 : Int).toNat (⟨x1, (rd_T62 x0 x5).f1, (rd_T62 x0 x5).f2⟩ : S62) : List (S62))).bind fun y183 => ((some (y183.set (x5 : Int).toNat (⟨(rd_T62 y183 x5).f0, wrap64 (x1 + 1), (rd_T62 y183 x5).f2⟩ : S62) : List (S62))).bind fun y184 => ((laws_markByteS.f k ((rd_T62 y184 x5).f2) (wrap64 ((wrap64 (x1 + 1)) + 1))).bind fun bt186 => (laws_markChunkS.l0 k (y184.set (x5 : Int).toNat (⟨(rd_T62 y184 x5).f0, (rd_T62 y184 x5).f1, bt186.2⟩ : S62)) bt186.1 (wrap64 (x5 + 1)))))) else (none)) else (some (x1, x0))
def laws_markChunkS.f (k : Nat) (l0 : List (S62)) (a1 : Int) : Option (Int × (List (S62))) := laws_markChunkS.l0 k l0 a1 0
theorem laws_markChunkS.mono_l : ∀ k, (∀ y0 y1 y2, LeO (laws_markChunkS.l0 k y0 y1 y2) (laws_markChunkS.l0 (k + 1) y0 y1 y2))
 | 0 => fun _ _ _ r h => by simp [laws_markChunkS.l0] at h
 | k + 1 => by
  have ih0 := laws_markChunkS.mono_l k
  ·intro y0 y1 y2
   unfold laws_markChunkS.l0
   repeat' first
   | (with_reducible exact ih0 _ _ _)
   | (with_reducible exact laws_markByteS.mono _ _ _)
   | (with_reducible exact LeO.refl _)
   | (with_reducible exact LeO.none _)
   | (with_reducible refine LeO.ite ?_ ?_)
   | (with_reducible refine LeO.bind ?_ (fun _ => ?_))
   | exact ih0 _ _ _
   | exact laws_markByteS.mono _ _ _
   | exact LeO.none _
   | refine LeO.ite ?_ ?_
   | refine LeO.bind ?_ (fun _ => ?_)
theorem laws_markChunkS.mono : ∀ a0 a1 k, LeO (laws_markChunkS.f k a0 a1) (laws_markChunkS.f (k + 1) a0 a1) := by
 intro a0 a1 k
 have ih0 := laws_markChunkS.mono_l k
 unfold laws_markChunkS.f
 repeat' first
   | (with_reducible exact ih0 _ _ _)
   | (with_reducible exact laws_markByteS.mono _ _ _)
   | (with_reducible exact LeO.refl _)
   | (with_reducible exact LeO.none _)
   | (with_reducible refine LeO.ite ?_ ?_)
   | (with_reducible refine LeO.bind ?_ (fun _ => ?_))
   | exact ih0 _ _ _
   | exact laws_markByteS.mono _ _ _
   | exact LeO.none _
   | refine LeO.ite ?_ ?_
   | refine LeO.bind ?_ (fun _ => ?_)
set_option maxHeartbeats 8000000 in
set_option maxRecDepth 100000 in
theorem laws_markChunkS.calls (k : Nat) (P0_ : Nat → Prop) (u9000_ : Value) (l0 : List (S62)) (a1 : Int) (r1 : Int) (r2 : List (S62)) (w0 w : World) (hB : Below w0.heap.size w0 w) (ho0 : Kd.S k62 62 w w0.heap.size P0_ u9000_ l0) (h : laws_markChunkS.f k l0 a1 = some (r1, r2)) :
  Calls Try.prog 12 #[u9000_, .int .i64 a1] w fun e w' => e = .returned (.int .i64 r1) ∧ Kd.S k62 62 w' w0.heap.size (fun k_ => (P0_ k_ ∨ w.heap.size ≤ k_)) u9000_ r2 ∧ Below w0.heap.size w0 w' ∧ Kept w w' (fun k_ => P0_ k_) := by
 have HO0 := Aside0.mk (show Kd.S k62 62 w w0.heap.size (fun k_ => (P0_ k_ ∨ w.heap.size ≤ k_)) u9000_ l0 from Kd.S_mono ho0 (fun k_ hk => (.inl hk)))
 have HK := Aside0.mk (Kept.refl w (fun k_ => P0_ k_))
 have HW0 := Aside0.mk hB.size
 have HB := Aside0.mk hB
 clear hB
 have H : (laws_markChunkS.l0 k l0 a1 0) = some (r1, r2) := h
 clear h
 have H' := Aside0.mk H
 clear H
 go_enter Try.func12, Try.ntmps12
 go_wp2
 go_loopg [1, 5] k (fun kq v1 v5 w' => ∃ (x0_1 : List (S62)) (x1_1 : Int) (x5_1 : Int), v1 = .int .i64 x1_1 ∧ v5 = .int .i64 x5_1 ∧ Aside0 (laws_markChunkS.l0 kq x0_1 x1_1 x5_1 = some (r1, r2)) ∧ Aside0 (kq ≤ k) ∧ Aside0 (Kd.S k62 62 w' w0.heap.size (fun k_ => (P0_ k_ ∨ w.heap.size ≤ k_)) u9000_ x0_1) ∧ Aside0 (Kept w w' (fun k_ => P0_ k_)) ∧ Aside0 (Below w0.heap.size w0 w'))
 case atStart => exact ⟨(l0), (a1), (0), tE, tE, H', ⟨Nat.le_refl _⟩, ⟨by (with_reducible repeat (first | apply Kd.S_alloc | apply Kd.S_drewN | apply Kd.S_drew)); exact HO0.out⟩, ⟨by repeat (first | (with_reducible first | exact HK.out | apply Kept.alloc | apply Kept.drewN | apply Kept.drew) | exact HK.out)⟩, ⟨by repeat (first | (with_reducible first | exact HB.out | apply below_alloc | apply pw_below_drewN | apply below_drew1) | exact HB.out)⟩⟩
 case round =>
  clear H'
  try clear c1
  try clear p2
  obtain ⟨x0_1, x1_1, x5_1, rfl, rfl, HA, HK1, HO_0, HK, HB⟩ := hrel
  cases gk with
  | zero => exact absurd HA.out (by simp [laws_markChunkS.l0])
  | succ k1 =>
   have H := HA.out
   clear HA
   simp only [laws_markChunkS.l0] at H
   by_cases c3 : x5_1 < (x0_1.length : Int)
   ·rw [if_pos c3] at H
    have c3b0 : decide (x5_1 < (x0_1.length : Int)) = true := decide_eq_true c3
    clear c3
    by_cases c4 : 0 ≤ x5_1
    ·rw [if_pos c4] at H
     have c4b0 : decide (0 ≤ x5_1) = true := decide_eq_true c4
     clear c4
     obtain ⟨y183, hy183⟩ : ∃ y_ : List (S62), y_ = (x0_1.set (x5_1 : Int).toNat (⟨x1_1, (rd_T62 x0_1 x5_1).f1, (rd_T62 x0_1 x5_1).f2⟩ : S62)) := ⟨_, rfl⟩
     replace H : ((some (y183.set (x5_1 : Int).toNat (⟨(rd_T62 y183 x5_1).f0, wrap64 (x1_1 + 1), (rd_T62 y183 x5_1).f2⟩ : S62) : List (S62))).bind fun y184 => ((laws_markByteS.f k1 ((rd_T62 y184 x5_1).f2) (wrap64 ((wrap64 (x1_1 + 1)) + 1))).bind fun bt186 => (laws_markChunkS.l0 k1 (y184.set (x5_1 : Int).toNat (⟨(rd_T62 y184 x5_1).f0, (rd_T62 y184 x5_1).f1, bt186.2⟩ : S62)) bt186.1 (wrap64 (x5_1 + 1))))) = some (r1, r2) := by first | (rw [hy183]; with_reducible exact H) | (have H2_ := (Option.bind_some _ _).symm.trans H; rw [hy183]; with_reducible exact H2_) | (have H2_ := (Option.bind_some _ _).symm.trans H; with_reducible exact H2_) | with_reducible exact H | (rw [hy183]; exact H) | exact H
     have Ny183 := Aside0.mk hy183
     clear hy183
     obtain ⟨y184, hy184⟩ : ∃ y_ : List (S62), y_ = (y183.set (x5_1 : Int).toNat (⟨(rd_T62 y183 x5_1).f0, wrap64 (x1_1 + 1), (rd_T62 y183 x5_1).f2⟩ : S62)) := ⟨_, rfl⟩
     replace H : ((laws_markByteS.f k1 ((rd_T62 y184 x5_1).f2) (wrap64 ((wrap64 (x1_1 + 1)) + 1))).bind fun bt186 => (laws_markChunkS.l0 k1 (y184.set (x5_1 : Int).toNat (⟨(rd_T62 y184 x5_1).f0, (rd_T62 y184 x5_1).f1, bt186.2⟩ : S62)) bt186.1 (wrap64 (x5_1 + 1)))) = some (r1, r2) := by first | (rw [hy184]; with_reducible exact H) | (have H2_ := (Option.bind_some _ _).symm.trans H; rw [hy184]; with_reducible exact H2_) | (have H2_ := (Option.bind_some _ _).symm.trans H; with_reducible exact H2_) | with_reducible exact H | (rw [hy184]; exact H) | exact H
     have Ny184 := Aside0.mk hy184
     clear hy184
     replace H := Option.bind_eq_some_iff.mp H
     obtain ⟨⟨t186, t187⟩, A70, H⟩ := H
     replace H : (laws_markChunkS.l0 k1 (y184.set (x5_1 : Int).toNat (⟨(rd_T62 y184 x5_1).f0, (rd_T62 y184 x5_1).f1, t187⟩ : S62)) t186 (wrap64 (x5_1 + 1))) = some (r1, r2) := H
     have A7 := Aside0.mk A70
     clear A70
     obtain ⟨y188, hy188⟩ : ∃ y_ : List (S62), y_ = (y184.set (x5_1 : Int).toNat (⟨(rd_T62 y184 x5_1).f0, (rd_T62 y184 x5_1).f1, t187⟩ : S62)) := ⟨_, rfl⟩
     replace H : (laws_markChunkS.l0 k1 y188 t186 (wrap64 (x5_1 + 1))) = some (r1, r2) := by first | (rw [hy188]; with_reducible exact H) | (have H2_ := (Option.bind_some _ _).symm.trans H; rw [hy188]; with_reducible exact H2_) | (have H2_ := (Option.bind_some _ _).symm.trans H; with_reducible exact H2_) | with_reducible exact H | (rw [hy188]; exact H) | exact H
     have Ny188 := Aside0.mk hy188
     clear hy188
     have H' := Aside0.mk H
     clear H
     obtain ⟨Ao8, co8, eo8⟩ := Kd.S_slice HO_0.out
     subst eo8
     have p5 : 0 ≤ (x5_1 : Int) := of_decide_eq_true hE
     have q5 : (x5_1 : Int) < ((x0_1.length : Int) : Int) := of_decide_eq_true hE
     obtain ⟨go5, co5, eo5, gb5, gl5, cl5, HG5⟩ := Kd.S_form HO_0.out (by omega)
     (first | cases eo5 | (injection eo5 with ea_ en_ ec_; (first | subst ea_ | (injection ea_ with ea_; subst ea_)); subst ec_; clear en_))
     have GB5 := Aside0.mk gb5
     have GG5 := Aside0.mk HG5
     clear gb5 gl5 HG5
     have HMgo5 := Aside0.mk (show (P0_ go5 ∨ w.heap.size ≤ go5) from ((Kd.S_R HO_0.out).1 _ rfl))
     obtain ⟨_, ce5, hcl5, hM5, hcc5, hfr5, _, _⟩ := Kd.S_elem HO_0.out z62 (x5_1 : Int) p5 q5
     obtain ⟨ve5_2, rfl, ge5_2⟩ := k62_openM hM5
     have hx5_0 : wr.cell? ⟨go5, (x5_1 : Int).toNat * 3, none⟩ = some (.int .i64 ((rd_T62 x0_1 x5_1).f0)) := hcc5 0 _ rfl
     have hx5_1 : wr.cell? ⟨go5, (x5_1 : Int).toNat * 3 + 1, none⟩ = some (.int .i64 ((rd_T62 x0_1 x5_1).f1)) := hcc5 1 _ rfl
     have hx5_2 : wr.cell? ⟨go5, (x5_1 : Int).toNat * 3 + 2, none⟩ = some (ve5_2) := hcc5 2 _ rfl
     have hf5_0 : wr.frozen? ⟨go5, (x5_1 : Int).toNat * 3, none⟩ = false := hfr5 0
     have hf5_1 : wr.frozen? ⟨go5, (x5_1 : Int).toNat * 3 + 1, none⟩ = false := hfr5 1
     have hf5_2 : wr.frozen? ⟨go5, (x5_1 : Int).toNat * 3 + 2, none⟩ = false := hfr5 2
     (try clear hcl5)
     (try clear hcc5)
     (try clear hfr5)
     (try clear hM5)
     replace p5 := eq_true p5
     replace q5 := eq_true q5
     have HX9 := Aside0.mk (show Kd.S k62 62 wr w0.heap.size (fun k_ => ((fun k_ => (P0_ k_ ∨ w.heap.size ≤ k_))) k_ ∧ ¬ ((fun _ => False)) k_) (.slice (some ⟨go5, 0, none⟩) x0_1.length co8) x0_1 from (by (with_reducible repeat (first | apply Kd.S_alloc | apply Kd.S_drewN | apply Kd.S_drew)); exact Kd.S_mono HO_0.out (fun k_ hk => ⟨hk, fun e_ => e_⟩)))
     obtain ⟨oki9, ce9, hcl9, hM9, hcc9, hfr9, hoki9, hH9⟩ := Kd.S_elem HX9.out z62 (x5_1 : Int) (of_decide_eq_true hE) (by have h_ : (x5_1 : Int) < ((x0_1.length : Int) : Int) := of_decide_eq_true hE; first | exact h_ | (have e_ := (Kd.S_reads' HO_0.out).1; omega) | simpa using h_)
     obtain ⟨ve9_2, rfl, ge9_2⟩ := k62_openM hM9
     have HP9 := Kd.S_seg hH9 (of_decide_eq_true hE) (by have h_ : (x5_1 : Int) < ((x0_1.length : Int) : Int) := of_decide_eq_true hE; first | exact h_ | (have e_ := (Kd.S_reads' HO_0.out).1; omega) | simpa using h_) (seg := [.int .i64 x1_1]) (j := 0) (show 1 ≤ 3 from by decide) (x' := (⟨x1_1, (rd_T62 x0_1 x5_1).f1, (rd_T62 x0_1 x5_1).f2⟩ : S62)) (k62_mkM _ _ _ (⟨x1_1, (rd_T62 x0_1 x5_1).f1, (rd_T62 x0_1 x5_1).f2⟩ : S62) (Kd.R_mono ge9_2 (fun _ h_ => Or.inl h_))) (fun _ hk => hk) (fun k_ hk_ => hk_.elim)
     have hx9_0 := hcc9 0 _ rfl
     (try simp only [show (k62).sz = 3 from rfl, Nat.mul_one, Nat.add_zero] at hx9_0)
     have hf9_0 := hfr9 0
     (try simp only [show (k62).sz = 3 from rfl, Nat.mul_one, Nat.add_zero] at hf9_0)
     (try clear hcl9)
     (try clear hcc9)
     (try clear hfr9)
     (try clear hM9)
     (try clear hoki9)
     (try clear hH9)
     go_wp2_with (first | ((with_reducible refine gate_store (t := 3) (p := 16) rfl ?_); refine store_event (t := 3) (p := 16) (v := ?vo_w10) (w1 := (wr.setCell ⟨go5, (x5_1 : Int).toNat * 3, none⟩ (.int .i64 x1_1))) ?hg ?ho ?hn ?hr ?_; (case ho => rfl); (case hg => rfl); (case hn => rfl); (case hr => exact sE); intro w10 hw; have hg : wr.grownBy w10 (some go5) := (by rw [hw]; exact HP9.2); have hp_ : Kd.S k62 62 w10 w0.heap.size (fun k_ => (P0_ k_ ∨ w.heap.size ≤ k_)) (.slice (some ⟨go5, 0, none⟩) x0_1.length co8) y183 := (by rw [hw, Ny183.out]; exact HP9.1); clear HP9; replace HB := Aside0.mk ((by rw [hw]; exact below_set (HB.out) GB5.out : Below w0.heap.size w0 w10)); replace HK := Aside0.mk (Kept.of_grown (S := (fun k_ => P0_ k_)) hg (by repeat (first | (with_reducible first | exact HK.out | apply Kept.alloc | apply Kept.drewN | apply Kept.drew) | exact HK.out)) (fun k_ e_ => ((Kd.S_R HO_0.out).1 k_ e_))); replace HO_0 := Aside0.mk hp_; clear hg hw hp_; have p6 : 0 ≤ (x5_1 : Int) := of_decide_eq_true hE; have q6 : (x5_1 : Int) < ((x0_1.length : Int) : Int) := of_decide_eq_true hE; obtain ⟨_, ce6, hcl6, hM6, hcc6, hfr6, _, _⟩ := Kd.S_elem HO_0.out z62 (x5_1 : Int) p6 q6; obtain ⟨ve6_2, rfl, ge6_2⟩ := k62_openM hM6; have hx6_0 : w10.cell? ⟨go5, (x5_1 : Int).toNat * 3, none⟩ = some (.int .i64 ((rd_T62 y183 x5_1).f0)) := hcc6 0 _ rfl; have hx6_1 : w10.cell? ⟨go5, (x5_1 : Int).toNat * 3 + 1, none⟩ = some (.int .i64 ((rd_T62 y183 x5_1).f1)) := hcc6 1 _ rfl; have hx6_2 : w10.cell? ⟨go5, (x5_1 : Int).toNat * 3 + 2, none⟩ = some (ve6_2) := hcc6 2 _ rfl; have hf6_0 : w10.frozen? ⟨go5, (x5_1 : Int).toNat * 3, none⟩ = false := hfr6 0; have hf6_1 : w10.frozen? ⟨go5, (x5_1 : Int).toNat * 3 + 1, none⟩ = false := hfr6 1; have hf6_2 : w10.frozen? ⟨go5, (x5_1 : Int).toNat * 3 + 2, none⟩ = false := hfr6 2; (try clear hcl6); (try clear hcc6); (try clear hfr6); (try clear hM6); replace p6 := eq_true p6; replace q6 := eq_true q6; have HX11 := Aside0.mk (show Kd.S k62 62 w10 w0.heap.size (fun k_ => ((fun k_ => (P0_ k_ ∨ w.heap.size ≤ k_))) k_ ∧ ¬ ((fun _ => False)) k_) (.slice (some ⟨go5, 0, none⟩) x0_1.length co8) y183 from (by (with_reducible repeat (first | apply Kd.S_alloc | apply Kd.S_drewN | apply Kd.S_drew)); exact Kd.S_mono HO_0.out (fun k_ hk => ⟨hk, fun e_ => e_⟩))); obtain ⟨oki11, ce11, hcl11, hM11, hcc11, hfr11, hoki11, hH11⟩ := Kd.S_elem HX11.out z62 (x5_1 : Int) (of_decide_eq_true hE) (by have h_ : (x5_1 : Int) < ((x0_1.length : Int) : Int) := of_decide_eq_true hE; first | exact h_ | (have e_ := (Kd.S_reads' HO_0.out).1; omega) | simpa using h_); obtain ⟨ve11_2, rfl, ge11_2⟩ := k62_openM hM11; have HP11 := Kd.S_seg hH11 (of_decide_eq_true hE) (by have h_ : (x5_1 : Int) < ((x0_1.length : Int) : Int) := of_decide_eq_true hE; first | exact h_ | (have e_ := (Kd.S_reads' HO_0.out).1; omega) | simpa using h_) (seg := [.int .i64 (wrap64 (x1_1 + 1))]) (j := 1) (show 2 ≤ 3 from by decide) (x' := (⟨(rd_T62 y183 x5_1).f0, wrap64 (x1_1 + 1), (rd_T62 y183 x5_1).f2⟩ : S62)) (k62_mkM _ _ _ (⟨(rd_T62 y183 x5_1).f0, wrap64 (x1_1 + 1), (rd_T62 y183 x5_1).f2⟩ : S62) (Kd.R_mono ge11_2 (fun _ h_ => Or.inl h_))) (fun _ hk => hk) (fun k_ hk_ => hk_.elim); have hx11_1 := hcc11 1 _ rfl; (try simp only [show (k62).sz = 3 from rfl, Nat.mul_one, Nat.add_zero] at hx11_1); have hf11_1 := hfr11 1; (try simp only [show (k62).sz = 3 from rfl, Nat.mul_one, Nat.add_zero] at hf11_1); (try clear hcl11); (try clear hcc11); (try clear hfr11); (try clear hM11); (try clear hoki11); (try clear hH11)) | ((with_reducible refine gate_store (t := 3) (p := 23) rfl ?_); refine store_event (t := 3) (p := 23) (v := ?vo_w12) (w1 := (w10.setCell ⟨go5, (x5_1 : Int).toNat * 3 + 1, none⟩ (.int .i64 (wrap64 (x1_1 + 1))))) ?hg ?ho ?hn ?hr ?_; (case ho => rfl); (case hg => rfl); (case hn => rfl); (case hr => exact sE); intro w12 hw; have hg : w10.grownBy w12 (some go5) := (by rw [hw]; exact HP11.2); have hp_ : Kd.S k62 62 w12 w0.heap.size (fun k_ => (P0_ k_ ∨ w.heap.size ≤ k_)) (.slice (some ⟨go5, 0, none⟩) x0_1.length co8) y184 := (by rw [hw, Ny184.out]; exact HP11.1); clear HP11; replace HB := Aside0.mk ((by rw [hw]; exact below_set (HB.out) GB5.out : Below w0.heap.size w0 w12)); replace HK := Aside0.mk (Kept.of_grown (S := (fun k_ => P0_ k_)) hg (by repeat (first | (with_reducible first | exact HK.out | apply Kept.alloc | apply Kept.drewN | apply Kept.drew) | exact HK.out)) (fun k_ e_ => ((Kd.S_R HO_0.out).1 k_ e_))); replace HO_0 := Aside0.mk hp_; clear hg hw hp_; have p185 : 0 ≤ (x5_1 : Int) := of_decide_eq_true hE; have q185 : x5_1 < (y184.length : Int) := (by have h_ : (x5_1 : Int) < ((x0_1.length : Int) : Int) := of_decide_eq_true hE; first | (have e_ := (Kd.S_reads' HO_0.out).1; omega) | simpa only [Ny183.out, Ny184.out, List.length_set] using h_); have ql185 : ((x5_1 : Int) < ((x0_1.length : Int) : Int)) = True := eq_true (of_decide_eq_true hE); obtain ⟨ad185, A185_2, c185_2, e185, hx185_0, hx185_1, hx185_2, hl185_2, hi185_2⟩ := at_T62 (Kd.S_reads' HO_0.out).2.2 x5_1 p185 q185; obtain rfl : (⟨go5, 0, none⟩ : Addr) = ad185 := (by injection e185); obtain ⟨ce185, hce185, hMe185, hcc185⟩ := Kd.S_get HO_0.out z62 x5_1 p185 (by first | exact q185 | exact of_decide_eq_true hE | (have e_ := (Kd.S_reads' HO_0.out).1; omega)); obtain ⟨ve185_2, rfl, ge185_2⟩ := k62_openM hMe185; have hv185_2 := hcc185 2 _ rfl; rw [add_field _ _ 2 (by omega)] at hv185_2; replace hv185_2 := Option.some.inj (hv185_2.symm.trans hx185_2); rw [hv185_2] at ge185_2; have HL185_2 := Aside0.mk (show Kd.R (Kd.int .u8) 5 _ _ _ _ ((rd_T62 y184 x5_1).f2) from ge185_2); clear hv185_2 ge185_2; have HX185_2 := Aside0.mk hx185_2; (try clear hcc185); (try clear hce185); (first | simp only [add_plain] at hx185_0 | simp only [add_at] at hx185_0 | simp only [Addr.add, Nat.zero_add] at hx185_0 | skip); (first | simp only [add_plain] at hx185_1 | simp only [add_at] at hx185_1 | simp only [Addr.add, Nat.zero_add] at hx185_1 | skip); (first | simp only [add_plain] at hx185_2 | simp only [add_at] at hx185_2 | simp only [Addr.add, Nat.zero_add] at hx185_2 | skip); have HR185_2 := Aside0.mk hi185_2; have HC185_2 := Aside0.mk hl185_2; clear hi185_2 hl185_2; replace p185 := eq_true p185; replace q185 := eq_true q185; have hq13 : (x5_1 : Int) < (x0_1.length : Int) := (by have h_ : (x5_1 : Int) < ((x0_1.length : Int) : Int) := of_decide_eq_true hE; first | exact h_ | (have e_ := (Kd.S_reads' HO_0.out).1; omega) | simpa only [Ny183.out, Ny184.out, List.length_set] using h_); obtain ⟨oki13, ce13, hcl13, hM13, hcc13, hok13, hbk13⟩ := Kd.S_borrow HO_0.out z62 (x5_1 : Int) (of_decide_eq_true hE) hq13; obtain ⟨ve13_2, rfl, ge13_2⟩ := k62_openM hM13; have hv13 := hcc13 2 _ rfl; rw [add_field _ _ 2 (by omega)] at hv13; replace hv13 := Option.some.inj (hv13.symm.trans HX185_2.out); subst hv13; clear hcc13 hcl13; replace ge13_2 := (show Kd.R (Kd.int .u8) 5 _ _ _ _ ((rd_T62 y184 x5_1).f2) from ge13_2)) | ((with_reducible refine gate_callee (f := 11) rfl ?_); refine goesL_ (some 32) rfl rfl Try.func11 (by kernel_rfl) rfl #[.slice A185_2 ((rd_T62 y184 x5_1).f2).length c185_2, .int .i64 (wrap64 ((wrap64 (x1_1 + 1)) + 1))] rfl aE ?_; (with_reducible refine (laws_markByteS.calls k1 (fun k_ => some k_ = (.slice A185_2 ((rd_T62 y184 x5_1).f2).length c185_2 : Value).ownBlock) (.slice A185_2 ((rd_T62 y184 x5_1).f2).length c185_2) ((rd_T62 y184 x5_1).f2) (wrap64 ((wrap64 (x1_1 + 1)) + 1)) t186 t187 w0 _ ?side1 ?side2 A7.out).mono ?_); (case side1 => repeat (first | (with_reducible first | exact HB.out | apply below_alloc | apply pw_below_drewN | apply below_drew1) | exact HB.out)); (case side2 => exact Kd.R_tight rfl HL185_2.out); rintro e w14 ⟨rfl, hy0, hb, hkp⟩; refine ⟨_, rfl, ?_⟩; have hg_ : w12.grownBy w14 ((.slice A185_2 ((rd_T62 y184 x5_1).f2).length c185_2) : Value).ownBlock := grown_of_kept (lU) hb hkp; have hp_ : Kd.S k62 62 w14 w0.heap.size (fun k_ => (P0_ k_ ∨ w.heap.size ≤ k_)) (.slice (some ⟨go5, 0, none⟩) x0_1.length co8) y188 := (by rw [Ny188.out]; exact hbk13 hg_ (fun k_ e_ => ge13_2.1 k_ e_) (k62_mkM _ _ _ (⟨(rd_T62 y184 x5_1).f0, (rd_T62 y184 x5_1).f1, t187⟩ : S62) (Kd.R_reok rfl hy0 (fun k_ e_ => ge13_2.1 k_ e_)))); replace HO_0 := Aside0.mk hp_; replace HK := Aside0.mk (Kept.then_ (S := (fun k_ => P0_ k_)) (by repeat (first | (with_reducible first | exact HK.out | apply Kept.alloc | apply Kept.drewN | apply Kept.drew) | exact HK.out)) hkp (fun k_ hs_ => (fun e_ => (HL185_2.out.1 k_ e_.symm).1) hs_)); replace HB := Aside0.mk hb; clear HL185_2; (try clear hb); (try clear hkp); (try clear hg_); (try clear hp_); (try clear hy0)))
     go_roundg k1
     case measure => have := HK1.out; omega
     case rel => exact ⟨(y188), (t186), (wrap64 (x5_1 + 1)), tE, tE, H', ⟨by have := HK1.out; omega⟩, ⟨by (with_reducible repeat (first | apply Kd.S_alloc | apply Kd.S_drewN | apply Kd.S_drew)); exact HO_0.out⟩, ⟨by repeat (first | (with_reducible first | exact HK.out | apply Kept.alloc | apply Kept.drewN | apply Kept.drew) | exact HK.out)⟩, ⟨by repeat (first | (with_reducible first | exact HB.out | apply below_alloc | apply pw_below_drewN | apply below_drew1) | exact HB.out)⟩⟩
    ·rw [if_neg c4] at H
     exact absurd H (by simp)
   ·rw [if_neg c3] at H
    have c3b0 : decide (x5_1 < (x0_1.length : Int)) = false := decide_eq_false c3
    clear c3
    simp only [Option.some.injEq, Prod.mk.injEq] at H
    obtain ⟨rfl, rfl⟩ := H
    obtain ⟨Ao15, co15, eo15⟩ := Kd.S_slice HO_0.out
    subst eo15
    go_wp2
    go_ret
    exact ⟨eE, by (with_reducible repeat (first | apply Kd.S_alloc | apply Kd.S_drewN | apply Kd.S_drew)); exact HO_0.out, lU, by repeat (first | (with_reducible first | exact HK.out | apply Kept.alloc | apply Kept.drewN | apply Kept.drew) | exact HK.out)⟩
def laws_heldByteS.l0 : Nat → List Int → Int → Int → Option (Int)
 | 0, _, _, _ => none
 | k + 1, x0, x1, x5 => if x5 < (x0.length : Int) then (if 0 ≤ x5 then (if (rd x0 x5) = ((x1) % 256) then (laws_heldByteS.l0 k x0 (wrap64 (x1 + 1)) (wrap64 (x5 + 1))) else (some (-1))) else (none)) else (some x1)
def laws_heldByteS.f (k : Nat) (l0 : List Int) (a1 : Int) : Option (Int) := laws_heldByteS.l0 k l0 a1 0
theorem laws_heldByteS.mono_l : ∀ k, (∀ y0 y1 y2, LeO (laws_heldByteS.l0 k y0 y1 y2) (laws_heldByteS.l0 (k + 1) y0 y1 y2))
 | 0 => fun _ _ _ r h => by simp [laws_heldByteS.l0] at h
 | k + 1 => by
  have ih0 := laws_heldByteS.mono_l k
  ·intro y0 y1 y2
   unfold laws_heldByteS.l0
   repeat' first
   | (with_reducible exact ih0 _ _ _)
   | (with_reducible exact LeO.refl _)
   | (with_reducible exact LeO.none _)
   | (with_reducible refine LeO.ite ?_ ?_)
   | (with_reducible refine LeO.bind ?_ (fun _ => ?_))
   | exact ih0 _ _ _
   | exact LeO.none _
   | refine LeO.ite ?_ ?_
   | refine LeO.bind ?_ (fun _ => ?_)
theorem laws_heldByteS.mono : ∀ a0 a1 k, LeO (laws_heldByteS.f k a0 a1) (laws_heldByteS.f (k + 1) a0 a1) := by
 intro a0 a1 k
 have ih0 := laws_heldByteS.mono_l k
 unfold laws_heldByteS.f
 repeat' first
   | (with_reducible exact ih0 _ _ _)
   | (with_reducible exact LeO.refl _)
   | (with_reducible exact LeO.none _)
   | (with_reducible refine LeO.ite ?_ ?_)
   | (with_reducible refine LeO.bind ?_ (fun _ => ?_))
   | exact ih0 _ _ _
   | exact LeO.none _
   | refine LeO.ite ?_ ?_
   | refine LeO.bind ?_ (fun _ => ?_)
set_option maxHeartbeats 8000000 in
set_option maxRecDepth 100000 in
theorem laws_heldByteS.calls (k : Nat) (A0 : Option Addr) (c0 : Nat) (l0 : List Int) (a1 : Int) (r : Int) (w : World) (hr0 : Kd.C (Kd.int .u8) w A0 l0.length l0) (hc0 : l0.length ≤ c0) (h : laws_heldByteS.f k l0 a1 = some r) :
  Calls Try.prog 18 #[.slice A0 l0.length c0, .int .i64 a1] w fun e w' => e = .returned (.int .i64 r) ∧ Drawn0 w w' := by
 have HR0 := Aside0.mk hr0
 have HC0 := Aside0.mk hc0
 clear hr0 hc0
 have H : (laws_heldByteS.l0 k l0 a1 0) = some r := h
 clear h
 have H' := Aside0.mk H
 clear H
 go_enter Try.func18, Try.ntmps18
 go_wp2
 go_loopg [1, 5] k (fun kq v1 v5 w' => ∃ (x1_1 : Int) (x5_1 : Int), v1 = .int .i64 x1_1 ∧ v5 = .int .i64 x5_1 ∧ Aside0 (laws_heldByteS.l0 kq l0 x1_1 x5_1 = some r) ∧ Aside0 (kq ≤ k) ∧ Drawn0 w w')
 case atStart => exact ⟨(a1), (0), tE, tE, H', ⟨Nat.le_refl _⟩, by repeat (first | exact Drawn0.refl _ | apply Drawn0.step)⟩
 case round =>
  clear H'
  try clear c1
  try clear p2
  obtain ⟨x1_1, x5_1, rfl, rfl, HA, HK1, ⟨m1, rfl⟩⟩ := hrel
  cases gk with
  | zero => exact absurd HA.out (by simp [laws_heldByteS.l0])
  | succ k1 =>
   have H := HA.out
   clear HA
   simp only [laws_heldByteS.l0] at H
   by_cases c3 : x5_1 < (l0.length : Int)
   ·rw [if_pos c3] at H
    have c3b0 : decide (x5_1 < (l0.length : Int)) = true := decide_eq_true c3
    clear c3
    by_cases c4 : 0 ≤ x5_1
    ·rw [if_pos c4] at H
     have c4b0 : decide (0 ≤ x5_1) = true := decide_eq_true c4
     clear c4
     by_cases c5 : (rd l0 x5_1) = ((x1_1) % 256)
     ·rw [if_pos c5] at H
      have c5b0 : ((rd l0 x5_1) == ((x1_1) % 256)) = true := beq_iff_eq.mpr c5
      have c5b1 : ((rd l0 x5_1) != ((x1_1) % 256)) = false := bne_eq_false_iff_eq.mpr c5
      clear c5
      have H' := Aside0.mk H
      clear H
      have p189 : 0 ≤ (x5_1 : Int) := of_decide_eq_true hE
      have q189 : x5_1 < (l0.length : Int) := of_decide_eq_true hE
      obtain ⟨ad189, e189, hx189_0⟩ := Kd.at_int HR0.out x5_1 p189 q189
      cases e189
      replace p189 := eq_true p189
      replace q189 := eq_true q189
      go_wp2
      go_roundg k1
      case measure => have := HK1.out; omega
      case rel => exact ⟨(wrap64 (x1_1 + 1)), (wrap64 (x5_1 + 1)), tE, tE, H', ⟨by have := HK1.out; omega⟩, by repeat (first | exact Drawn0.refl _ | apply Drawn0.step)⟩
     ·rw [if_neg c5] at H
      have c5b0 : ((rd l0 x5_1) == ((x1_1) % 256)) = false := beq_eq_false_iff_ne.mpr c5
      have c5b1 : ((rd l0 x5_1) != ((x1_1) % 256)) = true := bne_iff_ne.mpr c5
      obtain rfl := Option.some.inj H
      have p189 : 0 ≤ (x5_1 : Int) := of_decide_eq_true hE
      have q189 : x5_1 < (l0.length : Int) := of_decide_eq_true hE
      obtain ⟨ad189, e189, hx189_0⟩ := Kd.at_int HR0.out x5_1 p189 q189
      cases e189
      replace p189 := eq_true p189
      replace q189 := eq_true q189
      go_wp2
      go_ret
      exact ⟨by first | rfl | (simp; done) | (simp [*]; done) | exact not_isEmpty _ | exact (not_isEmpty _).symm | exact is_empty _ | exact (is_empty _).symm, by repeat (first | exact Drawn0.refl _ | apply Drawn0.step)⟩
    ·rw [if_neg c4] at H
     exact absurd H (by simp)
   ·rw [if_neg c3] at H
    have c3b0 : decide (x5_1 < (l0.length : Int)) = false := decide_eq_false c3
    clear c3
    obtain rfl := Option.some.inj H
    go_wp2
    go_ret
    exact ⟨by first | rfl | (simp; done) | (simp [*]; done) | exact not_isEmpty _ | exact (not_isEmpty _).symm | exact is_empty _ | exact (is_empty _).symm, by repeat (first | exact Drawn0.refl _ | apply Drawn0.step)⟩
def laws_heldChunkS.l0 : Nat → List (S62) → Int → Int → Option (Int)
 | 0, _, _, _ => none
 | k + 1, x0, x1, x5 => if x5 < (x0.length : Int) then (if 0 ≤ x5 then (if ((rd_T62 x0 x5).f0) = x1 then (if ((rd_T62 x0 x5).f1) = (wrap64 (x1 + 1)) then ((laws_heldByteS.f k ((rd_T62 x0 x5).f2) (wrap64 ((wrap64 (x1 + 1)) + 1))).bind fun t193 => (if t193 < 0 then (some (-1)) else (laws_heldChunkS.l0 k x0 t193 (wrap64 (x5 + 1))))) else (some (-1))) else (some (-1))) else (none)) else (some x1)
def laws_heldChunkS.f (k : Nat) (l0 : List (S62)) (a1 : Int) : Option (Int) := laws_heldChunkS.l0 k l0 a1 0
theorem laws_heldChunkS.mono_l : ∀ k, (∀ y0 y1 y2, LeO (laws_heldChunkS.l0 k y0 y1 y2) (laws_heldChunkS.l0 (k + 1) y0 y1 y2))
 | 0 => fun _ _ _ r h => by simp [laws_heldChunkS.l0] at h
 | k + 1 => by
  have ih0 := laws_heldChunkS.mono_l k
  ·intro y0 y1 y2
   unfold laws_heldChunkS.l0
   repeat' first
   | (with_reducible exact ih0 _ _ _)
   | (with_reducible exact laws_heldByteS.mono _ _ _)
   | (with_reducible exact LeO.refl _)
   | (with_reducible exact LeO.none _)
   | (with_reducible refine LeO.ite ?_ ?_)
   | (with_reducible refine LeO.bind ?_ (fun _ => ?_))
   | exact ih0 _ _ _
   | exact laws_heldByteS.mono _ _ _
   | exact LeO.none _
   | refine LeO.ite ?_ ?_
   | refine LeO.bind ?_ (fun _ => ?_)
theorem laws_heldChunkS.mono : ∀ a0 a1 k, LeO (laws_heldChunkS.f k a0 a1) (laws_heldChunkS.f (k + 1) a0 a1) := by
 intro a0 a1 k
 have ih0 := laws_heldChunkS.mono_l k
 unfold laws_heldChunkS.f
 repeat' first
   | (with_reducible exact ih0 _ _ _)
   | (with_reducible exact laws_heldByteS.mono _ _ _)
   | (with_reducible exact LeO.refl _)
   | (with_reducible exact LeO.none _)
   | (with_reducible refine LeO.ite ?_ ?_)
   | (with_reducible refine LeO.bind ?_ (fun _ => ?_))
   | exact ih0 _ _ _
   | exact laws_heldByteS.mono _ _ _
   | exact LeO.none _
   | refine LeO.ite ?_ ?_
   | refine LeO.bind ?_ (fun _ => ?_)
set_option maxHeartbeats 8000000 in
set_option maxRecDepth 100000 in
theorem laws_heldChunkS.calls (k : Nat) (A0 : Option Addr) (c0 : Nat) (l0 : List (S62)) (a1 : Int) (r : Int) (w : World) (hr0 : Kd.C k62 w A0 l0.length l0) (hc0 : l0.length ≤ c0) (h : laws_heldChunkS.f k l0 a1 = some r) :
  Calls Try.prog 13 #[.slice A0 l0.length c0, .int .i64 a1] w fun e w' => e = .returned (.int .i64 r) ∧ Drawn0 w w' := by
 have HR0 := Aside0.mk hr0
 have HC0 := Aside0.mk hc0
 clear hr0 hc0
 have H : (laws_heldChunkS.l0 k l0 a1 0) = some r := h
 clear h
 have H' := Aside0.mk H
 clear H
 go_enter Try.func13, Try.ntmps13
 go_wp2
 go_loopg [1, 5] k (fun kq v1 v5 w' => ∃ (x1_1 : Int) (x5_1 : Int), v1 = .int .i64 x1_1 ∧ v5 = .int .i64 x5_1 ∧ Aside0 (laws_heldChunkS.l0 kq l0 x1_1 x5_1 = some r) ∧ Aside0 (kq ≤ k) ∧ Drawn0 w w')
 case atStart => exact ⟨(a1), (0), tE, tE, H', ⟨Nat.le_refl _⟩, by repeat (first | exact Drawn0.refl _ | apply Drawn0.step)⟩
 case round =>
  clear H'
  try clear c1
  try clear p2
  obtain ⟨x1_1, x5_1, rfl, rfl, HA, HK1, ⟨m1, rfl⟩⟩ := hrel
  cases gk with
  | zero => exact absurd HA.out (by simp [laws_heldChunkS.l0])
  | succ k1 =>
   have H := HA.out
   clear HA
   simp only [laws_heldChunkS.l0] at H
   by_cases c3 : x5_1 < (l0.length : Int)
   ·rw [if_pos c3] at H
    have c3b0 : decide (x5_1 < (l0.length : Int)) = true := decide_eq_true c3
    clear c3
    by_cases c4 : 0 ≤ x5_1
    ·rw [if_pos c4] at H
     have c4b0 : decide (0 ≤ x5_1) = true := decide_eq_true c4
     clear c4
     by_cases c5 : ((rd_T62 l0 x5_1).f0) = x1_1
     ·rw [if_pos c5] at H
      have c5b0 : (((rd_T62 l0 x5_1).f0) == x1_1) = true := beq_iff_eq.mpr c5
      have c5b1 : (((rd_T62 l0 x5_1).f0) != x1_1) = false := bne_eq_false_iff_eq.mpr c5
      clear c5
      by_cases c6 : ((rd_T62 l0 x5_1).f1) = (wrap64 (x1_1 + 1))
      ·rw [if_pos c6] at H
       have c6b0 : (((rd_T62 l0 x5_1).f1) == (wrap64 (x1_1 + 1))) = true := beq_iff_eq.mpr c6
       have c6b1 : (((rd_T62 l0 x5_1).f1) != (wrap64 (x1_1 + 1))) = false := bne_eq_false_iff_eq.mpr c6
       clear c6
       replace H := Option.bind_eq_some_iff.mp H
       obtain ⟨t193, A70, H⟩ := H
       replace H : (if t193 < 0 then (some (-1)) else (laws_heldChunkS.l0 k1 l0 t193 (wrap64 (x5_1 + 1)))) = some r := H
       have A7 := Aside0.mk A70
       clear A70
       by_cases c8 : t193 < 0
       ·rw [if_pos c8] at H
        have c8b0 : decide (t193 < 0) = true := decide_eq_true c8
        clear c8
        obtain rfl := Option.some.inj H
        have p190 : 0 ≤ (x5_1 : Int) := of_decide_eq_true hE
        have q190 : x5_1 < (l0.length : Int) := of_decide_eq_true hE
        obtain ⟨ad190, A190_2, c190_2, e190, hx190_0, hx190_1, hx190_2, hl190_2, hi190_2⟩ := at_T62 HR0.out x5_1 p190 q190
        cases e190
        have HR190_2 := Aside0.mk hi190_2
        have HC190_2 := Aside0.mk hl190_2
        clear hi190_2 hl190_2
        replace p190 := eq_true p190
        replace q190 := eq_true q190
        have p191 : 0 ≤ (x5_1 : Int) := of_decide_eq_true hE
        have q191 : x5_1 < (l0.length : Int) := of_decide_eq_true hE
        obtain ⟨ad191, A191_2, c191_2, e191, hx191_0, hx191_1, hx191_2, hl191_2, hi191_2⟩ := at_T62 HR0.out x5_1 p191 q191
        obtain rfl : ad190 = ad191 := (by injection e191)
        have HR191_2 := Aside0.mk hi191_2
        have HC191_2 := Aside0.mk hl191_2
        clear hi191_2 hl191_2
        replace p191 := eq_true p191
        replace q191 := eq_true q191
        have ea_ := Option.some.inj (hx190_2.symm.trans hx191_2)
        injection ea_ with ea_ en_ ec_
        subst ea_
        subst ec_
        clear en_
        have p192 : 0 ≤ (x5_1 : Int) := of_decide_eq_true hE
        have q192 : x5_1 < (l0.length : Int) := of_decide_eq_true hE
        obtain ⟨ad192, A192_2, c192_2, e192, hx192_0, hx192_1, hx192_2, hl192_2, hi192_2⟩ := at_T62 HR0.out x5_1 p192 q192
        obtain rfl : ad190 = ad192 := (by injection e192)
        have HR192_2 := Aside0.mk hi192_2
        have HC192_2 := Aside0.mk hl192_2
        clear hi192_2 hl192_2
        replace p192 := eq_true p192
        replace q192 := eq_true q192
        have ea_ := Option.some.inj (hx190_2.symm.trans hx192_2)
        injection ea_ with ea_ en_ ec_
        subst ea_
        subst ec_
        clear en_
        go_wp2_with (first | ((with_reducible refine gate_callee (f := 18) rfl ?_); refine goesL_ (some 36) rfl rfl Try.func18 (by kernel_rfl) rfl #[.slice A190_2 ((rd_T62 l0 x5_1).f2).length c190_2, .int .i64 (wrap64 ((wrap64 (x1_1 + 1)) + 1))] rfl aE ?_; (with_reducible refine (laws_heldByteS.calls k1 _ _ ((rd_T62 l0 x5_1).f2) (wrap64 ((wrap64 (x1_1 + 1)) + 1)) t193 _ ?side1 ?side2 A7.out).mono ?_); (case side1 => repeat (first | exact HR192_2.out | (with_reducible refine Kd.C_alloc ?_ _) | (with_reducible refine Kd.C_drewN ?_ _) | (with_reducible refine Kd.C_drew ?_))); (case side2 => exact HC192_2.out); rintro e w' ⟨rfl, ⟨nd, rfl⟩⟩; refine ⟨_, rfl, ?_⟩))
        go_ret
        exact ⟨by first | rfl | (simp; done) | (simp [*]; done) | exact not_isEmpty _ | exact (not_isEmpty _).symm | exact is_empty _ | exact (is_empty _).symm, by repeat (first | exact Drawn0.refl _ | apply Drawn0.step)⟩
       ·rw [if_neg c8] at H
        have c8b0 : decide (t193 < 0) = false := decide_eq_false c8
        clear c8
        have H' := Aside0.mk H
        clear H
        have p190 : 0 ≤ (x5_1 : Int) := of_decide_eq_true hE
        have q190 : x5_1 < (l0.length : Int) := of_decide_eq_true hE
        obtain ⟨ad190, A190_2, c190_2, e190, hx190_0, hx190_1, hx190_2, hl190_2, hi190_2⟩ := at_T62 HR0.out x5_1 p190 q190
        cases e190
        have HR190_2 := Aside0.mk hi190_2
        have HC190_2 := Aside0.mk hl190_2
        clear hi190_2 hl190_2
        replace p190 := eq_true p190
        replace q190 := eq_true q190
        have p191 : 0 ≤ (x5_1 : Int) := of_decide_eq_true hE
        have q191 : x5_1 < (l0.length : Int) := of_decide_eq_true hE
        obtain ⟨ad191, A191_2, c191_2, e191, hx191_0, hx191_1, hx191_2, hl191_2, hi191_2⟩ := at_T62 HR0.out x5_1 p191 q191
        obtain rfl : ad190 = ad191 := (by injection e191)
        have HR191_2 := Aside0.mk hi191_2
        have HC191_2 := Aside0.mk hl191_2
        clear hi191_2 hl191_2
        replace p191 := eq_true p191
        replace q191 := eq_true q191
        have ea_ := Option.some.inj (hx190_2.symm.trans hx191_2)
        injection ea_ with ea_ en_ ec_
        subst ea_
        subst ec_
        clear en_
        have p192 : 0 ≤ (x5_1 : Int) := of_decide_eq_true hE
        have q192 : x5_1 < (l0.length : Int) := of_decide_eq_true hE
        obtain ⟨ad192, A192_2, c192_2, e192, hx192_0, hx192_1, hx192_2, hl192_2, hi192_2⟩ := at_T62 HR0.out x5_1 p192 q192
        obtain rfl : ad190 = ad192 := (by injection e192)
        have HR192_2 := Aside0.mk hi192_2
        have HC192_2 := Aside0.mk hl192_2
        clear hi192_2 hl192_2
        replace p192 := eq_true p192
        replace q192 := eq_true q192
        have ea_ := Option.some.inj (hx190_2.symm.trans hx192_2)
        injection ea_ with ea_ en_ ec_
        subst ea_
        subst ec_
        clear en_
        go_wp2_with (first | ((with_reducible refine gate_callee (f := 18) rfl ?_); refine goesL_ (some 36) rfl rfl Try.func18 (by kernel_rfl) rfl #[.slice A190_2 ((rd_T62 l0 x5_1).f2).length c190_2, .int .i64 (wrap64 ((wrap64 (x1_1 + 1)) + 1))] rfl aE ?_; (with_reducible refine (laws_heldByteS.calls k1 _ _ ((rd_T62 l0 x5_1).f2) (wrap64 ((wrap64 (x1_1 + 1)) + 1)) t193 _ ?side1 ?side2 A7.out).mono ?_); (case side1 => repeat (first | exact HR192_2.out | (with_reducible refine Kd.C_alloc ?_ _) | (with_reducible refine Kd.C_drewN ?_ _) | (with_reducible refine Kd.C_drew ?_))); (case side2 => exact HC192_2.out); rintro e w' ⟨rfl, ⟨nd, rfl⟩⟩; refine ⟨_, rfl, ?_⟩))
        go_roundg k1
        case measure => have := HK1.out; omega
        case rel => exact ⟨(t193), (wrap64 (x5_1 + 1)), tE, tE, H', ⟨by have := HK1.out; omega⟩, by repeat (first | exact Drawn0.refl _ | apply Drawn0.step)⟩
      ·rw [if_neg c6] at H
       have c6b0 : (((rd_T62 l0 x5_1).f1) == (wrap64 (x1_1 + 1))) = false := beq_eq_false_iff_ne.mpr c6
       have c6b1 : (((rd_T62 l0 x5_1).f1) != (wrap64 (x1_1 + 1))) = true := bne_iff_ne.mpr c6
       obtain rfl := Option.some.inj H
       have p190 : 0 ≤ (x5_1 : Int) := of_decide_eq_true hE
       have q190 : x5_1 < (l0.length : Int) := of_decide_eq_true hE
       obtain ⟨ad190, A190_2, c190_2, e190, hx190_0, hx190_1, hx190_2, hl190_2, hi190_2⟩ := at_T62 HR0.out x5_1 p190 q190
       cases e190
       have HR190_2 := Aside0.mk hi190_2
       have HC190_2 := Aside0.mk hl190_2
       clear hi190_2 hl190_2
       replace p190 := eq_true p190
       replace q190 := eq_true q190
       have p191 : 0 ≤ (x5_1 : Int) := of_decide_eq_true hE
       have q191 : x5_1 < (l0.length : Int) := of_decide_eq_true hE
       obtain ⟨ad191, A191_2, c191_2, e191, hx191_0, hx191_1, hx191_2, hl191_2, hi191_2⟩ := at_T62 HR0.out x5_1 p191 q191
       obtain rfl : ad190 = ad191 := (by injection e191)
       have HR191_2 := Aside0.mk hi191_2
       have HC191_2 := Aside0.mk hl191_2
       clear hi191_2 hl191_2
       replace p191 := eq_true p191
       replace q191 := eq_true q191
       have ea_ := Option.some.inj (hx190_2.symm.trans hx191_2)
       injection ea_ with ea_ en_ ec_
       subst ea_
       subst ec_
       clear en_
       go_wp2
       go_ret
       exact ⟨by first | rfl | (simp; done) | (simp [*]; done) | exact not_isEmpty _ | exact (not_isEmpty _).symm | exact is_empty _ | exact (is_empty _).symm, by repeat (first | exact Drawn0.refl _ | apply Drawn0.step)⟩
     ·rw [if_neg c5] at H
      have c5b0 : (((rd_T62 l0 x5_1).f0) == x1_1) = false := beq_eq_false_iff_ne.mpr c5
      have c5b1 : (((rd_T62 l0 x5_1).f0) != x1_1) = true := bne_iff_ne.mpr c5
      obtain rfl := Option.some.inj H
      have p190 : 0 ≤ (x5_1 : Int) := of_decide_eq_true hE
      have q190 : x5_1 < (l0.length : Int) := of_decide_eq_true hE
      obtain ⟨ad190, A190_2, c190_2, e190, hx190_0, hx190_1, hx190_2, hl190_2, hi190_2⟩ := at_T62 HR0.out x5_1 p190 q190
      cases e190
      have HR190_2 := Aside0.mk hi190_2
      have HC190_2 := Aside0.mk hl190_2
      clear hi190_2 hl190_2
      replace p190 := eq_true p190
      replace q190 := eq_true q190
      go_wp2
      go_ret
      exact ⟨by first | rfl | (simp; done) | (simp [*]; done) | exact not_isEmpty _ | exact (not_isEmpty _).symm | exact is_empty _ | exact (is_empty _).symm, by repeat (first | exact Drawn0.refl _ | apply Drawn0.step)⟩
    ·rw [if_neg c4] at H
     exact absurd H (by simp)
   ·rw [if_neg c3] at H
    have c3b0 : decide (x5_1 < (l0.length : Int)) = false := decide_eq_false c3
    clear c3
    obtain rfl := Option.some.inj H
    go_wp2
    go_ret
    exact ⟨by first | rfl | (simp; done) | (simp [*]; done) | exact not_isEmpty _ | exact (not_isEmpty _).symm | exact is_empty _ | exact (is_empty _).symm, by repeat (first | exact Drawn0.refl _ | apply Drawn0.step)⟩
end Go.Proofs.Ytcpodjegdpbalaa.PFnExactPatchOf
namespace Go.Proofs.Ytcpodjegdpbalaa.PFnExactPatchOf
open Go.RowKit Go.Proofs.YtcpodjegdpbalaaW.PrintWords Go.Proofs.YtcpodjegdpbalaaW.PrintLast Go.Proofs.YtcpodjegdpbalaaW.PrintMore
attribute [local go_sem] max2_int min2_int max_two min_two max_three min_three max_four min_four   -- for this text's walks alone
set_option linter.unusedVariables false
set_option linter.unusedSimpArgs false
mutual
def laws_FnExactPatchOf.j0 : Nat → List Int → List Int → List (S62) → Bool → List Int → List Int → List (S62) → Bool → Bool → Option (Bool)
 | 0, _, _, _, _, _, _, _, _, _ => none
 | k + 1, x0, x1, x5, x6, x7, x8, x9, x10, x48 => if x48 = true then (some false) else ((laws_toByteS.f k x0).bind fun t215 => ((laws_eqByteS.f k x7 t215).bind fun t218 => (if t218 = true then ((laws_toByteS.f k x1).bind fun t219 => ((laws_eqByteS.f k x8 t219).bind fun t222 => (if t222 = true then ((laws_markByteS.f k x7 1).bind fun bt223 => ((laws_markByteS.f k x8 bt223.1).bind fun bt225 => (if bt225.1 < 0 then (laws_FnExactPatchOf.j1 k x0 x1 x5 x6 x9 true) else ((laws_eqChunkS.f k x9 x5).bind fun t227 => (if t227 = true then (laws_FnExactPatchOf.j1 k x0 x1 x5 x6 x9 (x10 != x6)) else (laws_FnExactPatchOf.j1 k x0 x1 x5 x6 x9 true)))))) else (some false)))) else (some false))))
def laws_FnExactPatchOf.j1 : Nat → List Int → List Int → List (S62) → Bool → List (S62) → Bool → Option (Bool)
 | 0, _, _, _, _, _, _ => none
 | k + 1, x0, x1, x5, x6, x9, x77 => if x77 = true then (some false) else ((laws_markChunkS.f k x9 1).bind fun bt228 => ((laws_heldChunkS.f k bt228.2 1).bind fun t230 => (if t230 < 0 then (some false) else (if t230 = bt228.1 then ((laws_toByteS.f k x0).bind fun t231 => ((laws_toByteS.f k x1).bind fun t234 => ((impl_PatchOf.f k t231 t234).bind fun bt237 => ((laws_eqChunkS.f k bt237.1 x5).bind fun t241 => (if t241 = true then (laws_FnExactPatchOf.j2 k bt228.2 bt228.1 (bt237.2 != x6)) else (laws_FnExactPatchOf.j2 k bt228.2 bt228.1 true)))))) else (some false)))))
def laws_FnExactPatchOf.j2 : Nat → List (S62) → Int → Bool → Option (Bool)
 | 0, _, _, _ => none
 | k + 1, x9, x12, x105 => if x105 = true then (some false) else ((laws_heldChunkS.f k x9 1).bind fun t242 => (if t242 < 0 then (some false) else (if t242 = x12 then (some true) else (some false))))
end
def laws_FnExactPatchOf.f (k : Nat) (l0 : List Int) (l1 : List Int) : Option (Bool) := if (l0.length : Int) > 1048576 then (some true) else (if (l1.length : Int) > 1048576 then (some true) else ((laws_toByteS.f k l0).bind fun t194 => ((laws_toByteS.f k l1).bind fun t197 => ((spec_PatchOf.f k t194 t197).bind fun bt200 => ((laws_toByteS.f k l0).bind fun t204 => ((laws_toByteS.f k l1).bind fun t207 => ((impl_PatchOf.f k t204 t207).bind fun bt210 => ((laws_eqChunkS.f k bt210.1 bt200.1).bind fun t214 => (if t214 = true then (laws_FnExactPatchOf.j0 k l0 l1 bt200.1 bt200.2 t204 t207 bt210.1 bt210.2 (bt210.2 != bt200.2)) else (laws_FnExactPatchOf.j0 k l0 l1 bt200.1 bt200.2 t204 t207 bt210.1 bt210.2 true))))))))))
theorem laws_FnExactPatchOf.mono_l : ∀ k, (∀ y0 y1 y2 y3 y4 y5 y6 y7 y8, LeO (laws_FnExactPatchOf.j0 k y0 y1 y2 y3 y4 y5 y6 y7 y8) (laws_FnExactPatchOf.j0 (k + 1) y0 y1 y2 y3 y4 y5 y6 y7 y8)) ∧ (∀ y0 y1 y2 y3 y4 y5, LeO (laws_FnExactPatchOf.j1 k y0 y1 y2 y3 y4 y5) (laws_FnExactPatchOf.j1 (k + 1) y0 y1 y2 y3 y4 y5)) ∧ (∀ y0 y1 y2, LeO (laws_FnExactPatchOf.j2 k y0 y1 y2) (laws_FnExactPatchOf.j2 (k + 1) y0 y1 y2))
 | 0 => ⟨fun _ _ _ _ _ _ _ _ _ r h => by simp [laws_FnExactPatchOf.j0] at h, fun _ _ _ _ _ _ r h => by simp [laws_FnExactPatchOf.j1] at h, fun _ _ _ r h => by simp [laws_FnExactPatchOf.j2] at h⟩
 | k + 1 => by
  obtain ⟨ih0, ih1, ih2⟩ := laws_FnExactPatchOf.mono_l k
  refine ⟨?_, ?_, ?_⟩
  ·intro y0 y1 y2 y3 y4 y5 y6 y7 y8
   unfold laws_FnExactPatchOf.j0
   repeat' first
   | (with_reducible exact ih0 _ _ _ _ _ _ _ _ _)
   | (with_reducible exact ih1 _ _ _ _ _ _)
   | (with_reducible exact ih2 _ _ _)
   | (with_reducible exact impl_PatchOf.mono _ _ _)
   | (with_reducible exact laws_eqByteS.mono _ _ _)
   | (with_reducible exact laws_eqChunkS.mono _ _ _)
   | (with_reducible exact laws_heldChunkS.mono _ _ _)
   | (with_reducible exact laws_markByteS.mono _ _ _)
   | (with_reducible exact laws_markChunkS.mono _ _ _)
   | (with_reducible exact laws_toByteS.mono _ _)
   | (with_reducible exact spec_PatchOf.mono _ _ _)
   | (with_reducible exact LeO.refl _)
   | (with_reducible exact LeO.none _)
   | (with_reducible refine LeO.ite ?_ ?_)
   | (with_reducible refine LeO.bind ?_ (fun _ => ?_))
   | exact ih0 _ _ _ _ _ _ _ _ _
   | exact ih1 _ _ _ _ _ _
   | exact ih2 _ _ _
   | exact impl_PatchOf.mono _ _ _
   | exact laws_eqByteS.mono _ _ _
   | exact laws_eqChunkS.mono _ _ _
   | exact laws_heldChunkS.mono _ _ _
   | exact laws_markByteS.mono _ _ _
   | exact laws_markChunkS.mono _ _ _
   | exact laws_toByteS.mono _ _
   | exact spec_PatchOf.mono _ _ _
   | exact LeO.none _
   | refine LeO.ite ?_ ?_
   | refine LeO.bind ?_ (fun _ => ?_)
  ·intro y0 y1 y2 y3 y4 y5
   unfold laws_FnExactPatchOf.j1
   repeat' first
   | (with_reducible exact ih0 _ _ _ _ _ _ _ _ _)
   | (with_reducible exact ih1 _ _ _ _ _ _)
   | (with_reducible exact ih2 _ _ _)
   | (with_reducible exact impl_PatchOf.mono _ _ _)
   | (with_reducible exact laws_eqByteS.mono _ _ _)
   | (with_reducible exact laws_eqChunkS.mono _ _ _)
   | (with_reducible exact laws_heldChunkS.mono _ _ _)
   | (with_reducible exact laws_markByteS.mono _ _ _)
   | (with_reducible exact laws_markChunkS.mono _ _ _)
   | (with_reducible exact laws_toByteS.mono _ _)
   | (with_reducible exact spec_PatchOf.mono _ _ _)
   | (with_reducible exact LeO.refl _)
   | (with_reducible exact LeO.none _)
   | (with_reducible refine LeO.ite ?_ ?_)
   | (with_reducible refine LeO.bind ?_ (fun _ => ?_))
   | exact ih0 _ _ _ _ _ _ _ _ _
   | exact ih1 _ _ _ _ _ _
   | exact ih2 _ _ _
   | exact impl_PatchOf.mono _ _ _
   | exact laws_eqByteS.mono _ _ _
   | exact laws_eqChunkS.mono _ _ _
   | exact laws_heldChunkS.mono _ _ _
   | exact laws_markByteS.mono _ _ _
   | exact laws_markChunkS.mono _ _ _
   | exact laws_toByteS.mono _ _
   | exact spec_PatchOf.mono _ _ _
   | exact LeO.none _
   | refine LeO.ite ?_ ?_
   | refine LeO.bind ?_ (fun _ => ?_)
  ·intro y0 y1 y2
   unfold laws_FnExactPatchOf.j2
   repeat' first
   | (with_reducible exact ih0 _ _ _ _ _ _ _ _ _)
   | (with_reducible exact ih1 _ _ _ _ _ _)
   | (with_reducible exact ih2 _ _ _)
   | (with_reducible exact impl_PatchOf.mono _ _ _)
   | (with_reducible exact laws_eqByteS.mono _ _ _)
   | (with_reducible exact laws_eqChunkS.mono _ _ _)
   | (with_reducible exact laws_heldChunkS.mono _ _ _)
   | (with_reducible exact laws_markByteS.mono _ _ _)
   | (with_reducible exact laws_markChunkS.mono _ _ _)
   | (with_reducible exact laws_toByteS.mono _ _)
   | (with_reducible exact spec_PatchOf.mono _ _ _)
   | (with_reducible exact LeO.refl _)
   | (with_reducible exact LeO.none _)
   | (with_reducible refine LeO.ite ?_ ?_)
   | (with_reducible refine LeO.bind ?_ (fun _ => ?_))
   | exact ih0 _ _ _ _ _ _ _ _ _
   | exact ih1 _ _ _ _ _ _
   | exact ih2 _ _ _
   | exact impl_PatchOf.mono _ _ _
   | exact laws_eqByteS.mono _ _ _
   | exact laws_eqChunkS.mono _ _ _
   | exact laws_heldChunkS.mono _ _ _
   | exact laws_markByteS.mono _ _ _
   | exact laws_markChunkS.mono _ _ _
   | exact laws_toByteS.mono _ _
   | exact spec_PatchOf.mono _ _ _
   | exact LeO.none _
   | refine LeO.ite ?_ ?_
   | refine LeO.bind ?_ (fun _ => ?_)
theorem laws_FnExactPatchOf.mono : ∀ a0 a1 k, LeO (laws_FnExactPatchOf.f k a0 a1) (laws_FnExactPatchOf.f (k + 1) a0 a1) := by
 intro a0 a1 k
 obtain ⟨ih0, ih1, ih2⟩ := laws_FnExactPatchOf.mono_l k
 unfold laws_FnExactPatchOf.f
 repeat' first
   | (with_reducible exact ih0 _ _ _ _ _ _ _ _ _)
   | (with_reducible exact ih1 _ _ _ _ _ _)
   | (with_reducible exact ih2 _ _ _)
   | (with_reducible exact impl_PatchOf.mono _ _ _)
   | (with_reducible exact laws_eqByteS.mono _ _ _)
   | (with_reducible exact laws_eqChunkS.mono _ _ _)
   | (with_reducible exact laws_heldChunkS.mono _ _ _)
   | (with_reducible exact laws_markByteS.mono _ _ _)
   | (with_reducible exact laws_markChunkS.mono _ _ _)
   | (with_reducible exact laws_toByteS.mono _ _)
   | (with_reducible exact spec_PatchOf.mono _ _ _)
   | (with_reducible exact LeO.refl _)
   | (with_reducible exact LeO.none _)
   | (with_reducible refine LeO.ite ?_ ?_)
   | (with_reducible refine LeO.bind ?_ (fun _ => ?_))
   | exact ih0 _ _ _ _ _ _ _ _ _
   | exact ih1 _ _ _ _ _ _
   | exact ih2 _ _ _
   | exact impl_PatchOf.mono _ _ _
   | exact laws_eqByteS.mono _ _ _
   | exact laws_eqChunkS.mono _ _ _
   | exact laws_heldChunkS.mono _ _ _
   | exact laws_markByteS.mono _ _ _
   | exact laws_markChunkS.mono _ _ _
   | exact laws_toByteS.mono _ _
   | exact spec_PatchOf.mono _ _ _
   | exact LeO.none _
   | refine LeO.ite ?_ ?_
   | refine LeO.bind ?_ (fun _ => ?_)
set_option maxHeartbeats 8000000 in
set_option maxRecDepth 100000 in
theorem laws_FnExactPatchOf.calls (k : Nat) (A0 : Option Addr) (c0 : Nat) (l0 : List Int) (A1 : Option Addr) (c1 : Nat) (l1 : List Int) (r : Bool) (w : World) (hr0 : Kd.C (Kd.int .u8) w A0 l0.length l0) (hc0 : l0.length ≤ c0) (hr1 : Kd.C (Kd.int .u8) w A1 l1.length l1) (hc1 : l1.length ≤ c1) (h : laws_FnExactPatchOf.f k l0 l1 = some r) :
  Calls Try.prog 3 #[.slice A0 l0.length c0, .slice A1 l1.length c1] w fun e w' => e = .returned (.bool r) ∧ Below w.heap.size w w' := by
 have HR0 := Aside0.mk hr0
 have HC0 := Aside0.mk hc0
 clear hr0 hc0
 have HR1 := Aside0.mk hr1
 have HC1 := Aside0.mk hc1
 clear hr1 hc1
 have HB := Aside0.mk (Below.refl w.heap.size w)
 have H : (if (l0.length : Int) > 1048576 then (some true) else (if (l1.length : Int) > 1048576 then (some true) else ((laws_toByteS.f k l0).bind fun t194 => ((laws_toByteS.f k l1).bind fun t197 => ((spec_PatchOf.f k t194 t197).bind fun bt200 => ((laws_toByteS.f k l0).bind fun t204 => ((laws_toByteS.f k l1).bind fun t207 => ((impl_PatchOf.f k t204 t207).bind fun bt210 => ((laws_eqChunkS.f k bt210.1 bt200.1).bind fun t214 => (if t214 = true then (laws_FnExactPatchOf.j0 k l0 l1 bt200.1 bt200.2 t204 t207 bt210.1 bt210.2 (bt210.2 != bt200.2)) else (laws_FnExactPatchOf.j0 k l0 l1 bt200.1 bt200.2 t204 t207 bt210.1 bt210.2 true))))))))))) = some r := h
 clear h
 by_cases c3 : (l0.length : Int) > 1048576
 ·rw [if_pos c3] at H
  have c3b0 : decide (1048576 < (l0.length : Int)) = true := decide_eq_true c3
  have c3b1 : decide (1048576 < l0.length) = true := decide_eq_true (by omega)
  clear c3
  obtain rfl := Option.some.inj H
  go_enter Try.func3, Try.ntmps3
  go_wp2
  go_ret
  exact ⟨eE, lU⟩
 ·rw [if_neg c3] at H
  have c3b0 : decide (1048576 < (l0.length : Int)) = false := decide_eq_false c3
  have c3b1 : decide (1048576 < l0.length) = false := decide_eq_false (by omega)
  clear c3
  by_cases c4 : (l1.length : Int) > 1048576
  ·rw [if_pos c4] at H
   have c4b0 : decide (1048576 < (l1.length : Int)) = true := decide_eq_true c4
   have c4b1 : decide (1048576 < l1.length) = true := decide_eq_true (by omega)
   clear c4
   obtain rfl := Option.some.inj H
   go_enter Try.func3, Try.ntmps3
   go_wp2
   go_ret
   exact ⟨eE, lU⟩
  ·rw [if_neg c4] at H
   have c4b0 : decide (1048576 < (l1.length : Int)) = false := decide_eq_false c4
   have c4b1 : decide (1048576 < l1.length) = false := decide_eq_false (by omega)
   clear c4
   replace H := Option.bind_eq_some_iff.mp H
   obtain ⟨t194, A50, H⟩ := H
   replace H : ((laws_toByteS.f k l1).bind fun t197 => ((spec_PatchOf.f k t194 t197).bind fun bt200 => ((laws_toByteS.f k l0).bind fun t204 => ((laws_toByteS.f k l1).bind fun t207 => ((impl_PatchOf.f k t204 t207).bind fun bt210 => ((laws_eqChunkS.f k bt210.1 bt200.1).bind fun t214 => (if t214 = true then (laws_FnExactPatchOf.j0 k l0 l1 bt200.1 bt200.2 t204 t207 bt210.1 bt210.2 (bt210.2 != bt200.2)) else (laws_FnExactPatchOf.j0 k l0 l1 bt200.1 bt200.2 t204 t207 bt210.1 bt210.2 true)))))))) = some r := H
   have A5 := Aside0.mk A50
   clear A50
   replace H := Option.bind_eq_some_iff.mp H
   obtain ⟨t197, A60, H⟩ := H
   replace H : ((spec_PatchOf.f k t194 t197).bind fun bt200 => ((laws_toByteS.f k l0).bind fun t204 => ((laws_toByteS.f k l1).bind fun t207 => ((impl_PatchOf.f k t204 t207).bind fun bt210 => ((laws_eqChunkS.f k bt210.1 bt200.1).bind fun t214 => (if t214 = true then (laws_FnExactPatchOf.j0 k l0 l1 bt200.1 bt200.2 t204 t207 bt210.1 bt210.2 (bt210.2 != bt200.2)) else (laws_FnExactPatchOf.j0 k l0 l1 bt200.1 bt200.2 t204 t207 bt210.1 bt210.2 true))))))) = some r := H
   have A6 := Aside0.mk A60
   clear A60
   replace H := Option.bind_eq_some_iff.mp H
   obtain ⟨⟨t200, t201⟩, A70, H⟩ := H
   replace H : ((laws_toByteS.f k l0).bind fun t204 => ((laws_toByteS.f k l1).bind fun t207 => ((impl_PatchOf.f k t204 t207).bind fun bt210 => ((laws_eqChunkS.f k bt210.1 t200).bind fun t214 => (if t214 = true then (laws_FnExactPatchOf.j0 k l0 l1 t200 t201 t204 t207 bt210.1 bt210.2 (bt210.2 != t201)) else (laws_FnExactPatchOf.j0 k l0 l1 t200 t201 t204 t207 bt210.1 bt210.2 true)))))) = some r := H
   have A7 := Aside0.mk A70
   clear A70
   replace H := Option.bind_eq_some_iff.mp H
   obtain ⟨t204, A80, H⟩ := H
   replace H : ((laws_toByteS.f k l1).bind fun t207 => ((impl_PatchOf.f k t204 t207).bind fun bt210 => ((laws_eqChunkS.f k bt210.1 t200).bind fun t214 => (if t214 = true then (laws_FnExactPatchOf.j0 k l0 l1 t200 t201 t204 t207 bt210.1 bt210.2 (bt210.2 != t201)) else (laws_FnExactPatchOf.j0 k l0 l1 t200 t201 t204 t207 bt210.1 bt210.2 true))))) = some r := H
   have A8 := Aside0.mk A80
   clear A80
   replace H := Option.bind_eq_some_iff.mp H
   obtain ⟨t207, A90, H⟩ := H
   replace H : ((impl_PatchOf.f k t204 t207).bind fun bt210 => ((laws_eqChunkS.f k bt210.1 t200).bind fun t214 => (if t214 = true then (laws_FnExactPatchOf.j0 k l0 l1 t200 t201 t204 t207 bt210.1 bt210.2 (bt210.2 != t201)) else (laws_FnExactPatchOf.j0 k l0 l1 t200 t201 t204 t207 bt210.1 bt210.2 true)))) = some r := H
   have A9 := Aside0.mk A90
   clear A90
   replace H := Option.bind_eq_some_iff.mp H
   obtain ⟨⟨t210, t211⟩, A100, H⟩ := H
   replace H : ((laws_eqChunkS.f k t210 t200).bind fun t214 => (if t214 = true then (laws_FnExactPatchOf.j0 k l0 l1 t200 t201 t204 t207 t210 t211 (t211 != t201)) else (laws_FnExactPatchOf.j0 k l0 l1 t200 t201 t204 t207 t210 t211 true))) = some r := H
   have A10 := Aside0.mk A100
   clear A100
   have HC11 := Aside0.mk H
   clear H
   go_enter Try.func3, Try.ntmps3
   go_upto_region 9 with (first | ((with_reducible refine gate_callee (f := 7) rfl ?_); refine goesL_ (some 24) rfl rfl Try.func7 (by kernel_rfl) rfl #[.slice A0 l0.length c0] rfl aE ?_; (with_reducible refine (laws_toByteS.calls k _ _ l0 t194 _ ?side1 ?side2 A5.out).mono ?_); (case side1 => repeat (first | exact HR0.out | (with_reducible refine Kd.C_alloc ?_ _) | (with_reducible refine Kd.C_drewN ?_ _) | (with_reducible refine Kd.C_drew ?_))); (case side2 => exact HC0.out); rintro e w12 ⟨v195, rfl, ho0, hb⟩; refine ⟨_, rfl, ?_⟩; have HO196 := Aside0.mk (Kd.R_lower ho0 (below_size (lU))); replace HB := bH (lU) hb; (try clear hb); (try clear ho0)) | ((with_reducible refine gate_callee (f := 7) rfl ?_); refine goesL_ (some 26) rfl rfl Try.func7 (by kernel_rfl) rfl #[.slice A1 l1.length c1] rfl aE ?_; (with_reducible refine (laws_toByteS.calls k _ _ l1 t197 _ ?side1 ?side2 A6.out).mono ?_); (case side1 => exact cU (Kd.C_below HR1.out HB.out)); (case side2 => exact HC1.out); rintro e w13 ⟨v198, rfl, ho0, hb⟩; refine ⟨_, rfl, ?_⟩; have HO199 := Aside0.mk (Kd.R_lower (Kd.R_new' ho0 (Kd.R_lt (rU HO196.out))) (below_size (lU))); replace HO196 := Aside0.mk (Kd.R_elder' (rU HO196.out) (Kd.R_base ho0) hb); replace HB := bH (lU) hb; (try clear hb); (try clear ho0); obtain ⟨Ao14, co14, eo14⟩ := Kd.R_slice HO196.out; subst eo14; obtain ⟨Ao15, co15, eo15⟩ := Kd.R_slice HO199.out; subst eo15) | ((with_reducible refine gate_callee (f := 6) rfl ?_); refine goesL_ (some 27) rfl rfl Try.func6 (by kernel_rfl) rfl #[.slice Ao14 t194.length co14, .slice Ao15 t197.length co15] rfl aE ?_; (with_reducible refine (spec_PatchOf.calls k _ _ t194 _ _ t197 t200 t201 _ ?side1 ?side2 ?side3 ?side4 A7.out).mono ?_); (case side1 => exact cU (Kd.R_reads' HO196.out).2.2); (case side2 => exact (Kd.R_reads' HO196.out).2.1); (case side3 => exact cU (Kd.R_reads' HO199.out).2.2); (case side4 => exact (Kd.R_reads' HO199.out).2.1); rintro e w16 ⟨v202, rfl, ho0, hb⟩; refine ⟨_, rfl, ?_⟩; have HO203 := Aside0.mk (Kd.S_lower (Kd.S_new' (Kd.S_new' ho0 (Kd.R_lt (rU HO196.out))) (Kd.R_lt (rU HO199.out))) (below_size (lU))); replace HO196 := Aside0.mk (Kd.R_below (rU HO196.out) hb); replace HO199 := Aside0.mk (Kd.R_below (rU HO199.out) hb); replace HB := bH (lU) hb; (try clear hb); (try clear ho0); obtain ⟨A203, c203, e203_⟩ := Kd.S_slice HO203.out; subst e203_; have HR203 := Aside0.mk (Kd.S_reads' HO203.out).2.2; have HC203 := Aside0.mk (Kd.S_reads' HO203.out).2.1; replace HR0 := Aside0.mk (Kd.C_below HR0.out (lU)); replace HR1 := Aside0.mk (Kd.C_below HR1.out (lU)); have HB00 := Aside0.mk lU; obtain ⟨w, hw_⟩ : ∃ w_ : World, w_ = w16 := ⟨_, rfl⟩; replace HR203 := Aside0.mk (show Kd.C k62 w A203 t200.length t200 from by rw [hw_]; exact HR203.out); replace HR0 := Aside0.mk (show Kd.C (Kd.int .u8) w A0 l0.length l0 from by rw [hw_]; exact HR0.out); replace HR1 := Aside0.mk (show Kd.C (Kd.int .u8) w A1 l1.length l1 from by rw [hw_]; exact HR1.out); have HB := Aside0.mk (show Below w.heap.size w w16 from by rw [hw_]; exact Below.refl _ _); rw [← hw_] at HB00; clear hw_) | ((with_reducible refine gate_callee (f := 7) rfl ?_); refine goesL_ (some 31) rfl rfl Try.func7 (by kernel_rfl) rfl #[.slice A0 l0.length c0] rfl aE ?_; (with_reducible refine (laws_toByteS.calls k _ _ l0 t204 _ ?side1 ?side2 A8.out).mono ?_); (case side1 => exact cU (Kd.C_below HR0.out HB.out)); (case side2 => exact HC0.out); rintro e w17 ⟨v205, rfl, ho0, hb⟩; refine ⟨_, rfl, ?_⟩; have HO206 := Aside0.mk (Kd.R_lower ho0 (below_size (lU))); replace HB := bH (lU) hb; (try clear hb); (try clear ho0)) | ((with_reducible refine gate_callee (f := 7) rfl ?_); refine goesL_ (some 33) rfl rfl Try.func7 (by kernel_rfl) rfl #[.slice A1 l1.length c1] rfl aE ?_; (with_reducible refine (laws_toByteS.calls k _ _ l1 t207 _ ?side1 ?side2 A9.out).mono ?_); (case side1 => exact cU (Kd.C_below HR1.out HB.out)); (case side2 => exact HC1.out); rintro e w18 ⟨v208, rfl, ho0, hb⟩; refine ⟨_, rfl, ?_⟩; have HO209 := Aside0.mk (Kd.R_lower (Kd.R_new' ho0 (Kd.R_lt (rU HO206.out))) (below_size (lU))); replace HO206 := Aside0.mk (Kd.R_elder' (rU HO206.out) (Kd.R_base ho0) hb); replace HB := bH (lU) hb; (try clear hb); (try clear ho0); obtain ⟨Ao19, co19, eo19⟩ := Kd.R_slice HO206.out; subst eo19; obtain ⟨Ao20, co20, eo20⟩ := Kd.R_slice HO209.out; subst eo20) | ((with_reducible refine gate_callee (f := 8) rfl ?_); refine goesL_ (some 37) rfl rfl Try.func8 (by kernel_rfl) rfl #[.slice Ao19 t204.length co19, .slice Ao20 t207.length co20] rfl aE ?_; (with_reducible refine (impl_PatchOf.calls k _ _ t204 _ _ t207 t210 t211 _ ?side1 ?side2 ?side3 ?side4 A10.out).mono ?_); (case side1 => exact cU (Kd.R_reads' HO206.out).2.2); (case side2 => exact (Kd.R_reads' HO206.out).2.1); (case side3 => exact cU (Kd.R_reads' HO209.out).2.2); (case side4 => exact (Kd.R_reads' HO209.out).2.1); rintro e w21 ⟨v212, rfl, ho0, hb⟩; refine ⟨_, rfl, ?_⟩; have HO213 := Aside0.mk (Kd.S_lower (Kd.S_new' (Kd.S_new' ho0 (Kd.R_lt (rU HO206.out))) (Kd.R_lt (rU HO209.out))) (below_size (lU))); replace HO206 := Aside0.mk (Kd.R_below (rU HO206.out) hb); replace HO209 := Aside0.mk (Kd.R_below (rU HO209.out) hb); replace HB := bH (lU) hb; (try clear hb); (try clear ho0)))
   (try simp only [Act.put, List.setIfInBounds_toArray, List.set_cons_zero, List.set_cons_succ])
   go_cut [48] (fun v48 wc => ∃ (kq : Nat) (x48_10 : Bool), v48 = .bool x48_10 ∧ Aside0 (laws_FnExactPatchOf.j0 kq l0 l1 t200 t201 t204 t207 t210 t211 x48_10 = some r) ∧ Aside0 (kq ≤ k) ∧ Aside0 (Kd.R (Kd.int .u8) 5 wc w.heap.size (fun k_ => some k_ ≠ ((.slice Ao20 t207.length co20) : Value).ownBlock) (.slice Ao19 t204.length co19) t204) ∧ Aside0 (Kd.R (Kd.int .u8) 5 wc w.heap.size (fun k_ => some k_ ≠ ((.slice Ao19 t204.length co19) : Value).ownBlock) (.slice Ao20 t207.length co20) t207) ∧ Aside0 (Kd.S k62 62 wc w.heap.size (fun k_ => some k_ ≠ ((.slice Ao19 t204.length co19) : Value).ownBlock ∧ some k_ ≠ ((.slice Ao20 t207.length co20) : Value).ownBlock) v212 t210) ∧ Aside0 (Below w.heap.size w wc))
   case first =>
    have H := HC11.out
    clear HC11
    replace H := Option.bind_eq_some_iff.mp H
    obtain ⟨t214, A220, H⟩ := H
    replace H : (if t214 = true then (laws_FnExactPatchOf.j0 k l0 l1 t200 t201 t204 t207 t210 t211 (t211 != t201)) else (laws_FnExactPatchOf.j0 k l0 l1 t200 t201 t204 t207 t210 t211 true)) = some r := H
    have A22 := Aside0.mk A220
    clear A220
    by_cases c23 : t214 = true
    ·subst c23
     have H1 : (laws_FnExactPatchOf.j0 k l0 l1 t200 t201 t204 t207 t210 t211 (t211 != t201)) = some r := by rw [if_pos rfl] at H; exact H
     clear H
     have H := H1
     clear H1
     have H' := Aside0.mk H
     clear H
     obtain ⟨Ao24, co24, eo24⟩ := Kd.S_slice HO213.out
     subst eo24
     go_wp2_with (first | ((with_reducible refine gate_callee (f := 9) rfl ?_); refine goesL_ (some 42) rfl rfl Try.func9 (by kernel_rfl) rfl #[.slice Ao24 t210.length co24, .slice A203 t200.length c203] rfl aE ?_; (with_reducible refine (laws_eqChunkS.calls k _ _ t210 _ _ t200 true _ ?side1 ?side2 ?side3 ?side4 A22.out).mono ?_); (case side1 => exact cU (Kd.S_reads' HO213.out).2.2); (case side2 => exact (Kd.S_reads' HO213.out).2.1); (case side3 => exact cU (Kd.C_below HR203.out HB.out)); (case side4 => exact HC203.out); rintro e w25 ⟨rfl, hb⟩; refine ⟨_, rfl, ?_⟩; replace HO206 := Aside0.mk (Kd.R_below (rU HO206.out) hb); replace HO209 := Aside0.mk (Kd.R_below (rU HO209.out) hb); replace HO213 := Aside0.mk (Kd.S_below (by (with_reducible repeat (first | apply Kd.S_alloc | apply Kd.S_drewN | apply Kd.S_drew)); exact HO213.out) hb); replace HB := bH (lU) hb; (try clear hb)))
     go_meet
     case rel => exact ⟨_, ((t211 != t201)), tE, H', ⟨by first | omega | exact Nat.le_refl _⟩, ⟨by (with_reducible repeat (first | apply Kd.R_alloc | apply Kd.R_drewN | apply Kd.R_drew)); exact Kd.R_mono HO206.out (fun _ hk => hk.2)⟩, ⟨by (with_reducible repeat (first | apply Kd.R_alloc | apply Kd.R_drewN | apply Kd.R_drew)); exact Kd.R_mono HO209.out (fun _ hk => hk.2)⟩, ⟨by (with_reducible repeat (first | apply Kd.S_alloc | apply Kd.S_drewN | apply Kd.S_drew)); exact Kd.S_mono HO213.out (fun _ hk => ⟨hk.1.2, hk.2⟩)⟩, ⟨by repeat (first | (with_reducible first | exact HB.out | apply below_alloc | apply pw_below_drewN | apply below_drew1) | exact HB.out)⟩⟩
    ·replace c23 := Bool.eq_false_iff.mpr c23
     subst c23
     have H1 : (laws_FnExactPatchOf.j0 k l0 l1 t200 t201 t204 t207 t210 t211 true) = some r := by rw [if_neg (show ¬ (false = true) by decide)] at H; exact H
     clear H
     have H := H1
     clear H1
     have H' := Aside0.mk H
     clear H
     obtain ⟨Ao26, co26, eo26⟩ := Kd.S_slice HO213.out
     subst eo26
     go_wp2_with (first | ((with_reducible refine gate_callee (f := 9) rfl ?_); refine goesL_ (some 42) rfl rfl Try.func9 (by kernel_rfl) rfl #[.slice Ao26 t210.length co26, .slice A203 t200.length c203] rfl aE ?_; (with_reducible refine (laws_eqChunkS.calls k _ _ t210 _ _ t200 false _ ?side1 ?side2 ?side3 ?side4 A22.out).mono ?_); (case side1 => exact cU (Kd.S_reads' HO213.out).2.2); (case side2 => exact (Kd.S_reads' HO213.out).2.1); (case side3 => exact cU (Kd.C_below HR203.out HB.out)); (case side4 => exact HC203.out); rintro e w27 ⟨rfl, hb⟩; refine ⟨_, rfl, ?_⟩; replace HO206 := Aside0.mk (Kd.R_below (rU HO206.out) hb); replace HO209 := Aside0.mk (Kd.R_below (rU HO209.out) hb); replace HO213 := Aside0.mk (Kd.S_below (by (with_reducible repeat (first | apply Kd.S_alloc | apply Kd.S_drewN | apply Kd.S_drew)); exact HO213.out) hb); replace HB := bH (lU) hb; (try clear hb)))
     go_meet
     case rel => exact ⟨_, (true), tE, H', ⟨by first | omega | exact Nat.le_refl _⟩, ⟨by (with_reducible repeat (first | apply Kd.R_alloc | apply Kd.R_drewN | apply Kd.R_drew)); exact Kd.R_mono HO206.out (fun _ hk => hk.2)⟩, ⟨by (with_reducible repeat (first | apply Kd.R_alloc | apply Kd.R_drewN | apply Kd.R_drew)); exact Kd.R_mono HO209.out (fun _ hk => hk.2)⟩, ⟨by (with_reducible repeat (first | apply Kd.S_alloc | apply Kd.S_drewN | apply Kd.S_drew)); exact Kd.S_mono HO213.out (fun _ hk => ⟨hk.1.2, hk.2⟩)⟩, ⟨by repeat (first | (with_reducible first | exact HB.out | apply below_alloc | apply pw_below_drewN | apply below_drew1) | exact HB.out)⟩⟩
   case rest =>
    clear HC11
    try clear c1
    try clear c2
    try clear p2
    try clear c3
    try clear c3b0
    try clear c3b1
    try clear c4
    try clear c4b0
    try clear c4b1
    try clear c6
    try clear c7
    try clear c8
    try clear c9
    try clear c20
    try clear c23
    obtain ⟨kq, x48_10, rfl, HA, HJ10, HO_7, HO_8, HO_9, HB⟩ := hcut
    cases kq with
    | zero => exact absurd HA.out (by simp [laws_FnExactPatchOf.j0])
    | succ kj10 =>
     have H := HA.out
     clear HA
     simp only [laws_FnExactPatchOf.j0] at H
     by_cases c28 : x48_10 = true
     ·subst c28
      have H1 : (some false) = some r := by rw [if_pos rfl] at H; exact H
      clear H
      have H := H1
      clear H1
      obtain rfl := Option.some.inj H
      go_wp2
      go_ret
      exact ⟨eE, (by first | exact below_step HB00.out (lU) | exact (lU))⟩
     ·replace c28 := Bool.eq_false_iff.mpr c28
      subst c28
      have H1 : ((laws_toByteS.f kj10 l0).bind fun t215 => ((laws_eqByteS.f kj10 t204 t215).bind fun t218 => (if t218 = true then ((laws_toByteS.f kj10 l1).bind fun t219 => ((laws_eqByteS.f kj10 t207 t219).bind fun t222 => (if t222 = true then ((laws_markByteS.f kj10 t204 1).bind fun bt223 => ((laws_markByteS.f kj10 t207 bt223.1).bind fun bt225 => (if bt225.1 < 0 then (laws_FnExactPatchOf.j1 kj10 l0 l1 t200 t201 t210 true) else ((laws_eqChunkS.f kj10 t210 t200).bind fun t227 => (if t227 = true then (laws_FnExactPatchOf.j1 kj10 l0 l1 t200 t201 t210 (t211 != t201)) else (laws_FnExactPatchOf.j1 kj10 l0 l1 t200 t201 t210 true)))))) else (some false)))) else (some false)))) = some r := by rw [if_neg (show ¬ (false = true) by decide)] at H; exact H
      clear H
      have H := H1
      clear H1
      replace H := Option.bind_eq_some_iff.mp H
      obtain ⟨t215, A290, H⟩ := H
      replace H : ((laws_eqByteS.f kj10 t204 t215).bind fun t218 => (if t218 = true then ((laws_toByteS.f kj10 l1).bind fun t219 => ((laws_eqByteS.f kj10 t207 t219).bind fun t222 => (if t222 = true then ((laws_markByteS.f kj10 t204 1).bind fun bt223 => ((laws_markByteS.f kj10 t207 bt223.1).bind fun bt225 => (if bt225.1 < 0 then (laws_FnExactPatchOf.j1 kj10 l0 l1 t200 t201 t210 true) else ((laws_eqChunkS.f kj10 t210 t200).bind fun t227 => (if t227 = true then (laws_FnExactPatchOf.j1 kj10 l0 l1 t200 t201 t210 (t211 != t201)) else (laws_FnExactPatchOf.j1 kj10 l0 l1 t200 t201 t210 true)))))) else (some false)))) else (some false))) = some r := H
      have A29 := Aside0.mk A290
      clear A290
      replace H := Option.bind_eq_some_iff.mp H
      obtain ⟨t218, A300, H⟩ := H
      replace H : (if t218 = true then ((laws_toByteS.f kj10 l1).bind fun t219 => ((laws_eqByteS.f kj10 t207 t219).bind fun t222 => (if t222 = true then ((laws_markByteS.f kj10 t204 1).bind fun bt223 => ((laws_markByteS.f kj10 t207 bt223.1).bind fun bt225 => (if bt225.1 < 0 then (laws_FnExactPatchOf.j1 kj10 l0 l1 t200 t201 t210 true) else ((laws_eqChunkS.f kj10 t210 t200).bind fun t227 => (if t227 = true then (laws_FnExactPatchOf.j1 kj10 l0 l1 t200 t201 t210 (t211 != t201)) else (laws_FnExactPatchOf.j1 kj10 l0 l1 t200 t201 t210 true)))))) else (some false)))) else (some false)) = some r := H
      have A30 := Aside0.mk A300
      clear A300
      by_cases c31 : t218 = true
      ·subst c31
       have H1 : ((laws_toByteS.f kj10 l1).bind fun t219 => ((laws_eqByteS.f kj10 t207 t219).bind fun t222 => (if t222 = true then ((laws_markByteS.f kj10 t204 1).bind fun bt223 => ((laws_markByteS.f kj10 t207 bt223.1).bind fun bt225 => (if bt225.1 < 0 then (laws_FnExactPatchOf.j1 kj10 l0 l1 t200 t201 t210 true) else ((laws_eqChunkS.f kj10 t210 t200).bind fun t227 => (if t227 = true then (laws_FnExactPatchOf.j1 kj10 l0 l1 t200 t201 t210 (t211 != t201)) else (laws_FnExactPatchOf.j1 kj10 l0 l1 t200 t201 t210 true)))))) else (some false)))) = some r := by rw [if_pos rfl] at H; exact H
       clear H
       have H := H1
       clear H1
       replace H := Option.bind_eq_some_iff.mp H
       obtain ⟨t219, A320, H⟩ := H
       replace H : ((laws_eqByteS.f kj10 t207 t219).bind fun t222 => (if t222 = true then ((laws_markByteS.f kj10 t204 1).bind fun bt223 => ((laws_markByteS.f kj10 t207 bt223.1).bind fun bt225 => (if bt225.1 < 0 then (laws_FnExactPatchOf.j1 kj10 l0 l1 t200 t201 t210 true) else ((laws_eqChunkS.f kj10 t210 t200).bind fun t227 => (if t227 = true then (laws_FnExactPatchOf.j1 kj10 l0 l1 t200 t201 t210 (t211 != t201)) else (laws_FnExactPatchOf.j1 kj10 l0 l1 t200 t201 t210 true)))))) else (some false))) = some r := H
       have A32 := Aside0.mk A320
       clear A320
       replace H := Option.bind_eq_some_iff.mp H
       obtain ⟨t222, A330, H⟩ := H
       replace H : (if t222 = true then ((laws_markByteS.f kj10 t204 1).bind fun bt223 => ((laws_markByteS.f kj10 t207 bt223.1).bind fun bt225 => (if bt225.1 < 0 then (laws_FnExactPatchOf.j1 kj10 l0 l1 t200 t201 t210 true) else ((laws_eqChunkS.f kj10 t210 t200).bind fun t227 => (if t227 = true then (laws_FnExactPatchOf.j1 kj10 l0 l1 t200 t201 t210 (t211 != t201)) else (laws_FnExactPatchOf.j1 kj10 l0 l1 t200 t201 t210 true)))))) else (some false)) = some r := H
       have A33 := Aside0.mk A330
       clear A330
       by_cases c34 : t222 = true
       ·subst c34
        have H1 : ((laws_markByteS.f kj10 t204 1).bind fun bt223 => ((laws_markByteS.f kj10 t207 bt223.1).bind fun bt225 => (if bt225.1 < 0 then (laws_FnExactPatchOf.j1 kj10 l0 l1 t200 t201 t210 true) else ((laws_eqChunkS.f kj10 t210 t200).bind fun t227 => (if t227 = true then (laws_FnExactPatchOf.j1 kj10 l0 l1 t200 t201 t210 (t211 != t201)) else (laws_FnExactPatchOf.j1 kj10 l0 l1 t200 t201 t210 true)))))) = some r := by rw [if_pos rfl] at H; exact H
        clear H
        have H := H1
        clear H1
        replace H := Option.bind_eq_some_iff.mp H
        obtain ⟨⟨t223, t224⟩, A350, H⟩ := H
        replace H : ((laws_markByteS.f kj10 t207 t223).bind fun bt225 => (if bt225.1 < 0 then (laws_FnExactPatchOf.j1 kj10 l0 l1 t200 t201 t210 true) else ((laws_eqChunkS.f kj10 t210 t200).bind fun t227 => (if t227 = true then (laws_FnExactPatchOf.j1 kj10 l0 l1 t200 t201 t210 (t211 != t201)) else (laws_FnExactPatchOf.j1 kj10 l0 l1 t200 t201 t210 true))))) = some r := H
        have A35 := Aside0.mk A350
        clear A350
        replace H := Option.bind_eq_some_iff.mp H
        obtain ⟨⟨t225, t226⟩, A360, H⟩ := H
        replace H : (if t225 < 0 then (laws_FnExactPatchOf.j1 kj10 l0 l1 t200 t201 t210 true) else ((laws_eqChunkS.f kj10 t210 t200).bind fun t227 => (if t227 = true then (laws_FnExactPatchOf.j1 kj10 l0 l1 t200 t201 t210 (t211 != t201)) else (laws_FnExactPatchOf.j1 kj10 l0 l1 t200 t201 t210 true)))) = some r := H
        have A36 := Aside0.mk A360
        clear A360
        have HC37 := Aside0.mk H
        clear H
        go_upto_region 18 with (first | ((with_reducible refine gate_callee (f := 7) rfl ?_); refine goesL_ (some 51) rfl rfl Try.func7 (by kernel_rfl) rfl #[.slice A0 l0.length c0] rfl aE ?_; (with_reducible refine (laws_toByteS.calls kj10 _ _ l0 t215 _ ?side1 ?side2 A29.out).mono ?_); (case side1 => exact cU (Kd.C_below HR0.out HB.out)); (case side2 => exact HC0.out); rintro e w38 ⟨v216, rfl, ho0, hb⟩; refine ⟨_, rfl, ?_⟩; replace HO_9 := Aside0.mk (Kd.S_elder' (by (with_reducible repeat (first | apply Kd.S_alloc | apply Kd.S_drewN | apply Kd.S_drew)); exact HO_9.out) (Kd.R_base ho0) hb); have HO217 := Aside0.mk (Kd.R_lower (Kd.R_new' (Kd.R_new' ho0 (Kd.R_lt (rU HO_7.out))) (Kd.R_lt (rU HO_8.out))) (below_size (lU))); replace HO_7 := Aside0.mk (Kd.R_elder' (rU HO_7.out) (Kd.R_base ho0) hb); replace HO_8 := Aside0.mk (Kd.R_elder' (rU HO_8.out) (Kd.R_base ho0) hb); replace HB := bH (lU) hb; (try clear hb); (try clear ho0); obtain ⟨Ao39, co39, eo39⟩ := Kd.R_slice HO217.out; subst eo39) | ((with_reducible refine gate_callee (f := 10) rfl ?_); refine goesL_ (some 52) rfl rfl Try.func10 (by kernel_rfl) rfl #[.slice Ao19 t204.length co19, .slice Ao39 t215.length co39] rfl aE ?_; (with_reducible refine (laws_eqByteS.calls kj10 _ _ t204 _ _ t215 true _ ?side1 ?side2 ?side3 ?side4 A30.out).mono ?_); (case side1 => exact cU (Kd.R_reads' HO_7.out).2.2); (case side2 => exact (Kd.R_reads' HO_7.out).2.1); (case side3 => exact cU (Kd.R_reads' HO217.out).2.2); (case side4 => exact (Kd.R_reads' HO217.out).2.1); rintro e w' ⟨rfl, ⟨nd, rfl⟩⟩; refine ⟨_, rfl, ?_⟩) | ((with_reducible refine gate_callee (f := 7) rfl ?_); refine goesL_ (some 56) rfl rfl Try.func7 (by kernel_rfl) rfl #[.slice A1 l1.length c1] rfl aE ?_; (with_reducible refine (laws_toByteS.calls kj10 _ _ l1 t219 _ ?side1 ?side2 A32.out).mono ?_); (case side1 => exact cU (Kd.C_below HR1.out (lU))); (case side2 => exact HC1.out); rintro e w40 ⟨v220, rfl, ho0, hb⟩; refine ⟨_, rfl, ?_⟩; replace HO_9 := Aside0.mk (Kd.S_elder' (by (with_reducible repeat (first | apply Kd.S_alloc | apply Kd.S_drewN | apply Kd.S_drew)); exact HO_9.out) (Kd.R_base ho0) hb); have HO221 := Aside0.mk (Kd.R_lower (Kd.R_new' (Kd.R_new' (Kd.R_new' ho0 (Kd.R_lt (rU HO_7.out))) (Kd.R_lt (rU HO_8.out))) (Kd.R_lt (rU HO217.out))) (below_size (lU))); replace HO_7 := Aside0.mk (Kd.R_elder' (rU HO_7.out) (Kd.R_base ho0) hb); replace HO_8 := Aside0.mk (Kd.R_elder' (rU HO_8.out) (Kd.R_base ho0) hb); replace HO217 := Aside0.mk (Kd.R_elder' (rU HO217.out) (Kd.R_base ho0) hb); replace HB := bH (lU) hb; (try clear hb); (try clear ho0); obtain ⟨Ao41, co41, eo41⟩ := Kd.R_slice HO221.out; subst eo41) | ((with_reducible refine gate_callee (f := 10) rfl ?_); refine goesL_ (some 57) rfl rfl Try.func10 (by kernel_rfl) rfl #[.slice Ao20 t207.length co20, .slice Ao41 t219.length co41] rfl aE ?_; (with_reducible refine (laws_eqByteS.calls kj10 _ _ t207 _ _ t219 true _ ?side1 ?side2 ?side3 ?side4 A33.out).mono ?_); (case side1 => exact cU (Kd.R_reads' HO_8.out).2.2); (case side2 => exact (Kd.R_reads' HO_8.out).2.1); (case side3 => exact cU (Kd.R_reads' HO221.out).2.2); (case side4 => exact (Kd.R_reads' HO221.out).2.1); rintro e w' ⟨rfl, ⟨nd, rfl⟩⟩; refine ⟨_, rfl, ?_⟩) | ((with_reducible refine gate_callee (f := 11) rfl ?_); refine goesL_ (some 61) rfl rfl Try.func11 (by kernel_rfl) rfl #[.slice Ao19 t204.length co19, .int .i64 1] rfl aE ?_; (with_reducible refine (laws_markByteS.calls kj10 (fun k_ => some k_ = (.slice Ao19 t204.length co19 : Value).ownBlock) (.slice Ao19 t204.length co19) t204 1 t223 t224 w _ ?side1 ?side2 A35.out).mono ?_); (case side1 => repeat (first | (with_reducible first | exact HB.out | apply below_alloc | apply pw_below_drewN | apply below_drew1) | exact HB.out)); (case side2 => exact Kd.R_tight rfl HO_7.out); rintro e w42 ⟨rfl, hy0, hb, hkp⟩; refine ⟨_, rfl, ?_⟩; replace HO_7 := Aside0.mk (Kd.R_reok rfl hy0 (fun k_ e_ => HO_7.out.1 k_ e_)); replace HO_8 := Aside0.mk (Kd.R_mono (ok' := fun k_ => some k_ ≠ (.slice Ao19 t204.length co19 : Value).ownBlock ∧ some k_ ≠ (.slice Ao39 t215.length co39 : Value).ownBlock ∧ some k_ ≠ (.slice Ao41 t219.length co41 : Value).ownBlock) (Kd.R_keptB (HO_8.out) hkp (fun k_ hk_ hs_ => (hk_.1.1) hs_)) (fun k_ hk_ => ⟨hk_.1.1.1, hk_.1.1.2, hk_.1.2⟩)); replace HO_9 := Aside0.mk (Kd.S_mono (ok' := fun k_ => some k_ ≠ (.slice Ao19 t204.length co19 : Value).ownBlock ∧ some k_ ≠ (.slice Ao20 t207.length co20 : Value).ownBlock ∧ some k_ ≠ (.slice Ao39 t215.length co39 : Value).ownBlock ∧ some k_ ≠ (.slice Ao41 t219.length co41 : Value).ownBlock) (Kd.S_keptB (HO_9.out) hkp (fun k_ hk_ hs_ => (hk_.1.1.1) hs_)) (fun k_ hk_ => ⟨hk_.1.1.1.1, hk_.1.1.1.2, hk_.1.1.2, hk_.1.2⟩)); replace HO217 := Aside0.mk (Kd.R_mono (ok' := fun k_ => some k_ ≠ (.slice Ao19 t204.length co19 : Value).ownBlock ∧ some k_ ≠ (.slice Ao20 t207.length co20 : Value).ownBlock ∧ some k_ ≠ (.slice Ao41 t219.length co41 : Value).ownBlock) (Kd.R_keptB (HO217.out) hkp (fun k_ hk_ hs_ => (hk_.1.1.2) hs_)) (fun k_ hk_ => ⟨hk_.1.1.1.2, hk_.1.1.2, hk_.1.2⟩)); replace HO221 := Aside0.mk (Kd.R_mono (ok' := fun k_ => some k_ ≠ (.slice Ao19 t204.length co19 : Value).ownBlock ∧ some k_ ≠ (.slice Ao20 t207.length co20 : Value).ownBlock ∧ some k_ ≠ (.slice Ao39 t215.length co39 : Value).ownBlock) (Kd.R_keptB (HO221.out) hkp (fun k_ hk_ hs_ => (hk_.1.1.2) hs_)) (fun k_ hk_ => ⟨hk_.1.1.1.2, hk_.1.1.2, hk_.1.2⟩)); replace HB := Aside0.mk hb; (try clear hb); (try clear hkp); (try clear hg_); (try clear hp_); (try clear hy0)) | ((with_reducible refine gate_callee (f := 11) rfl ?_); refine goesL_ (some 64) rfl rfl Try.func11 (by kernel_rfl) rfl #[.slice Ao20 t207.length co20, .int .i64 t223] rfl aE ?_; (with_reducible refine (laws_markByteS.calls kj10 (fun k_ => some k_ = (.slice Ao20 t207.length co20 : Value).ownBlock) (.slice Ao20 t207.length co20) t207 t223 t225 t226 w _ ?side1 ?side2 A36.out).mono ?_); (case side1 => repeat (first | (with_reducible first | exact HB.out | apply below_alloc | apply pw_below_drewN | apply below_drew1) | exact HB.out)); (case side2 => exact Kd.R_tight rfl HO_8.out); rintro e w43 ⟨rfl, hy0, hb, hkp⟩; refine ⟨_, rfl, ?_⟩; replace HO_7 := Aside0.mk (Kd.R_mono (ok' := fun k_ => some k_ ≠ (.slice Ao20 t207.length co20 : Value).ownBlock ∧ some k_ ≠ (.slice Ao39 t215.length co39 : Value).ownBlock ∧ some k_ ≠ (.slice Ao41 t219.length co41 : Value).ownBlock) (Kd.R_keptB (HO_7.out) hkp (fun k_ hk_ hs_ => (hk_.1.1) hs_)) (fun k_ hk_ => ⟨hk_.1.1.1, hk_.1.1.2, hk_.1.2⟩)); replace HO_8 := Aside0.mk (Kd.R_reok rfl hy0 (fun k_ e_ => HO_8.out.1 k_ e_)); replace HO_9 := Aside0.mk (Kd.S_mono (ok' := fun k_ => some k_ ≠ (.slice Ao19 t204.length co19 : Value).ownBlock ∧ some k_ ≠ (.slice Ao20 t207.length co20 : Value).ownBlock ∧ some k_ ≠ (.slice Ao39 t215.length co39 : Value).ownBlock ∧ some k_ ≠ (.slice Ao41 t219.length co41 : Value).ownBlock) (Kd.S_keptB (HO_9.out) hkp (fun k_ hk_ hs_ => (hk_.2.1) hs_)) (fun k_ hk_ => ⟨hk_.1.1, hk_.1.2.1, hk_.1.2.2.1, hk_.1.2.2.2⟩)); replace HO217 := Aside0.mk (Kd.R_mono (ok' := fun k_ => some k_ ≠ (.slice Ao19 t204.length co19 : Value).ownBlock ∧ some k_ ≠ (.slice Ao20 t207.length co20 : Value).ownBlock ∧ some k_ ≠ (.slice Ao41 t219.length co41 : Value).ownBlock) (Kd.R_keptB (HO217.out) hkp (fun k_ hk_ hs_ => (hk_.2.1) hs_)) (fun k_ hk_ => ⟨hk_.1.1, hk_.1.2.1, hk_.1.2.2⟩)); replace HO221 := Aside0.mk (Kd.R_mono (ok' := fun k_ => some k_ ≠ (.slice Ao19 t204.length co19 : Value).ownBlock ∧ some k_ ≠ (.slice Ao20 t207.length co20 : Value).ownBlock ∧ some k_ ≠ (.slice Ao39 t215.length co39 : Value).ownBlock) (Kd.R_keptB (HO221.out) hkp (fun k_ hk_ hs_ => (hk_.2.1) hs_)) (fun k_ hk_ => ⟨hk_.1.1, hk_.1.2.1, hk_.1.2.2⟩)); replace HB := Aside0.mk hb; (try clear hb); (try clear hkp); (try clear hg_); (try clear hp_); (try clear hy0)))
        (try simp only [Act.put, List.setIfInBounds_toArray, List.set_cons_zero, List.set_cons_succ])
        go_cut [77] (fun v77 wc => ∃ (kq : Nat) (x77_36 : Bool), v77 = .bool x77_36 ∧ Aside0 (laws_FnExactPatchOf.j1 kq l0 l1 t200 t201 t210 x77_36 = some r) ∧ Aside0 (kq ≤ kj10) ∧ Aside0 (Kd.S k62 62 wc w.heap.size (fun _ => True) v212 t210) ∧ Aside0 (Below w.heap.size w wc))
        case first =>
         have H := HC37.out
         clear HC37
         by_cases c44 : t225 < 0
         ·rw [if_pos c44] at H
          have c44b0 : decide (t225 < 0) = true := decide_eq_true c44
          clear c44
          (first | rw [c44b0] | (simp only [i64_w, i32_w]; rw [c44b0]) | (rw [c44b2]; simp only [Bool.not_false, Bool.not_true]) | skip)
          have H' := Aside0.mk H
          clear H
          go_wp2
          go_meet
          case rel => exact ⟨_, (true), tE, H', ⟨by have := HJ10.out; first | omega | exact Nat.le_refl _⟩, ⟨by (with_reducible repeat (first | apply Kd.S_alloc | apply Kd.S_drewN | apply Kd.S_drew)); exact Kd.S_mono HO_9.out (fun _ hk => trivial)⟩, ⟨by repeat (first | (with_reducible first | exact HB.out | apply below_alloc | apply pw_below_drewN | apply below_drew1) | exact HB.out)⟩⟩
         ·rw [if_neg c44] at H
          have c44b0 : decide (t225 < 0) = false := decide_eq_false c44
          clear c44
          (first | rw [c44b0] | (simp only [i64_w, i32_w]; rw [c44b0]) | (rw [c44b2]; simp only [Bool.not_false, Bool.not_true]) | skip)
          replace H := Option.bind_eq_some_iff.mp H
          obtain ⟨t227, A450, H⟩ := H
          replace H : (if t227 = true then (laws_FnExactPatchOf.j1 kj10 l0 l1 t200 t201 t210 (t211 != t201)) else (laws_FnExactPatchOf.j1 kj10 l0 l1 t200 t201 t210 true)) = some r := H
          have A45 := Aside0.mk A450
          clear A450
          by_cases c46 : t227 = true
          ·subst c46
           have H1 : (laws_FnExactPatchOf.j1 kj10 l0 l1 t200 t201 t210 (t211 != t201)) = some r := by rw [if_pos rfl] at H; exact H
           clear H
           have H := H1
           clear H1
           have H' := Aside0.mk H
           clear H
           obtain ⟨Ao47, co47, eo47⟩ := Kd.S_slice HO_9.out
           subst eo47
           go_wp2_with (first | (go_at_call 9; (with_reducible refine (laws_eqChunkS.calls kj10 _ _ t210 _ _ t200 true _ ?side1 ?side2 ?side3 ?side4 A45.out).mono ?_); (case side1 => exact cU (Kd.S_reads' HO_9.out).2.2); (case side2 => exact (Kd.S_reads' HO_9.out).2.1); (case side3 => exact cU (Kd.C_below HR203.out HB.out)); (case side4 => exact HC203.out); rintro e w48 ⟨rfl, hb⟩; replace HO_7 := Aside0.mk (Kd.R_below (rU HO_7.out) hb); replace HO_8 := Aside0.mk (Kd.R_below (rU HO_8.out) hb); replace HO_9 := Aside0.mk (Kd.S_below (by (with_reducible repeat (first | apply Kd.S_alloc | apply Kd.S_drewN | apply Kd.S_drew)); exact HO_9.out) hb); replace HO217 := Aside0.mk (Kd.R_below (rU HO217.out) hb); replace HO221 := Aside0.mk (Kd.R_below (rU HO221.out) hb); replace HB := bH (lU) hb; (try clear hb)))
           go_meet
           case rel => exact ⟨_, ((t211 != t201)), tE, H', ⟨by have := HJ10.out; first | omega | exact Nat.le_refl _⟩, ⟨by (with_reducible repeat (first | apply Kd.S_alloc | apply Kd.S_drewN | apply Kd.S_drew)); exact Kd.S_mono HO_9.out (fun _ hk => trivial)⟩, ⟨by repeat (first | (with_reducible first | exact HB.out | apply below_alloc | apply pw_below_drewN | apply below_drew1) | exact HB.out)⟩⟩
          ·replace c46 := Bool.eq_false_iff.mpr c46
           subst c46
           have H1 : (laws_FnExactPatchOf.j1 kj10 l0 l1 t200 t201 t210 true) = some r := by rw [if_neg (show ¬ (false = true) by decide)] at H; exact H
           clear H
           have H := H1
           clear H1
           have H' := Aside0.mk H
           clear H
           obtain ⟨Ao49, co49, eo49⟩ := Kd.S_slice HO_9.out
           subst eo49
           go_wp2_with (first | (go_at_call 9; (with_reducible refine (laws_eqChunkS.calls kj10 _ _ t210 _ _ t200 false _ ?side1 ?side2 ?side3 ?side4 A45.out).mono ?_); (case side1 => exact cU (Kd.S_reads' HO_9.out).2.2); (case side2 => exact (Kd.S_reads' HO_9.out).2.1); (case side3 => exact cU (Kd.C_below HR203.out HB.out)); (case side4 => exact HC203.out); rintro e w50 ⟨rfl, hb⟩; replace HO_7 := Aside0.mk (Kd.R_below (rU HO_7.out) hb); replace HO_8 := Aside0.mk (Kd.R_below (rU HO_8.out) hb); replace HO_9 := Aside0.mk (Kd.S_below (by (with_reducible repeat (first | apply Kd.S_alloc | apply Kd.S_drewN | apply Kd.S_drew)); exact HO_9.out) hb); replace HO217 := Aside0.mk (Kd.R_below (rU HO217.out) hb); replace HO221 := Aside0.mk (Kd.R_below (rU HO221.out) hb); replace HB := bH (lU) hb; (try clear hb)))
           go_meet
           case rel => exact ⟨_, (true), tE, H', ⟨by have := HJ10.out; first | omega | exact Nat.le_refl _⟩, ⟨by (with_reducible repeat (first | apply Kd.S_alloc | apply Kd.S_drewN | apply Kd.S_drew)); exact Kd.S_mono HO_9.out (fun _ hk => trivial)⟩, ⟨by repeat (first | (with_reducible first | exact HB.out | apply below_alloc | apply pw_below_drewN | apply below_drew1) | exact HB.out)⟩⟩
        case rest =>
         clear HC37
         try clear c1
         try clear c2
         try clear p2
         try clear c3
         try clear c3b0
         try clear c3b1
         try clear c4
         try clear c4b0
         try clear c4b1
         try clear c6
         try clear c7
         try clear c8
         try clear c9
         try clear c10
         try clear c11
         try clear c20
         try clear c23
         try clear c28
         try clear c31
         try clear c34
         try clear c44
         try clear c44b0
         try clear c44b2
         try clear c46
         try clear p2
         obtain ⟨kq, x77_36, rfl, HA, HJ36, HO_9, HB⟩ := hcut
         cases kq with
         | zero => exact absurd HA.out (by simp [laws_FnExactPatchOf.j1])
         | succ kj36 =>
          have H := HA.out
          clear HA
          simp only [laws_FnExactPatchOf.j1] at H
          by_cases c51 : x77_36 = true
          ·subst c51
           have H1 : (some false) = some r := by rw [if_pos rfl] at H; exact H
           clear H
           have H := H1
           clear H1
           obtain rfl := Option.some.inj H
           go_wp2
           go_ret
           exact ⟨eE, (by first | exact below_step HB00.out (lU) | exact (lU))⟩
          ·replace c51 := Bool.eq_false_iff.mpr c51
           subst c51
           have H1 : ((laws_markChunkS.f kj36 t210 1).bind fun bt228 => ((laws_heldChunkS.f kj36 bt228.2 1).bind fun t230 => (if t230 < 0 then (some false) else (if t230 = bt228.1 then ((laws_toByteS.f kj36 l0).bind fun t231 => ((laws_toByteS.f kj36 l1).bind fun t234 => ((impl_PatchOf.f kj36 t231 t234).bind fun bt237 => ((laws_eqChunkS.f kj36 bt237.1 t200).bind fun t241 => (if t241 = true then (laws_FnExactPatchOf.j2 kj36 bt228.2 bt228.1 (bt237.2 != t201)) else (laws_FnExactPatchOf.j2 kj36 bt228.2 bt228.1 true)))))) else (some false))))) = some r := by rw [if_neg (show ¬ (false = true) by decide)] at H; exact H
           clear H
           have H := H1
           clear H1
           replace H := Option.bind_eq_some_iff.mp H
           obtain ⟨⟨t228, t229⟩, A520, H⟩ := H
           replace H : ((laws_heldChunkS.f kj36 t229 1).bind fun t230 => (if t230 < 0 then (some false) else (if t230 = t228 then ((laws_toByteS.f kj36 l0).bind fun t231 => ((laws_toByteS.f kj36 l1).bind fun t234 => ((impl_PatchOf.f kj36 t231 t234).bind fun bt237 => ((laws_eqChunkS.f kj36 bt237.1 t200).bind fun t241 => (if t241 = true then (laws_FnExactPatchOf.j2 kj36 t229 t228 (bt237.2 != t201)) else (laws_FnExactPatchOf.j2 kj36 t229 t228 true)))))) else (some false)))) = some r := H
           have A52 := Aside0.mk A520
           clear A520
           replace H := Option.bind_eq_some_iff.mp H
           obtain ⟨t230, A530, H⟩ := H
           replace H : (if t230 < 0 then (some false) else (if t230 = t228 then ((laws_toByteS.f kj36 l0).bind fun t231 => ((laws_toByteS.f kj36 l1).bind fun t234 => ((impl_PatchOf.f kj36 t231 t234).bind fun bt237 => ((laws_eqChunkS.f kj36 bt237.1 t200).bind fun t241 => (if t241 = true then (laws_FnExactPatchOf.j2 kj36 t229 t228 (bt237.2 != t201)) else (laws_FnExactPatchOf.j2 kj36 t229 t228 true)))))) else (some false))) = some r := H
           have A53 := Aside0.mk A530
           clear A530
           by_cases c54 : t230 < 0
           ·rw [if_pos c54] at H
            have c54b0 : decide (t230 < 0) = true := decide_eq_true c54
            clear c54
            obtain rfl := Option.some.inj H
            obtain ⟨Ao55, co55, eo55⟩ := Kd.S_slice HO_9.out
            subst eo55
            obtain ⟨PS56, hPS56, HPS56⟩ : ∃ PS_ : Nat → Prop, (∀ k_, PS_ k_ → (True) ∧ w.heap.size ≤ k_ ∧ k_ < wc.heap.size ∧ ∃ q_, q_ ∈ 62 :: (k62).E ∧ ∃ cells_, wc.heap[k_]? = some (.cells cells_ q_ (0, 0))) ∧ Kd.S k62 62 wc w.heap.size PS_ (.slice Ao55 t210.length co55) t210 := ⟨_, fun _ h_ => h_, Kd.S_bound HO_9.out⟩
            go_wp2_with (first | ((with_reducible refine gate_callee (f := 12) rfl ?_); refine goesL_ (some 80) rfl rfl Try.func12 (by kernel_rfl) rfl #[.slice Ao55 t210.length co55, .int .i64 1] rfl aE ?_; (with_reducible refine (laws_markChunkS.calls kj36 PS56 (.slice Ao55 t210.length co55) t210 1 t228 t229 w _ ?side1 ?side2 A52.out).mono ?_); (case side1 => repeat (first | (with_reducible first | exact HB.out | apply below_alloc | apply pw_below_drewN | apply below_drew1) | exact HB.out)); (case side2 => exact HPS56); rintro e w57 ⟨rfl, hy0, hb, hkp⟩; refine ⟨_, rfl, ?_⟩; replace HO_9 := Aside0.mk (Kd.S_mono (ok' := fun k_ => True) hy0 (fun k_ hk_ => Or.elim hk_ (fun hs_ => trivial) (fun hn_ => trivial))); replace HB := Aside0.mk hb; (try clear hb); (try clear hkp); (try clear hg_); (try clear hp_); (try clear hy0)) | ((with_reducible refine gate_callee (f := 13) rfl ?_); refine goesL_ (some 83) rfl rfl Try.func13 (by kernel_rfl) rfl #[.slice Ao55 t229.length co55, .int .i64 1] rfl (by (try simp only [List.map_toArray, List.map_cons, List.map_nil]); first | done | (rw [show t229.length = t210.length from (Kd.S_reads' HO_9.out).1.symm] <;> rfl) | rfl | (simp only [List.length_drop, List.length_take]; rfl)) ?_; (with_reducible refine (laws_heldChunkS.calls kj36 _ _ t229 1 t230 _ ?side1 ?side2 A53.out).mono ?_); (case side1 => exact cU (Kd.S_reads' HO_9.out).2.2); (case side2 => rw [show t229.length = t210.length from (Kd.S_reads' HO_9.out).1.symm]; exact (Kd.S_reads' HO_9.out).2.1); rintro e w' ⟨rfl, ⟨nd, rfl⟩⟩; refine ⟨_, rfl, ?_⟩))
            go_ret
            exact ⟨eE, (by first | exact below_step HB00.out (lU) | exact (lU))⟩
           ·rw [if_neg c54] at H
            have c54b0 : decide (t230 < 0) = false := decide_eq_false c54
            clear c54
            by_cases c58 : t230 = t228
            ·rw [if_pos c58] at H
             have c58b0 : (t230 == t228) = true := beq_iff_eq.mpr c58
             have c58b1 : (t230 != t228) = false := bne_eq_false_iff_eq.mpr c58
             clear c58
             replace H := Option.bind_eq_some_iff.mp H
             obtain ⟨t231, A590, H⟩ := H
             replace H : ((laws_toByteS.f kj36 l1).bind fun t234 => ((impl_PatchOf.f kj36 t231 t234).bind fun bt237 => ((laws_eqChunkS.f kj36 bt237.1 t200).bind fun t241 => (if t241 = true then (laws_FnExactPatchOf.j2 kj36 t229 t228 (bt237.2 != t201)) else (laws_FnExactPatchOf.j2 kj36 t229 t228 true))))) = some r := H
             have A59 := Aside0.mk A590
             clear A590
             replace H := Option.bind_eq_some_iff.mp H
             obtain ⟨t234, A600, H⟩ := H
             replace H : ((impl_PatchOf.f kj36 t231 t234).bind fun bt237 => ((laws_eqChunkS.f kj36 bt237.1 t200).bind fun t241 => (if t241 = true then (laws_FnExactPatchOf.j2 kj36 t229 t228 (bt237.2 != t201)) else (laws_FnExactPatchOf.j2 kj36 t229 t228 true)))) = some r := H
             have A60 := Aside0.mk A600
             clear A600
             replace H := Option.bind_eq_some_iff.mp H
             obtain ⟨⟨t237, t238⟩, A610, H⟩ := H
             replace H : ((laws_eqChunkS.f kj36 t237 t200).bind fun t241 => (if t241 = true then (laws_FnExactPatchOf.j2 kj36 t229 t228 (t238 != t201)) else (laws_FnExactPatchOf.j2 kj36 t229 t228 true))) = some r := H
             have A61 := Aside0.mk A610
             clear A610
             have HC62 := Aside0.mk H
             clear H
             obtain ⟨Ao63, co63, eo63⟩ := Kd.S_slice HO_9.out
             subst eo63
             obtain ⟨PS64, hPS64, HPS64⟩ : ∃ PS_ : Nat → Prop, (∀ k_, PS_ k_ → (True) ∧ w.heap.size ≤ k_ ∧ k_ < wc.heap.size ∧ ∃ q_, q_ ∈ 62 :: (k62).E ∧ ∃ cells_, wc.heap[k_]? = some (.cells cells_ q_ (0, 0))) ∧ Kd.S k62 62 wc w.heap.size PS_ (.slice Ao63 t210.length co63) t210 := ⟨_, fun _ h_ => h_, Kd.S_bound HO_9.out⟩
             go_upto_region 29 with (first | ((with_reducible refine gate_callee (f := 12) rfl ?_); refine goesL_ (some 80) rfl rfl Try.func12 (by kernel_rfl) rfl #[.slice Ao63 t210.length co63, .int .i64 1] rfl aE ?_; (with_reducible refine (laws_markChunkS.calls kj36 PS64 (.slice Ao63 t210.length co63) t210 1 t228 t229 w _ ?side1 ?side2 A52.out).mono ?_); (case side1 => repeat (first | (with_reducible first | exact HB.out | apply below_alloc | apply pw_below_drewN | apply below_drew1) | exact HB.out)); (case side2 => exact HPS64); rintro e w65 ⟨rfl, hy0, hb, hkp⟩; refine ⟨_, rfl, ?_⟩; replace HO_9 := Aside0.mk (Kd.S_mono (ok' := fun k_ => True) hy0 (fun k_ hk_ => Or.elim hk_ (fun hs_ => trivial) (fun hn_ => trivial))); replace HB := Aside0.mk hb; (try clear hb); (try clear hkp); (try clear hg_); (try clear hp_); (try clear hy0)) | ((with_reducible refine gate_callee (f := 13) rfl ?_); refine goesL_ (some 83) rfl rfl Try.func13 (by kernel_rfl) rfl #[.slice Ao63 t229.length co63, .int .i64 1] rfl (by (try simp only [List.map_toArray, List.map_cons, List.map_nil]); first | done | (rw [show t229.length = t210.length from (Kd.S_reads' HO_9.out).1.symm] <;> rfl) | rfl | (simp only [List.length_drop, List.length_take]; rfl)) ?_; (with_reducible refine (laws_heldChunkS.calls kj36 _ _ t229 1 t230 _ ?side1 ?side2 A53.out).mono ?_); (case side1 => exact cU (Kd.S_reads' HO_9.out).2.2); (case side2 => rw [show t229.length = t210.length from (Kd.S_reads' HO_9.out).1.symm]; exact (Kd.S_reads' HO_9.out).2.1); rintro e w' ⟨rfl, ⟨nd, rfl⟩⟩; refine ⟨_, rfl, ?_⟩) | ((with_reducible refine gate_callee (f := 7) rfl ?_); refine goesL_ (some 91) rfl rfl Try.func7 (by kernel_rfl) rfl #[.slice A0 l0.length c0] rfl aE ?_; (with_reducible refine (laws_toByteS.calls kj36 _ _ l0 t231 _ ?side1 ?side2 A59.out).mono ?_); (case side1 => exact cU (Kd.C_below HR0.out (lU))); (case side2 => exact HC0.out); rintro e w66 ⟨v232, rfl, ho0, hb⟩; refine ⟨_, rfl, ?_⟩; replace HO_9 := Aside0.mk (Kd.S_elder' (by (with_reducible repeat (first | apply Kd.S_alloc | apply Kd.S_drewN | apply Kd.S_drew)); exact HO_9.out) (Kd.R_base ho0) hb); have HO233 := Aside0.mk (Kd.R_lower ho0 (below_size (lU))); replace HB := bH (lU) hb; (try clear hb); (try clear ho0)) | ((with_reducible refine gate_callee (f := 7) rfl ?_); refine goesL_ (some 93) rfl rfl Try.func7 (by kernel_rfl) rfl #[.slice A1 l1.length c1] rfl aE ?_; (with_reducible refine (laws_toByteS.calls kj36 _ _ l1 t234 _ ?side1 ?side2 A60.out).mono ?_); (case side1 => exact cU (Kd.C_below HR1.out HB.out)); (case side2 => exact HC1.out); rintro e w67 ⟨v235, rfl, ho0, hb⟩; refine ⟨_, rfl, ?_⟩; replace HO_9 := Aside0.mk (Kd.S_elder' (by (with_reducible repeat (first | apply Kd.S_alloc | apply Kd.S_drewN | apply Kd.S_drew)); exact HO_9.out) (Kd.R_base ho0) hb); have HO236 := Aside0.mk (Kd.R_lower (Kd.R_new' ho0 (Kd.R_lt (rU HO233.out))) (below_size (lU))); replace HO233 := Aside0.mk (Kd.R_elder' (rU HO233.out) (Kd.R_base ho0) hb); replace HB := bH (lU) hb; (try clear hb); (try clear ho0); obtain ⟨Ao68, co68, eo68⟩ := Kd.R_slice HO233.out; subst eo68; obtain ⟨Ao69, co69, eo69⟩ := Kd.R_slice HO236.out; subst eo69) | ((with_reducible refine gate_callee (f := 8) rfl ?_); refine goesL_ (some 94) rfl rfl Try.func8 (by kernel_rfl) rfl #[.slice Ao68 t231.length co68, .slice Ao69 t234.length co69] rfl aE ?_; (with_reducible refine (impl_PatchOf.calls kj36 _ _ t231 _ _ t234 t237 t238 _ ?side1 ?side2 ?side3 ?side4 A61.out).mono ?_); (case side1 => exact cU (Kd.R_reads' HO233.out).2.2); (case side2 => exact (Kd.R_reads' HO233.out).2.1); (case side3 => exact cU (Kd.R_reads' HO236.out).2.2); (case side4 => exact (Kd.R_reads' HO236.out).2.1); rintro e w70 ⟨v239, rfl, ho0, hb⟩; refine ⟨_, rfl, ?_⟩; have HO240 := Aside0.mk (Kd.S_lower (Kd.S_new' (Kd.S_new' (Kd.S_new' ho0 (Kd.S_lt (by (with_reducible repeat (first | apply Kd.S_alloc | apply Kd.S_drewN | apply Kd.S_drew)); exact HO_9.out))) (Kd.R_lt (rU HO233.out))) (Kd.R_lt (rU HO236.out))) (below_size (lU))); replace HO_9 := Aside0.mk (Kd.S_elder' (by (with_reducible repeat (first | apply Kd.S_alloc | apply Kd.S_drewN | apply Kd.S_drew)); exact HO_9.out) (Kd.S_base ho0) hb); replace HO233 := Aside0.mk (Kd.R_below (rU HO233.out) hb); replace HO236 := Aside0.mk (Kd.R_below (rU HO236.out) hb); replace HB := bH (lU) hb; (try clear hb); (try clear ho0)))
             (try simp only [Act.put, List.setIfInBounds_toArray, List.set_cons_zero, List.set_cons_succ])
             go_cut [105] (fun v105 wc => ∃ (kq : Nat) (x105_61 : Bool), v105 = .bool x105_61 ∧ Aside0 (laws_FnExactPatchOf.j2 kq t229 t228 x105_61 = some r) ∧ Aside0 (kq ≤ kj36) ∧ Aside0 (Kd.S k62 62 wc w.heap.size (fun _ => True) (.slice Ao63 t210.length co63) t229) ∧ Aside0 (Below w.heap.size w wc))
             case first =>
              have H := HC62.out
              clear HC62
              replace H := Option.bind_eq_some_iff.mp H
              obtain ⟨t241, A710, H⟩ := H
              replace H : (if t241 = true then (laws_FnExactPatchOf.j2 kj36 t229 t228 (t238 != t201)) else (laws_FnExactPatchOf.j2 kj36 t229 t228 true)) = some r := H
              have A71 := Aside0.mk A710
              clear A710
              by_cases c72 : t241 = true
              ·subst c72
               have H1 : (laws_FnExactPatchOf.j2 kj36 t229 t228 (t238 != t201)) = some r := by rw [if_pos rfl] at H; exact H
               clear H
               have H := H1
               clear H1
               have H' := Aside0.mk H
               clear H
               obtain ⟨Ao73, co73, eo73⟩ := Kd.S_slice HO240.out
               subst eo73
               go_wp2_with (first | ((with_reducible refine gate_callee (f := 9) rfl ?_); refine goesL_ (some 99) rfl rfl Try.func9 (by kernel_rfl) rfl #[.slice Ao73 t237.length co73, .slice A203 t200.length c203] rfl aE ?_; (with_reducible refine (laws_eqChunkS.calls kj36 _ _ t237 _ _ t200 true _ ?side1 ?side2 ?side3 ?side4 A71.out).mono ?_); (case side1 => exact cU (Kd.S_reads' HO240.out).2.2); (case side2 => exact (Kd.S_reads' HO240.out).2.1); (case side3 => exact cU (Kd.C_below HR203.out HB.out)); (case side4 => exact HC203.out); rintro e w74 ⟨rfl, hb⟩; refine ⟨_, rfl, ?_⟩; replace HO_9 := Aside0.mk (Kd.S_below (by (with_reducible repeat (first | apply Kd.S_alloc | apply Kd.S_drewN | apply Kd.S_drew)); exact HO_9.out) hb); replace HO233 := Aside0.mk (Kd.R_below (rU HO233.out) hb); replace HO236 := Aside0.mk (Kd.R_below (rU HO236.out) hb); replace HO240 := Aside0.mk (Kd.S_below (by (with_reducible repeat (first | apply Kd.S_alloc | apply Kd.S_drewN | apply Kd.S_drew)); exact HO240.out) hb); replace HB := bH (lU) hb; (try clear hb)))
               go_meet
               case rel => exact ⟨_, ((t238 != t201)), tE, H', ⟨by have := HJ10.out; have := HJ36.out; first | omega | exact Nat.le_refl _⟩, ⟨by (with_reducible repeat (first | apply Kd.S_alloc | apply Kd.S_drewN | apply Kd.S_drew)); exact Kd.S_mono HO_9.out (fun _ hk => trivial)⟩, ⟨by repeat (first | (with_reducible first | exact HB.out | apply below_alloc | apply pw_below_drewN | apply below_drew1) | exact HB.out)⟩⟩
              ·replace c72 := Bool.eq_false_iff.mpr c72
               subst c72
               have H1 : (laws_FnExactPatchOf.j2 kj36 t229 t228 true) = some r := by rw [if_neg (show ¬ (false = true) by decide)] at H; exact H
               clear H
               have H := H1
               clear H1
               have H' := Aside0.mk H
               clear H
               obtain ⟨Ao75, co75, eo75⟩ := Kd.S_slice HO240.out
               subst eo75
               go_wp2_with (first | ((with_reducible refine gate_callee (f := 9) rfl ?_); refine goesL_ (some 99) rfl rfl Try.func9 (by kernel_rfl) rfl #[.slice Ao75 t237.length co75, .slice A203 t200.length c203] rfl aE ?_; (with_reducible refine (laws_eqChunkS.calls kj36 _ _ t237 _ _ t200 false _ ?side1 ?side2 ?side3 ?side4 A71.out).mono ?_); (case side1 => exact cU (Kd.S_reads' HO240.out).2.2); (case side2 => exact (Kd.S_reads' HO240.out).2.1); (case side3 => exact cU (Kd.C_below HR203.out HB.out)); (case side4 => exact HC203.out); rintro e w76 ⟨rfl, hb⟩; refine ⟨_, rfl, ?_⟩; replace HO_9 := Aside0.mk (Kd.S_below (by (with_reducible repeat (first | apply Kd.S_alloc | apply Kd.S_drewN | apply Kd.S_drew)); exact HO_9.out) hb); replace HO233 := Aside0.mk (Kd.R_below (rU HO233.out) hb); replace HO236 := Aside0.mk (Kd.R_below (rU HO236.out) hb); replace HO240 := Aside0.mk (Kd.S_below (by (with_reducible repeat (first | apply Kd.S_alloc | apply Kd.S_drewN | apply Kd.S_drew)); exact HO240.out) hb); replace HB := bH (lU) hb; (try clear hb)))
               go_meet
               case rel => exact ⟨_, (true), tE, H', ⟨by have := HJ10.out; have := HJ36.out; first | omega | exact Nat.le_refl _⟩, ⟨by (with_reducible repeat (first | apply Kd.S_alloc | apply Kd.S_drewN | apply Kd.S_drew)); exact Kd.S_mono HO_9.out (fun _ hk => trivial)⟩, ⟨by repeat (first | (with_reducible first | exact HB.out | apply below_alloc | apply pw_below_drewN | apply below_drew1) | exact HB.out)⟩⟩
             case rest =>
              clear HC62
              try clear c1
              try clear c2
              try clear p2
              try clear c3
              try clear c3b0
              try clear c3b1
              try clear c4
              try clear c4b0
              try clear c4b1
              try clear c5
              try clear c6
              try clear c7
              try clear c8
              try clear c9
              try clear c10
              try clear c11
              try clear c12
              try clear c13
              try clear c20
              try clear c23
              try clear c28
              try clear c31
              try clear c34
              try clear c44
              try clear c44b0
              try clear c44b2
              try clear c46
              try clear c51
              try clear c54
              try clear c54b0
              try clear c58
              try clear c58b0
              try clear c58b1
              try clear c72
              try clear p2
              obtain ⟨kq, x105_61, rfl, HA, HJ61, HO_9, HB⟩ := hcut
              have hl9_61 := (Kd.S_reads' HO_9.out).1
              rw [hl9_61] at HO_9
              (try simp only [hl9_61])
              cases kq with
              | zero => exact absurd HA.out (by simp [laws_FnExactPatchOf.j2])
              | succ kj61 =>
               have H := HA.out
               clear HA
               simp only [laws_FnExactPatchOf.j2] at H
               by_cases c77 : x105_61 = true
               ·subst c77
                have H1 : (some false) = some r := by rw [if_pos rfl] at H; exact H
                clear H
                have H := H1
                clear H1
                obtain rfl := Option.some.inj H
                go_wp2
                go_ret
                exact ⟨eE, (by first | exact below_step HB00.out (lU) | exact (lU))⟩
               ·replace c77 := Bool.eq_false_iff.mpr c77
                subst c77
                have H1 : ((laws_heldChunkS.f kj61 t229 1).bind fun t242 => (if t242 < 0 then (some false) else (if t242 = t228 then (some true) else (some false)))) = some r := by rw [if_neg (show ¬ (false = true) by decide)] at H; exact H
                clear H
                have H := H1
                clear H1
                replace H := Option.bind_eq_some_iff.mp H
                obtain ⟨t242, A780, H⟩ := H
                replace H : (if t242 < 0 then (some false) else (if t242 = t228 then (some true) else (some false))) = some r := H
                have A78 := Aside0.mk A780
                clear A780
                by_cases c79 : t242 < 0
                ·rw [if_pos c79] at H
                 have c79b0 : decide (t242 < 0) = true := decide_eq_true c79
                 clear c79
                 obtain rfl := Option.some.inj H
                 go_wp2_with (first | ((with_reducible refine gate_callee (f := 13) rfl ?_); refine goesL_ (some 108) rfl rfl Try.func13 (by kernel_rfl) rfl #[.slice Ao63 t229.length co63, .int .i64 1] rfl aE ?_; (with_reducible refine (laws_heldChunkS.calls kj61 _ _ t229 1 t242 _ ?side1 ?side2 A78.out).mono ?_); (case side1 => exact cU (Kd.S_reads' HO_9.out).2.2); (case side2 => exact (Kd.S_reads' HO_9.out).2.1); rintro e w' ⟨rfl, ⟨nd, rfl⟩⟩; refine ⟨_, rfl, ?_⟩))
                 go_ret
                 exact ⟨eE, (by first | exact below_step HB00.out (lU) | exact (lU))⟩
                ·rw [if_neg c79] at H
                 have c79b0 : decide (t242 < 0) = false := decide_eq_false c79
                 clear c79
                 by_cases c80 : t242 = t228
                 ·rw [if_pos c80] at H
                  have c80b0 : (t242 == t228) = true := beq_iff_eq.mpr c80
                  have c80b1 : (t242 != t228) = false := bne_eq_false_iff_eq.mpr c80
                  clear c80
                  obtain rfl := Option.some.inj H
                  go_wp2_with (first | ((with_reducible refine gate_callee (f := 13) rfl ?_); refine goesL_ (some 108) rfl rfl Try.func13 (by kernel_rfl) rfl #[.slice Ao63 t229.length co63, .int .i64 1] rfl aE ?_; (with_reducible refine (laws_heldChunkS.calls kj61 _ _ t229 1 t242 _ ?side1 ?side2 A78.out).mono ?_); (case side1 => exact cU (Kd.S_reads' HO_9.out).2.2); (case side2 => exact (Kd.S_reads' HO_9.out).2.1); rintro e w' ⟨rfl, ⟨nd, rfl⟩⟩; refine ⟨_, rfl, ?_⟩))
                  go_ret
                  exact ⟨eE, (by first | exact below_step HB00.out (lU) | exact (lU))⟩
                 ·rw [if_neg c80] at H
                  have c80b0 : (t242 == t228) = false := beq_eq_false_iff_ne.mpr c80
                  have c80b1 : (t242 != t228) = true := bne_iff_ne.mpr c80
                  obtain rfl := Option.some.inj H
                  go_wp2_with (first | ((with_reducible refine gate_callee (f := 13) rfl ?_); refine goesL_ (some 108) rfl rfl Try.func13 (by kernel_rfl) rfl #[.slice Ao63 t229.length co63, .int .i64 1] rfl aE ?_; (with_reducible refine (laws_heldChunkS.calls kj61 _ _ t229 1 t242 _ ?side1 ?side2 A78.out).mono ?_); (case side1 => exact cU (Kd.S_reads' HO_9.out).2.2); (case side2 => exact (Kd.S_reads' HO_9.out).2.1); rintro e w' ⟨rfl, ⟨nd, rfl⟩⟩; refine ⟨_, rfl, ?_⟩))
                  go_ret
                  exact ⟨eE, (by first | exact below_step HB00.out (lU) | exact (lU))⟩
            ·rw [if_neg c58] at H
             have c58b0 : (t230 == t228) = false := beq_eq_false_iff_ne.mpr c58
             have c58b1 : (t230 != t228) = true := bne_iff_ne.mpr c58
             obtain rfl := Option.some.inj H
             obtain ⟨Ao81, co81, eo81⟩ := Kd.S_slice HO_9.out
             subst eo81
             obtain ⟨PS82, hPS82, HPS82⟩ : ∃ PS_ : Nat → Prop, (∀ k_, PS_ k_ → (True) ∧ w.heap.size ≤ k_ ∧ k_ < wc.heap.size ∧ ∃ q_, q_ ∈ 62 :: (k62).E ∧ ∃ cells_, wc.heap[k_]? = some (.cells cells_ q_ (0, 0))) ∧ Kd.S k62 62 wc w.heap.size PS_ (.slice Ao81 t210.length co81) t210 := ⟨_, fun _ h_ => h_, Kd.S_bound HO_9.out⟩
             go_wp2_with (first | ((with_reducible refine gate_callee (f := 12) rfl ?_); refine goesL_ (some 80) rfl rfl Try.func12 (by kernel_rfl) rfl #[.slice Ao81 t210.length co81, .int .i64 1] rfl aE ?_; (with_reducible refine (laws_markChunkS.calls kj36 PS82 (.slice Ao81 t210.length co81) t210 1 t228 t229 w _ ?side1 ?side2 A52.out).mono ?_); (case side1 => repeat (first | (with_reducible first | exact HB.out | apply below_alloc | apply pw_below_drewN | apply below_drew1) | exact HB.out)); (case side2 => exact HPS82); rintro e w83 ⟨rfl, hy0, hb, hkp⟩; refine ⟨_, rfl, ?_⟩; replace HO_9 := Aside0.mk (Kd.S_mono (ok' := fun k_ => True) hy0 (fun k_ hk_ => Or.elim hk_ (fun hs_ => trivial) (fun hn_ => trivial))); replace HB := Aside0.mk hb; (try clear hb); (try clear hkp); (try clear hg_); (try clear hp_); (try clear hy0)) | ((with_reducible refine gate_callee (f := 13) rfl ?_); refine goesL_ (some 83) rfl rfl Try.func13 (by kernel_rfl) rfl #[.slice Ao81 t229.length co81, .int .i64 1] rfl (by (try simp only [List.map_toArray, List.map_cons, List.map_nil]); first | done | (rw [show t229.length = t210.length from (Kd.S_reads' HO_9.out).1.symm] <;> rfl) | rfl | (simp only [List.length_drop, List.length_take]; rfl)) ?_; (with_reducible refine (laws_heldChunkS.calls kj36 _ _ t229 1 t230 _ ?side1 ?side2 A53.out).mono ?_); (case side1 => exact cU (Kd.S_reads' HO_9.out).2.2); (case side2 => rw [show t229.length = t210.length from (Kd.S_reads' HO_9.out).1.symm]; exact (Kd.S_reads' HO_9.out).2.1); rintro e w' ⟨rfl, ⟨nd, rfl⟩⟩; refine ⟨_, rfl, ?_⟩))
             go_ret
             exact ⟨eE, (by first | exact below_step HB00.out (lU) | exact (lU))⟩
       ·replace c34 := Bool.eq_false_iff.mpr c34
        subst c34
        have H1 : (some false) = some r := by rw [if_neg (show ¬ (false = true) by decide)] at H; exact H
        clear H
        have H := H1
        clear H1
        obtain rfl := Option.some.inj H
        go_wp2_with (first | ((with_reducible refine gate_callee (f := 7) rfl ?_); refine goesL_ (some 51) rfl rfl Try.func7 (by kernel_rfl) rfl #[.slice A0 l0.length c0] rfl aE ?_; (with_reducible refine (laws_toByteS.calls kj10 _ _ l0 t215 _ ?side1 ?side2 A29.out).mono ?_); (case side1 => exact cU (Kd.C_below HR0.out HB.out)); (case side2 => exact HC0.out); rintro e w84 ⟨v216, rfl, ho0, hb⟩; refine ⟨_, rfl, ?_⟩; replace HO_9 := Aside0.mk (Kd.S_elder' (by (with_reducible repeat (first | apply Kd.S_alloc | apply Kd.S_drewN | apply Kd.S_drew)); exact HO_9.out) (Kd.R_base ho0) hb); have HO217 := Aside0.mk (Kd.R_lower (Kd.R_new' (Kd.R_new' ho0 (Kd.R_lt (rU HO_7.out))) (Kd.R_lt (rU HO_8.out))) (below_size (lU))); replace HO_7 := Aside0.mk (Kd.R_elder' (rU HO_7.out) (Kd.R_base ho0) hb); replace HO_8 := Aside0.mk (Kd.R_elder' (rU HO_8.out) (Kd.R_base ho0) hb); replace HB := bH (lU) hb; (try clear hb); (try clear ho0); obtain ⟨Ao85, co85, eo85⟩ := Kd.R_slice HO217.out; subst eo85) | ((with_reducible refine gate_callee (f := 10) rfl ?_); refine goesL_ (some 52) rfl rfl Try.func10 (by kernel_rfl) rfl #[.slice Ao19 t204.length co19, .slice Ao85 t215.length co85] rfl aE ?_; (with_reducible refine (laws_eqByteS.calls kj10 _ _ t204 _ _ t215 true _ ?side1 ?side2 ?side3 ?side4 A30.out).mono ?_); (case side1 => exact cU (Kd.R_reads' HO_7.out).2.2); (case side2 => exact (Kd.R_reads' HO_7.out).2.1); (case side3 => exact cU (Kd.R_reads' HO217.out).2.2); (case side4 => exact (Kd.R_reads' HO217.out).2.1); rintro e w' ⟨rfl, ⟨nd, rfl⟩⟩; refine ⟨_, rfl, ?_⟩) | ((with_reducible refine gate_callee (f := 7) rfl ?_); refine goesL_ (some 56) rfl rfl Try.func7 (by kernel_rfl) rfl #[.slice A1 l1.length c1] rfl aE ?_; (with_reducible refine (laws_toByteS.calls kj10 _ _ l1 t219 _ ?side1 ?side2 A32.out).mono ?_); (case side1 => exact cU (Kd.C_below HR1.out (lU))); (case side2 => exact HC1.out); rintro e w86 ⟨v220, rfl, ho0, hb⟩; refine ⟨_, rfl, ?_⟩; replace HO_9 := Aside0.mk (Kd.S_elder' (by (with_reducible repeat (first | apply Kd.S_alloc | apply Kd.S_drewN | apply Kd.S_drew)); exact HO_9.out) (Kd.R_base ho0) hb); have HO221 := Aside0.mk (Kd.R_lower (Kd.R_new' (Kd.R_new' (Kd.R_new' ho0 (Kd.R_lt (rU HO_7.out))) (Kd.R_lt (rU HO_8.out))) (Kd.R_lt (rU HO217.out))) (below_size (lU))); replace HO_7 := Aside0.mk (Kd.R_elder' (rU HO_7.out) (Kd.R_base ho0) hb); replace HO_8 := Aside0.mk (Kd.R_elder' (rU HO_8.out) (Kd.R_base ho0) hb); replace HO217 := Aside0.mk (Kd.R_elder' (rU HO217.out) (Kd.R_base ho0) hb); replace HB := bH (lU) hb; (try clear hb); (try clear ho0); obtain ⟨Ao87, co87, eo87⟩ := Kd.R_slice HO221.out; subst eo87) | ((with_reducible refine gate_callee (f := 10) rfl ?_); refine goesL_ (some 57) rfl rfl Try.func10 (by kernel_rfl) rfl #[.slice Ao20 t207.length co20, .slice Ao87 t219.length co87] rfl aE ?_; (with_reducible refine (laws_eqByteS.calls kj10 _ _ t207 _ _ t219 false _ ?side1 ?side2 ?side3 ?side4 A33.out).mono ?_); (case side1 => exact cU (Kd.R_reads' HO_8.out).2.2); (case side2 => exact (Kd.R_reads' HO_8.out).2.1); (case side3 => exact cU (Kd.R_reads' HO221.out).2.2); (case side4 => exact (Kd.R_reads' HO221.out).2.1); rintro e w' ⟨rfl, ⟨nd, rfl⟩⟩; refine ⟨_, rfl, ?_⟩))
        go_ret
        exact ⟨eE, (by first | exact below_step HB00.out (lU) | exact (lU))⟩
      ·replace c31 := Bool.eq_false_iff.mpr c31
       subst c31
       have H1 : (some false) = some r := by rw [if_neg (show ¬ (false = true) by decide)] at H; exact H
       clear H
       have H := H1
       clear H1
       obtain rfl := Option.some.inj H
       go_wp2_with (first | ((with_reducible refine gate_callee (f := 7) rfl ?_); refine goesL_ (some 51) rfl rfl Try.func7 (by kernel_rfl) rfl #[.slice A0 l0.length c0] rfl aE ?_; (with_reducible refine (laws_toByteS.calls kj10 _ _ l0 t215 _ ?side1 ?side2 A29.out).mono ?_); (case side1 => exact cU (Kd.C_below HR0.out HB.out)); (case side2 => exact HC0.out); rintro e w88 ⟨v216, rfl, ho0, hb⟩; refine ⟨_, rfl, ?_⟩; replace HO_9 := Aside0.mk (Kd.S_elder' (by (with_reducible repeat (first | apply Kd.S_alloc | apply Kd.S_drewN | apply Kd.S_drew)); exact HO_9.out) (Kd.R_base ho0) hb); have HO217 := Aside0.mk (Kd.R_lower (Kd.R_new' (Kd.R_new' ho0 (Kd.R_lt (rU HO_7.out))) (Kd.R_lt (rU HO_8.out))) (below_size (lU))); replace HO_7 := Aside0.mk (Kd.R_elder' (rU HO_7.out) (Kd.R_base ho0) hb); replace HO_8 := Aside0.mk (Kd.R_elder' (rU HO_8.out) (Kd.R_base ho0) hb); replace HB := bH (lU) hb; (try clear hb); (try clear ho0); obtain ⟨Ao89, co89, eo89⟩ := Kd.R_slice HO217.out; subst eo89) | ((with_reducible refine gate_callee (f := 10) rfl ?_); refine goesL_ (some 52) rfl rfl Try.func10 (by kernel_rfl) rfl #[.slice Ao19 t204.length co19, .slice Ao89 t215.length co89] rfl aE ?_; (with_reducible refine (laws_eqByteS.calls kj10 _ _ t204 _ _ t215 false _ ?side1 ?side2 ?side3 ?side4 A30.out).mono ?_); (case side1 => exact cU (Kd.R_reads' HO_7.out).2.2); (case side2 => exact (Kd.R_reads' HO_7.out).2.1); (case side3 => exact cU (Kd.R_reads' HO217.out).2.2); (case side4 => exact (Kd.R_reads' HO217.out).2.1); rintro e w' ⟨rfl, ⟨nd, rfl⟩⟩; refine ⟨_, rfl, ?_⟩))
       go_ret
       exact ⟨eE, (by first | exact below_step HB00.out (lU) | exact (lU))⟩
def laws_FnExactPatchOf.Pure : Prop := ∀ (l0 : List Int) (l1 : List Int), l0.length ≤ maxLen → l0.length * 1 ≤ 140737488351232 → (∀ x ∈ l0, (Lit.int .u8 x).wf = true) → l1.length ≤ maxLen → l1.length * 1 ≤ 140737488351232 → (∀ x ∈ l1, (Lit.int .u8 x).wf = true) → ∃ k, laws_FnExactPatchOf.f k l0 l1 = some true
end Go.Proofs.Ytcpodjegdpbalaa.PFnExactPatchOf
namespace Go.Proofs.YtcpodjegdpbalaaO
open Go.ChangeShapes Go.WideShapes Go.Proofs.YtcpodjegdpbalaaW.PrintWords Go.RowKit
def InU8 (n : Int) : Prop := 0 ≤ n ∧ n ≤ 255
def Opens {α : Type} (P : Program) (t : TypeId) (d : Kd α) (g : α → Prop) : Prop :=
  ∀ {H : Type} (enc : TypeId × Value → H) (w : World) (fuel : Nat) (cs : List Value) (y : DataW H) (ps : List MemPlace),
    DataW.trod enc P w 0 (fun _ => true) true fuel t cs = some (y, ps) → (∀ n ∈ y.weights P t, n ≤ reachBytes) → ∃ x, d.K w x cs ∧ g x
theorem Opens.imp {α : Type} {P : Program} {t : TypeId} {d : Kd α} {g g' : α → Prop} (h : Opens P t d g) (k : ∀ x, g x → g' x) : Opens P t d g' := by
  intro H enc w fuel cs y ps ht hw
  obtain ⟨x, hx, hg⟩ := h enc w fuel cs y ps ht hw
  exact ⟨x, hx, k x hg⟩
theorem opens_int {P : Program} {t : TypeId} {k : IntKind} (ht : P.underlying t = some (.int k)) : Opens P t (Kd.int k) (fun n => (Lit.int k n).wf = true) := by
  intro H enc w fuel cs y ps h _
  obtain ⟨n, rfl, _, hw⟩ := DataW.trod_int ht h
  exact ⟨n, rfl, hw⟩
theorem wf_u8 {n : Int} (h : (Lit.int .u8 n).wf = true) : InU8 n := bounds_u8 h
theorem opens_u8 {P : Program} {t : TypeId} (ht : P.underlying t = some (.int .u8)) : Opens P t (Kd.int .u8) InU8 := Opens.imp (opens_int ht) fun _ h => wf_u8 h
theorem exists_list {α : Type} (p : Nat → α → Prop) : ∀ n : Nat, (∀ i, i < n → ∃ x, p i x) → ∃ xs : List α, xs.length = n ∧ ∀ i x, xs[i]? = some x → p i x
  | 0, _ => ⟨[], rfl, fun i x h => by simp at h⟩
  | n + 1, h => by
    obtain ⟨xs, hl, hx⟩ := exists_list p n (fun i hi => h i (by omega))
    obtain ⟨x, hp⟩ := h n (by omega)
    refine ⟨xs ++ [x], by simp [hl], fun i y hy => ?_⟩
    rcases Nat.lt_or_ge i xs.length with hi | hi
    · rw [List.getElem?_append_left hi] at hy
      exact hx i y hy
    · have : i = n := by
        have := (List.getElem?_eq_some_iff.1 hy).1
        rw [List.length_append, List.length_singleton] at this
        omega
      subst this
      rw [List.getElem?_append_right hi] at hy
      rw [hl] at hy
      simp at hy
      subst hy
      exact hp
theorem add_add (ad : Addr) (i j : Nat) : (ad.add i).add j = ad.add (i + j) := by
  unfold Addr.add
  by_cases h1 : i = 0 <;> by_cases h2 : j = 0 <;> simp [h1, h2, Nat.add_assoc]
theorem weightsAll_mem {H : Type} {P : Program} {e : TypeId} : ∀ {l : List (DataW H)} {d : DataW H}, d ∈ l → ∀ n ∈ d.weights P e, n ∈ DataW.weightsAll P e l
  | [], d, h, _, _ => by simp at h
  | x :: r, d, h, n, hn => by
    simp only [DataW.weightsAll, List.mem_append]
    rcases List.mem_cons.1 h with rfl | h
    · exact .inl hn
    · exact .inr (weightsAll_mem h n hn)
theorem opens_slice {α : Type} {P : Program} {t e : TypeId} {d : Kd α} {g : α → Prop} {B : Nat} (ht : P.underlying t = some (.slice e)) (hs : P.cellsOf e = d.sz) (hB : P.bytesOf e = B) (h : Opens P e d g) :
    Opens P t (Kd.slice e d) (fun xs => xs.length * B ≤ 140737488351232 ∧ ∀ x ∈ xs, g x) := by
  intro H enc w fuel cs y ps hy hw
  rcases DataW.trod_slice ht hy with ⟨rfl, _⟩ | ⟨a, len, cap, elems, rest, n, rfl, rfl, hx, _, hlc, hcm, hel, hget, _, _⟩
  · exact ⟨[], ⟨none, 0, rfl, Nat.le_refl _, Kd.C_nil d w⟩, by simp⟩
  · obtain ⟨rfl, _⟩ := Prod.mk.inj hx
    simp only [DataW.weights, ht] at hw
    have hlen : len * B ≤ 140737488351232 := by
      have := hw _ List.mem_cons_self
      simp only [List.length_map, hB] at this
      have h2 : len * B ≤ (elems.length + rest.length) * B := Nat.mul_le_mul_right _ (by omega)
      exact Nat.le_trans h2 this
    have key : ∀ i, i < len → ∃ x, (∃ c, c.length = d.sz ∧ d.K w x c ∧ ∀ j u, c[j]? = some u → w.cell? (a.add (i * d.sz + j)) = some u) ∧ g x := by
      intro i hi
      have hg := hget i hi
      rw [List.getElem?_eq_getElem (by omega), Option.bind_eq_some_iff] at hg
      obtain ⟨c, hc, hd⟩ := hg
      obtain ⟨_, hcl, hcell⟩ := World.cells?_some hc
      obtain ⟨x, hK, hgx⟩ := h enc w n c _ _ hd (fun m hm => hw m (List.mem_cons_of_mem _ (List.mem_append_left _ (weightsAll_mem (List.mem_map_of_mem (List.getElem_mem _)) m hm))))
      refine ⟨x, ⟨c, hcl.trans hs, hK, fun j u hj => ?_⟩, hgx⟩
      have hjl : j < P.cellsOf e := by
        have := (List.getElem?_eq_some_iff.1 hj).1
        omega
      have := hcell j hjl
      rw [add_add, hj, hs] at this
      exact this
    obtain ⟨xs, hxl, hxs⟩ := exists_list _ len key
    refine ⟨xs, ⟨some a, cap, by rw [hxl], by omega, hxl ▸ ⟨hxl, by simp only [maxLen] at hcm; omega, fun _ => ⟨a, rfl, fun j p hp => (hxs j p hp).1⟩⟩⟩, by rw [hxl]; exact hlen, fun x hx => ?_⟩
    obtain ⟨i, hi, rfl⟩ := List.getElem_of_mem hx
    exact (hxs i _ (List.getElem?_eq_getElem hi)).2
theorem weights_of {H : Type} {P : Program} {ts : List TypeId} {ds : List (DataW H)} {j : Nat} {t : TypeId} {d : DataW H} (hsz : (DataW.weightsEach P ts ds).all (· ≤ reachBytes) = true) (ht : ts[j]? = some t) (hd : ds[j]? = some d) : ∀ n ∈ d.weights P t, n ≤ reachBytes := by
  intro n hn
  have := List.all_eq_true.1 hsz n (DataW.weights_mem_each ht hd n hn)
  simpa using this
theorem open_slice {α H : Type} {enc : TypeId × Value → H} {P : Program} {W : World} {t e : TypeId} {d : Kd α} {g : List α → Prop} {a : Option Addr} {len cap : Nat} {y : DataW H} {ps : List MemPlace} (h : Opens P t (Kd.slice e d) g)
    (hy : DataW.Trod enc P W 0 (fun _ => true) true t (.slice a len cap) y ps) (hw : ∀ n ∈ y.weights P t, n ≤ reachBytes) : ∃ xs : List α, len = xs.length ∧ xs.length ≤ cap ∧ d.C W a xs.length xs ∧ g xs := by
  obtain ⟨fuel, hf⟩ := hy
  obtain ⟨xs, ⟨A, c, he, hl, hC⟩, hg⟩ := h enc W fuel _ y ps hf hw
  have he' : Value.slice a len cap = .slice A xs.length c := by simpa [Value.cells] using he
  injection he' with h1 h2 h3
  subst h1 h2 h3
  exact ⟨xs, rfl, hl, hC, hg⟩
end Go.Proofs.YtcpodjegdpbalaaO
namespace Go.Proofs.Ytcpodjegdpbalaa.OFnExactPatchOf
open Go.RowKit Go.Proofs.Ytcpodjegdpbalaa.PFnExactPatchOf Go.Proofs.YtcpodjegdpbalaaW.PrintWords Go.Proofs.YtcpodjegdpbalaaO
end Go.Proofs.Ytcpodjegdpbalaa.OFnExactPatchOf
namespace Go.Proofs.YtcpodjegdpbalaaO
open Go.RowKit Go.Proofs.YtcpodjegdpbalaaW.PrintWords Go.Proofs.YtcpodjegdpbalaaW.PrintLast Go.Proofs.YtcpodjegdpbalaaW.PrintMore
theorem w64 {n : Int} (h : -9223372036854775808 ≤ n) (k : n ≤ 9223372036854775807) : wrap64 n = n := by unfold wrap64; omega
theorem w64s (i : Nat) (h : i < 4611686018427387904) : wrap64 ((i : Int) + 1) = ((i + 1 : Nat) : Int) := by unfold wrap64; omega
theorem ev_some {α : Type} {x r : α} (h : x = r) : Ev (fun _ => some x) r := ⟨0, fun _ _ => by rw [h]⟩
theorem ev_pos {α : Type} {c : Prop} [Decidable c] {f g : Nat → Option α} {r : α} (h : c) (k : Ev f r) : Ev (fun n => if c then f n else g n) r := by
  obtain ⟨K, hK⟩ := k
  exact ⟨K, fun n hn => (if_pos h).trans (hK n hn)⟩
theorem ev_neg {α : Type} {c : Prop} [Decidable c] {f g : Nat → Option α} {r : α} (h : ¬ c) (k : Ev g r) : Ev (fun n => if c then f n else g n) r := by
  obtain ⟨K, hK⟩ := k
  exact ⟨K, fun n hn => (if_neg h).trans (hK n hn)⟩
theorem ev_ite {α : Type} {c : Prop} [Decidable c] {f g : Nat → Option α} {r : α} (h : c → Ev f r) (k : ¬ c → Ev g r) : Ev (fun n => if c then f n else g n) r := by
  by_cases hc : c
  · exact ev_pos hc (h hc)
  · exact ev_neg hc (k hc)
theorem ev_bindc {α β : Type} {x : Option α} {f : Nat → α → Option β} {a : α} {r : β} (h : x = some a) (k : Ev (fun n => f n a) r) : Ev (fun n => x.bind (f n)) r := by
  subst h; exact k
theorem ev_for {σ ρ : Type} (n : Nat) (L : Nat → Nat → σ → Option ρ) (I : Nat → σ → Prop) (Q : ρ → Prop)
    (hend : ∀ s, I n s → ∃ r, Ev (fun k => L k n s) r ∧ Q r)
    (hstep : ∀ i s, i < n → I i s → (∃ r, Ev (fun k => L k i s) r ∧ Q r) ∨ ∃ s', I (i + 1) s' ∧ ∀ r, Ev (fun k => L k (i + 1) s') r → Ev (fun k => L k i s) r) :
    ∀ i s, i ≤ n → I i s → ∃ r, Ev (fun k => L k i s) r ∧ Q r := by
  have key : ∀ d i s, i + d = n → I i s → ∃ r, Ev (fun k => L k i s) r ∧ Q r := by
    intro d
    induction d with
    | zero => intro i s hi h; obtain rfl : i = n := by omega
              exact hend s h
    | succ d ih =>
      intro i s hi h
      rcases hstep i s (by omega) h with h' | ⟨s', hI, hr⟩
      · exact h'
      · obtain ⟨r, hr', hQ⟩ := ih (i + 1) s' (by omega) hI
        exact ⟨r, hr r hr', hQ⟩
  intro i s hi h
  exact key (n - i) i s (by omega) h
theorem ev_for1 {σ ρ : Type} (n : Nat) (L : Nat → Nat → σ → Option ρ) (I : Nat → σ → Prop) (a : ρ)
    (hend : ∀ s, I n s → Ev (fun k => L k n s) a)
    (hstep : ∀ i s, i < n → I i s → Ev (fun k => L k i s) a ∨ ∃ s', I (i + 1) s' ∧ ∀ r, Ev (fun k => L k (i + 1) s') r → Ev (fun k => L k i s) r) :
    ∀ i s, i ≤ n → I i s → Ev (fun k => L k i s) a := by
  intro i s hi h
  obtain ⟨r, hr, rfl⟩ := ev_for n L I (fun r => r = a) (fun s hs => ⟨a, hend s hs, rfl⟩) (fun i s hi hs => (hstep i s hi hs).imp (fun h => ⟨a, h, rfl⟩) id) i s hi h
  exact hr
theorem rd_get {xs : List Int} {i : Nat} (h : i < xs.length) : rd xs (i : Int) = xs[i] := by simp [rd, List.getD_eq_getElem?_getD, h]
theorem getD_get {α : Type} {d : α} {xs : List α} {i : Nat} (h : i < xs.length) : xs.getD (i : Int).toNat d = xs[i] := by simp [List.getD_eq_getElem?_getD, h]
theorem ev_copy {α β : Type} (L : Nat → List α → List β → Int → Option (List β)) (e : Nat → List α → Int → Option β) (g : α → β)
    (hL : ∀ k xs ys i, L (k + 1) xs ys i = if i < (xs.length : Int) then (if 0 ≤ i then (if i < (ys.length : Int) then ((e k xs i).bind fun v => L k xs (ys.set (i : Int).toNat v) (wrap64 (i + 1))) else none) else none) else some ys)
    (xs : List α) (hx : xs.length < 4611686018427387904) (he : ∀ i : Nat, ∀ h : i < xs.length, Ev (fun k => e k xs (i : Int)) (g xs[i])) (ys : List β) (hy : ys.length = xs.length) :
    Ev (fun k => L k xs ys 0) (xs.map g) := by
  refine ev_for1 xs.length (fun k i ys => L k xs ys (i : Int)) (fun i ys => ys.length = xs.length ∧ ∀ j, j < i → ys[j]? = (xs.map g)[j]?) (xs.map g) ?_ ?_ 0 ys (Nat.zero_le _) ⟨hy, fun j hj => by omega⟩
  · intro ys ⟨hl, h⟩
    refine Ev.step (fun k => hL k xs ys _) (ev_neg (by omega) (ev_some ?_))
    apply List.ext_getElem?
    intro j
    rcases Nat.lt_or_ge j xs.length with hj | hj
    · exact h j hj
    · rw [List.getElem?_eq_none (by omega), List.getElem?_eq_none (by simpa using hj)]
  · intro i ys hi ⟨hl, h⟩
    refine .inr ⟨ys.set i (g xs[i]), ⟨by simpa using hl, fun j hj => ?_⟩, fun r hr => ?_⟩
    · rcases Nat.lt_or_ge j i with hji | hji
      · rw [List.getElem?_set_ne (by omega)]
        exact h j hji
      · obtain rfl : j = i := by omega
        rw [List.getElem?_set_self (by omega), List.getElem?_map, List.getElem?_eq_getElem hi]
        rfl
    · refine Ev.step (fun k => hL k xs ys _) (ev_pos (by omega) (ev_pos (by omega) (ev_pos (by omega) (Ev.bind (he i hi) ?_))))
      rw [w64s i (by omega)]
      exact hr
theorem ev_alike {α β : Type} (L : Nat → List α → List β → Int → Option Bool) (e : Nat → List α → List β → Int → Option Bool) (g : α → β → Bool)
    (hL : ∀ k xs ys i, L (k + 1) xs ys i = if i < (xs.length : Int) then (if 0 ≤ i then (if i < (ys.length : Int) then ((e k xs ys i).bind fun v => if v = true then L k xs ys (wrap64 (i + 1)) else some false) else none) else none) else some true)
    (xs : List α) (ys : List β) (hx : xs.length < 4611686018427387904) (hy : ys.length = xs.length) (he : ∀ i : Nat, ∀ (h : i < xs.length) (h' : i < ys.length), Ev (fun k => e k xs ys (i : Int)) (g xs[i] ys[i]))
    (b : Bool) (hb : b = true ↔ ∀ i : Nat, ∀ (h : i < xs.length) (h' : i < ys.length), g xs[i] ys[i] = true) :
    Ev (fun k => L k xs ys 0) b := by
  refine ev_for1 xs.length (fun k i (_ : Unit) => L k xs ys (i : Int)) (fun i _ => ∀ j, j < i → ∀ (h : j < xs.length) (h' : j < ys.length), g xs[j] ys[j] = true) b ?_ ?_ 0 () (Nat.zero_le _) (fun j hj => by omega)
  · intro _ h
    refine Ev.step (fun k => hL k xs ys _) (ev_neg (by omega) (ev_some ?_))
    exact (hb.2 fun i hi hi' => h i hi hi hi').symm
  · intro i _ hi h
    have hi' : i < ys.length := by omega
    by_cases hg : g xs[i] ys[i] = true
    · refine .inr ⟨(), fun j hj h1 h2 => ?_, fun r hr => ?_⟩
      · rcases Nat.lt_or_ge j i with hji | hji
        · exact h j hji h1 h2
        · obtain rfl : j = i := by omega
          exact hg
      · refine Ev.step (fun k => hL k xs ys _) (ev_pos (by omega) (ev_pos (by omega) (ev_pos (by omega) (Ev.bind (he i hi hi') (ev_pos hg ?_)))))
        rw [w64s i (by omega)]
        exact hr
    · refine .inl (Ev.step (fun k => hL k xs ys _) (ev_pos (by omega) (ev_pos (by omega) (ev_pos (by omega) (Ev.bind (he i hi hi') (ev_neg hg (ev_some ?_)))))))
      cases b with
      | false => rfl
      | true => exact absurd (hb.1 rfl i hi hi') hg
theorem ev_alike_self {α : Type} (L : Nat → List α → List α → Int → Option Bool) (e : Nat → List α → List α → Int → Option Bool)
    (hL : ∀ k xs ys i, L (k + 1) xs ys i = if i < (xs.length : Int) then (if 0 ≤ i then (if i < (ys.length : Int) then ((e k xs ys i).bind fun v => if v = true then L k xs ys (wrap64 (i + 1)) else some false) else none) else none) else some true)
    (xs : List α) (hx : xs.length < 4611686018427387904) (he : ∀ i : Nat, ∀ (_ : i < xs.length), Ev (fun k => e k xs xs (i : Int)) true) :
    Ev (fun k => L k xs xs 0) true :=
  ev_alike L e (fun _ _ => true) hL xs xs hx rfl (fun i h _ => he i h) true ⟨fun _ _ _ _ => rfl, fun _ => rfl⟩
def Chain {α : Type} (E : α → Int → Int → Prop) : List α → Int → Int → Prop
  | [], c, d => c = d
  | x :: r, c, d => ∃ m, E x c m ∧ Chain E r m d
theorem Chain.snoc {α : Type} {E : α → Int → Int → Prop} : ∀ {l : List α} {c m d : Int} {x : α}, Chain E l c m → E x m d → Chain E (l ++ [x]) c d
  | [], _, _, _, _, h, k => by cases h; exact ⟨_, k, rfl⟩
  | _ :: _, _, _, _, _, ⟨q, h1, h2⟩, k => ⟨q, h1, Chain.snoc h2 k⟩
theorem Chain.le {α : Type} {E : α → Int → Int → Prop} (hm : ∀ x c d, E x c d → c ≤ d) : ∀ {l : List α} {c d : Int}, Chain E l c d → c ≤ d
  | [], _, _, h => Int.le_of_eq h
  | _ :: _, _, _, ⟨_, h1, h2⟩ => Int.le_trans (hm _ _ _ h1) (Chain.le hm h2)
theorem ev_mark {α : Type} (L : Nat → List α → Int → Nat → Option (Int × List α)) (E : α → Int → Int → Prop) (G : α → Prop) (W : Int) (hW : 0 ≤ W) (hW' : W ≤ 1099511627776)
    (hend : ∀ zs c, Ev (fun k => L k zs c zs.length) (c, zs))
    (hstep : ∀ zs c i, ∀ hi : i < zs.length, i < 1048576 → G zs[i] → 0 ≤ c → c ≤ 2305843009213693952 → ∃ x' c', E x' c c' ∧ c ≤ c' ∧ c' ≤ c + W ∧ ∀ r, Ev (fun k => L k (zs.set i x') c' (i + 1)) r → Ev (fun k => L k zs c i) r)
    (xs : List α) (hG : ∀ x ∈ xs, G x) (hl : xs.length ≤ 1048576) (c : Int) (hc0 : 0 ≤ c) (hc1 : c ≤ 1152921504606846976) :
    ∃ ys d, Chain E ys c d ∧ c ≤ d ∧ d ≤ c + W * xs.length ∧ ys.length = xs.length ∧ Ev (fun k => L k xs c 0) (d, ys) := by
  have key : ∀ n i : Nat, ∀ zs : List α, ∀ m : Int, i + n = xs.length → zs.length = xs.length → zs.drop i = xs.drop i → Chain E (zs.take i) c m → c ≤ m → m ≤ c + W * i →
      ∃ ys d, Chain E ys c d ∧ c ≤ d ∧ d ≤ c + W * xs.length ∧ ys.length = xs.length ∧ Ev (fun k => L k zs m i) (d, ys) := by
    intro n
    induction n with
    | zero =>
      intro i zs m hi hz hd hch h1 h2
      obtain rfl : i = zs.length := by omega
      rw [List.take_length] at hch
      rw [← hz]
      exact ⟨zs, m, hch, h1, h2, rfl, hend zs m⟩
    | succ n ih =>
      intro i zs m hi hz hd hch h1 h2
      have hlt : i < zs.length := by omega
      have hx : i < xs.length := by omega
      have hget : zs[i] = xs[i] := by
        have e1 := List.drop_eq_getElem_cons hlt
        have e2 := List.drop_eq_getElem_cons hx
        rw [hd, e2] at e1
        exact (List.cons.inj e1).1.symm
      have hWi : W * (i : Int) ≤ 1099511627776 * 1048576 := Int.mul_le_mul hW' (by omega) (by omega) (by omega)
      obtain ⟨x', c', hE, hc, hcW, hr⟩ := hstep zs m i hlt (by omega) (by rw [hget]; exact hG _ (List.getElem_mem hx)) (by omega) (by omega)
      obtain ⟨ys, d, g1, g2, g3, g4, g5⟩ := ih (i + 1) (zs.set i x') c' (by omega) (by simpa using hz) (by
          rw [List.drop_set_of_lt (by omega)]
          have e1 := List.drop_eq_getElem_cons hlt
          have e2 := List.drop_eq_getElem_cons hx
          rw [hd, e2] at e1
          exact (List.cons.inj e1).2.symm) (by
          rw [List.take_succ_eq_append_getElem (by simpa using hlt), List.take_set_of_le (Nat.le_refl i), List.getElem_set_self]
          exact Chain.snoc hch hE) (by omega) (by
          have : W * ((i + 1 : Nat) : Int) = W * i + W := by rw [Int.natCast_add, Int.mul_add]; simp
          omega)
      exact ⟨ys, d, g1, g2, g3, g4, hr _ g5⟩
  have := key xs.length 0 xs c (by omega) rfl rfl (by simp [Chain]) (Int.le_refl _) (by simp)
  exact this
theorem ev_held {α : Type} (H : Nat → List α → Int → Nat → Option Int) (E : α → Int → Int → Prop) (hm : ∀ x c d, E x c d → c ≤ d)
    (hend : ∀ ys c, Ev (fun k => H k ys c ys.length) c)
    (hstep : ∀ ys c c' i, ∀ hi : i < ys.length, i < 1048576 → E ys[i] c c' → 0 ≤ c → c' ≤ 2305843009213693952 → ∀ r, Ev (fun k => H k ys c' (i + 1)) r → Ev (fun k => H k ys c i) r)
    (ys : List α) (hl : ys.length ≤ 1048576) (c d : Int) (hc0 : 0 ≤ c) (hd : d ≤ 2305843009213693952) (h : Chain E ys c d) : Ev (fun k => H k ys c 0) d := by
  have key : ∀ n i : Nat, ∀ m : Int, i + n = ys.length → 0 ≤ m → Chain E (ys.drop i) m d → Ev (fun k => H k ys m i) d := by
    intro n
    induction n with
    | zero =>
      intro i m hi h0 hch
      obtain rfl : i = ys.length := by omega
      rw [List.drop_length] at hch
      obtain rfl : m = d := hch
      exact hend ys m
    | succ n ih =>
      intro i m hi h0 hch
      have hlt : i < ys.length := by omega
      rw [List.drop_eq_getElem_cons hlt] at hch
      obtain ⟨m', hE, hch⟩ := hch
      have h1 := hm _ _ _ hE
      exact hstep ys m m' i hlt (by omega) hE h0 (by have := Chain.le hm hch; omega) d (ih (i + 1) m' (by omega) (by omega) hch)
  exact key ys.length 0 c (by omega) hc0 h
end Go.Proofs.YtcpodjegdpbalaaO
namespace Go.Proofs.Ytcpodjegdpbalaa.Pure
open Go.RowKit Go.Proofs.Ytcpodjegdpbalaa.PFnExactPatchOf Go.Proofs.Ytcpodjegdpbalaa.OFnExactPatchOf Go.Proofs.YtcpodjegdpbalaaW.PrintWords Go.Proofs.YtcpodjegdpbalaaW.PrintLast Go.Proofs.YtcpodjegdpbalaaW.PrintMore Go.Proofs.YtcpodjegdpbalaaO
set_option linter.unusedVariables false
set_option linter.unusedSimpArgs false
theorem st_spec_PatchOf_j0 {r : ((List (S62)) × Bool)} {x0 : List Int} {x1 : List Int} {x20 : Bool} (h : Ev (fun k => if x20 = true then (some (([] : List (S62)), false)) else (spec_PatchOf.l0 k x0 x1 ([] : List (S62)) 0)) r) : Ev (fun k => spec_PatchOf.j0 k x0 x1 x20) r := Ev.step (fun k => by rw [spec_PatchOf.j0]) h
theorem st_spec_PatchOf_l0 {r : ((List (S62)) × Bool)} {x0 : List Int} {x1 : List Int} {x6 : List (S62)} {x7 : Int} (h : Ev (fun k => if x7 < (x1.length : Int) then (spec_PatchOf.l1 k x0 x1 x6 x7 0 0 (x0.length : Int) 0) else (some (x6, true))) r) : Ev (fun k => spec_PatchOf.l0 k x0 x1 x6 x7) r := Ev.step (fun k => by rw [spec_PatchOf.l0]) h
theorem st_spec_PatchOf_l1 {r : ((List (S62)) × Bool)} {x0 : List Int} {x1 : List Int} {x6 : List (S62)} {x7 : Int} {x8 : Int} {x9 : Int} {x26 : Int} {x27 : Int} (h : Ev (fun k => if x27 < x26 then (spec_PatchOf.l2 k x0 x1 x6 x7 x8 x9 x27 0 x26 x27) else (if x9 ≥ 4 then (if x6.length < 3518437208883 then (spec_PatchOf.l0 k x0 x1 (x6 ++ [(⟨x8, x9, ([] : List Int)⟩ : S62)]) (wrap64 (x7 + x9))) else (none)) else (if (x6.length : Int) > 0 then (if 0 ≤ (wrap64 ((x6.length : Int) - 1)) then (if (wrap64 ((x6.length : Int) - 1)) < (x6.length : Int) then (if (((rd_T62 x6 (wrap64 ((x6.length : Int) - 1))).f2).length : Int) > 0 then (if 0 ≤ x7 then (if x7 < (x1.length : Int) then (if ((rd_T62 x6 (wrap64 ((x6.length : Int) - 1))).f2).length < 140737488355328 then (spec_PatchOf.l0 k x0 x1 (x6.set ((wrap64 ((x6.length : Int) - 1)) : Int).toNat (⟨(rd_T62 x6 (wrap64 ((x6.length : Int) - 1))).f0, (rd_T62 x6 (wrap64 ((x6.length : Int) - 1))).f1, (((rd_T62 x6 (wrap64 ((x6.length : Int) - 1))).f2) ++ [rd x1 x7])⟩ : S62)) (wrap64 (x7 + 1))) else (none)) else (none)) else (none)) else (if 0 ≤ x7 then (if x7 < (x1.length : Int) then (if x6.length < 3518437208883 then (spec_PatchOf.l0 k x0 x1 (x6 ++ [(⟨0, 0, (([rd x1 x7] : List Int))⟩ : S62)]) (wrap64 (x7 + 1))) else (none)) else (none)) else (none))) else (none)) else (none)) else (if 0 ≤ x7 then (if x7 < (x1.length : Int) then (if x6.length < 3518437208883 then (spec_PatchOf.l0 k x0 x1 (x6 ++ [(⟨0, 0, (([rd x1 x7] : List Int))⟩ : S62)]) (wrap64 (x7 + 1))) else (none)) else (none)) else (none))))) r) : Ev (fun k => spec_PatchOf.l1 k x0 x1 x6 x7 x8 x9 x26 x27) r := Ev.step (fun k => by rw [spec_PatchOf.l1]) h
theorem st_spec_PatchOf_l2 {r : ((List (S62)) × Bool)} {x0 : List Int} {x1 : List Int} {x6 : List (S62)} {x7 : Int} {x8 : Int} {x9 : Int} {x10 : Int} {x11 : Int} {x26 : Int} {x27 : Int} (h : Ev (fun k => if (wrap64 (x10 + x11)) < (x0.length : Int) then (if (wrap64 (x7 + x11)) < (x1.length : Int) then (if 0 ≤ (wrap64 (x10 + x11)) then (if 0 ≤ (wrap64 (x7 + x11)) then (if (rd x0 (wrap64 (x10 + x11))) = (rd x1 (wrap64 (x7 + x11))) then (spec_PatchOf.l2 k x0 x1 x6 x7 x8 x9 x10 (wrap64 (x11 + 1)) x26 x27) else (if x11 > x9 then (spec_PatchOf.l1 k x0 x1 x6 x7 x10 x11 x26 (wrap64 (x27 + 1))) else (spec_PatchOf.l1 k x0 x1 x6 x7 x8 x9 x26 (wrap64 (x27 + 1))))) else (none)) else (none)) else (if x11 > x9 then (spec_PatchOf.l1 k x0 x1 x6 x7 x10 x11 x26 (wrap64 (x27 + 1))) else (spec_PatchOf.l1 k x0 x1 x6 x7 x8 x9 x26 (wrap64 (x27 + 1))))) else (if x11 > x9 then (spec_PatchOf.l1 k x0 x1 x6 x7 x10 x11 x26 (wrap64 (x27 + 1))) else (spec_PatchOf.l1 k x0 x1 x6 x7 x8 x9 x26 (wrap64 (x27 + 1))))) r) : Ev (fun k => spec_PatchOf.l2 k x0 x1 x6 x7 x8 x9 x10 x11 x26 x27) r := Ev.step (fun k => by rw [spec_PatchOf.l2]) h
theorem st_impl_longest_l0 {r : (Int × Int)} {x0 : List Int} {x1 : List Int} {x6 : Int} {x7 : Int} {x11 : Int} {x12 : Int} (h : Ev (fun k => if x12 < x11 then (impl_longest.l1 k x0 x1 x6 x7 x12 0 x11 x12) else (some (x6, x7))) r) : Ev (fun k => impl_longest.l0 k x0 x1 x6 x7 x11 x12) r := Ev.step (fun k => by rw [impl_longest.l0]) h
theorem st_impl_longest_l1 {r : (Int × Int)} {x0 : List Int} {x1 : List Int} {x6 : Int} {x7 : Int} {x8 : Int} {x9 : Int} {x11 : Int} {x12 : Int} (h : Ev (fun k => if (wrap64 (x8 + x9)) < (x0.length : Int) then (if x9 < (x1.length : Int) then (if 0 ≤ (wrap64 (x8 + x9)) then (if 0 ≤ x9 then (if (rd x0 (wrap64 (x8 + x9))) = (rd x1 x9) then (impl_longest.l1 k x0 x1 x6 x7 x8 (wrap64 (x9 + 1)) x11 x12) else (if x9 > x7 then (impl_longest.l0 k x0 x1 x8 x9 x11 (wrap64 (x12 + 1))) else (impl_longest.l0 k x0 x1 x6 x7 x11 (wrap64 (x12 + 1))))) else (none)) else (none)) else (if x9 > x7 then (impl_longest.l0 k x0 x1 x8 x9 x11 (wrap64 (x12 + 1))) else (impl_longest.l0 k x0 x1 x6 x7 x11 (wrap64 (x12 + 1))))) else (if x9 > x7 then (impl_longest.l0 k x0 x1 x8 x9 x11 (wrap64 (x12 + 1))) else (impl_longest.l0 k x0 x1 x6 x7 x11 (wrap64 (x12 + 1))))) r) : Ev (fun k => impl_longest.l1 k x0 x1 x6 x7 x8 x9 x11 x12) r := Ev.step (fun k => by rw [impl_longest.l1]) h
theorem st_impl_PatchOf_j0 {r : ((List (S62)) × Bool)} {x0 : List Int} {x1 : List Int} {x17 : Bool} (h : Ev (fun k => if x17 = true then (some (([] : List (S62)), false)) else (impl_PatchOf.l0 k x0 x1 (([] : List (S62))))) r) : Ev (fun k => impl_PatchOf.j0 k x0 x1 x17) r := Ev.step (fun k => by rw [impl_PatchOf.j0]) h
theorem st_impl_PatchOf_l0 {r : ((List (S62)) × Bool)} {x0 : List Int} {x1 : List Int} {x6 : List (S62)} (h : Ev (fun k => if (x1.length : Int) > 0 then ((impl_longest.f k x0 x1).bind fun bt137 => (if bt137.2 ≥ 4 then (if x6.length < 3518437208883 then (if 0 ≤ bt137.2 then (if bt137.2 ≤ (x1.length : Int) then (impl_PatchOf.l0 k x0 (x1.drop (bt137.2 : Int).toNat) (x6 ++ [(⟨bt137.1, bt137.2, ([] : List Int)⟩ : S62)])) else (none)) else (none)) else (none)) else (if (x6.length : Int) = 0 then (if x6.length < 3518437208883 then ((some (x6 ++ [(⟨0, 0, ([] : List Int)⟩ : S62)] : List (S62))).bind fun y143 => (if 0 ≤ (wrap64 ((y143.length : Int) - 1)) then (if (wrap64 ((y143.length : Int) - 1)) < (y143.length : Int) then (if 0 < (x1.length : Int) then (if ((rd_T62 y143 (wrap64 ((y143.length : Int) - 1))).f2).length < 140737488355328 then (if 1 ≤ (x1.length : Int) then (impl_PatchOf.l0 k x0 (x1.drop 1) (y143.set ((wrap64 ((y143.length : Int) - 1)) : Int).toNat (⟨(rd_T62 y143 (wrap64 ((y143.length : Int) - 1))).f0, (rd_T62 y143 (wrap64 ((y143.length : Int) - 1))).f1, (((rd_T62 y143 (wrap64 ((y143.length : Int) - 1))).f2) ++ [rd x1 0])⟩ : S62))) else (none)) else (none)) else (none)) else (none)) else (none))) else (none)) else (if 0 ≤ (wrap64 ((x6.length : Int) - 1)) then (if (wrap64 ((x6.length : Int) - 1)) < (x6.length : Int) then (if ((rd_T62 x6 (wrap64 ((x6.length : Int) - 1))).f1) > 0 then (if x6.length < 3518437208883 then ((some (x6 ++ [(⟨0, 0, ([] : List Int)⟩ : S62)] : List (S62))).bind fun y155 => (if 0 ≤ (wrap64 ((y155.length : Int) - 1)) then (if (wrap64 ((y155.length : Int) - 1)) < (y155.length : Int) then (if 0 < (x1.length : Int) then (if ((rd_T62 y155 (wrap64 ((y155.length : Int) - 1))).f2).length < 140737488355328 then (if 1 ≤ (x1.length : Int) then (impl_PatchOf.l0 k x0 (x1.drop 1) (y155.set ((wrap64 ((y155.length : Int) - 1)) : Int).toNat (⟨(rd_T62 y155 (wrap64 ((y155.length : Int) - 1))).f0, (rd_T62 y155 (wrap64 ((y155.length : Int) - 1))).f1, (((rd_T62 y155 (wrap64 ((y155.length : Int) - 1))).f2) ++ [rd x1 0])⟩ : S62))) else (none)) else (none)) else (none)) else (none)) else (none))) else (none)) else (if 0 < (x1.length : Int) then (if ((rd_T62 x6 (wrap64 ((x6.length : Int) - 1))).f2).length < 140737488355328 then (if 1 ≤ (x1.length : Int) then (impl_PatchOf.l0 k x0 (x1.drop 1) (x6.set ((wrap64 ((x6.length : Int) - 1)) : Int).toNat (⟨(rd_T62 x6 (wrap64 ((x6.length : Int) - 1))).f0, (rd_T62 x6 (wrap64 ((x6.length : Int) - 1))).f1, (((rd_T62 x6 (wrap64 ((x6.length : Int) - 1))).f2) ++ [rd x1 0])⟩ : S62))) else (none)) else (none)) else (none))) else (none)) else (none))))) else (some (x6, true))) r) : Ev (fun k => impl_PatchOf.l0 k x0 x1 x6) r := Ev.step (fun k => by rw [impl_PatchOf.l0]) h
theorem st_laws_markChunkS_l0 {r : (Int × (List (S62)))} {x0 : List (S62)} {x1 : Int} {x5 : Int} (h : Ev (fun k => if x5 < (x0.length : Int) then (if 0 ≤ x5 then ((some (x0.set (x5 : Int).toNat (⟨x1, (rd_T62 x0 x5).f1, (rd_T62 x0 x5).f2⟩ : S62) : List (S62))).bind fun y183 => ((some (y183.set (x5 : Int).toNat (⟨(rd_T62 y183 x5).f0, wrap64 (x1 + 1), (rd_T62 y183 x5).f2⟩ : S62) : List (S62))).bind fun y184 => ((laws_markByteS.f k ((rd_T62 y184 x5).f2) (wrap64 ((wrap64 (x1 + 1)) + 1))).bind fun bt186 => (laws_markChunkS.l0 k (y184.set (x5 : Int).toNat (⟨(rd_T62 y184 x5).f0, (rd_T62 y184 x5).f1, bt186.2⟩ : S62)) bt186.1 (wrap64 (x5 + 1)))))) else (none)) else (some (x1, x0))) r) : Ev (fun k => laws_markChunkS.l0 k x0 x1 x5) r := Ev.step (fun k => by rw [laws_markChunkS.l0]) h
theorem st_laws_heldChunkS_l0 {r : (Int)} {x0 : List (S62)} {x1 : Int} {x5 : Int} (h : Ev (fun k => if x5 < (x0.length : Int) then (if 0 ≤ x5 then (if ((rd_T62 x0 x5).f0) = x1 then (if ((rd_T62 x0 x5).f1) = (wrap64 (x1 + 1)) then ((laws_heldByteS.f k ((rd_T62 x0 x5).f2) (wrap64 ((wrap64 (x1 + 1)) + 1))).bind fun t193 => (if t193 < 0 then (some (-1)) else (laws_heldChunkS.l0 k x0 t193 (wrap64 (x5 + 1))))) else (some (-1))) else (some (-1))) else (none)) else (some x1)) r) : Ev (fun k => laws_heldChunkS.l0 k x0 x1 x5) r := Ev.step (fun k => by rw [laws_heldChunkS.l0]) h
theorem st_laws_FnExactPatchOf_j0 {r : (Bool)} {x0 : List Int} {x1 : List Int} {x5 : List (S62)} {x6 : Bool} {x7 : List Int} {x8 : List Int} {x9 : List (S62)} {x10 : Bool} {x48 : Bool} (h : Ev (fun k => if x48 = true then (some false) else ((laws_toByteS.f k x0).bind fun t215 => ((laws_eqByteS.f k x7 t215).bind fun t218 => (if t218 = true then ((laws_toByteS.f k x1).bind fun t219 => ((laws_eqByteS.f k x8 t219).bind fun t222 => (if t222 = true then ((laws_markByteS.f k x7 1).bind fun bt223 => ((laws_markByteS.f k x8 bt223.1).bind fun bt225 => (if bt225.1 < 0 then (laws_FnExactPatchOf.j1 k x0 x1 x5 x6 x9 true) else ((laws_eqChunkS.f k x9 x5).bind fun t227 => (if t227 = true then (laws_FnExactPatchOf.j1 k x0 x1 x5 x6 x9 (x10 != x6)) else (laws_FnExactPatchOf.j1 k x0 x1 x5 x6 x9 true)))))) else (some false)))) else (some false))))) r) : Ev (fun k => laws_FnExactPatchOf.j0 k x0 x1 x5 x6 x7 x8 x9 x10 x48) r := Ev.step (fun k => by rw [laws_FnExactPatchOf.j0]) h
theorem st_laws_FnExactPatchOf_j1 {r : (Bool)} {x0 : List Int} {x1 : List Int} {x5 : List (S62)} {x6 : Bool} {x9 : List (S62)} {x77 : Bool} (h : Ev (fun k => if x77 = true then (some false) else ((laws_markChunkS.f k x9 1).bind fun bt228 => ((laws_heldChunkS.f k bt228.2 1).bind fun t230 => (if t230 < 0 then (some false) else (if t230 = bt228.1 then ((laws_toByteS.f k x0).bind fun t231 => ((laws_toByteS.f k x1).bind fun t234 => ((impl_PatchOf.f k t231 t234).bind fun bt237 => ((laws_eqChunkS.f k bt237.1 x5).bind fun t241 => (if t241 = true then (laws_FnExactPatchOf.j2 k bt228.2 bt228.1 (bt237.2 != x6)) else (laws_FnExactPatchOf.j2 k bt228.2 bt228.1 true)))))) else (some false)))))) r) : Ev (fun k => laws_FnExactPatchOf.j1 k x0 x1 x5 x6 x9 x77) r := Ev.step (fun k => by rw [laws_FnExactPatchOf.j1]) h
theorem st_laws_FnExactPatchOf_j2 {r : (Bool)} {x9 : List (S62)} {x12 : Int} {x105 : Bool} (h : Ev (fun k => if x105 = true then (some false) else ((laws_heldChunkS.f k x9 1).bind fun t242 => (if t242 < 0 then (some false) else (if t242 = x12 then (some true) else (some false))))) r) : Ev (fun k => laws_FnExactPatchOf.j2 k x9 x12 x105) r := Ev.step (fun k => by rw [laws_FnExactPatchOf.j2]) h
theorem toByteS_ev (xs : List Int) (h : xs.length ≤ 1048576) : Ev (fun k => laws_toByteS.f k xs) xs := by
  refine ev_pos (by omega) (ev_pos (by omega) ?_)
  have := ev_copy laws_toByteS.l0 (fun _ xs i => some (rd xs i)) id (fun _ _ _ _ => rfl) xs (by omega) (fun i hi => ev_some (rd_get hi)) (List.replicate (((xs.length : Int) : Int).toNat) 0) (by simp)
  rwa [List.map_id] at this
theorem eqByteS_ev (xs : List Int) (h : xs.length ≤ 1048576) : Ev (fun k => laws_eqByteS.f k xs xs) true := by
  refine ev_pos rfl ?_
  refine ev_for1 xs.length (fun k i (_ : Unit) => laws_eqByteS.l0 k xs xs (i : Int)) (fun _ _ => True) true ?_ ?_ 0 () (Nat.zero_le _) trivial
  · intro _ _
    exact Ev.step (fun _ => rfl) (ev_neg (by omega) (ev_some rfl))
  · intro i _ hi _
    refine .inr ⟨(), trivial, fun r hr => Ev.step (fun _ => rfl) (ev_pos (by omega) (ev_pos (by omega) (ev_pos (by omega) ?_)))⟩
    rw [w64s i (by have := h; omega)]
    exact ev_pos rfl hr
def Fit62 (x : S62) : Prop := (x.f2.length ≤ 1048576)
theorem eqChunk_ev (a0 : Int) (a1 : Int) (l2 : List Int) (hl2 : l2.length ≤ 1048576) : Ev (fun k => laws_eqChunk.f k a0 a1 l2 a0 a1 l2) true := by
  unfold laws_eqChunk.f
  repeat (first | exact ev_some rfl | refine Ev.bind (eqByteS_ev l2 hl2) ?_ | refine ev_pos rfl ?_ | refine ev_neg (by simp) ?_)
theorem eqChunkS_ev (xs : List S62) (h : (xs.length ≤ 1048576 ∧ ∀ y ∈ xs, Fit62 y)) : Ev (fun k => laws_eqChunkS.f k xs xs) true := by
  refine ev_pos rfl (ev_alike_self laws_eqChunkS.l0 (fun k xs ys i => laws_eqChunk.f k ((rd_T62 xs i).f0) ((rd_T62 xs i).f1) ((rd_T62 xs i).f2) ((rd_T62 ys i).f0) ((rd_T62 ys i).f1) ((rd_T62 ys i).f2)) (fun _ _ _ _ => rfl) xs (by have := h.1; omega) (fun i hi => ?_))
  · have e : rd_T62 xs (i : Int) = xs[i] := getD_get hi
    rw [e]
    obtain hf0 := h.2 _ (List.getElem_mem hi)
    exact eqChunk_ev _ _ _ hf0
def MarkByteS (x : Int) (c d : Int) : Prop := x = (c) % 256 ∧ d = c + 1
theorem markByteS_ev (xs : List Int) (hl : xs.length ≤ 1048576) (c : Int) (hc0 : 0 ≤ c) (hc1 : c ≤ 1152921504606846976) :
    ∃ ys d, Chain MarkByteS ys c d ∧ c ≤ d ∧ d ≤ c + 1 * xs.length ∧ ys.length = xs.length ∧ Ev (fun k => laws_markByteS.f k xs c) (d, ys) := by
  refine ev_mark (fun k zs c i => laws_markByteS.l0 k zs c (i : Int)) MarkByteS (fun _ => True) 1 (by omega) (by omega) ?_ ?_ xs (fun _ _ => trivial) hl c hc0 hc1
  · intro zs c
    exact Ev.step (fun _ => rfl) (ev_neg (by omega) (ev_some rfl))
  · intro zs c i hi h20 _ h0 h1
    refine ⟨_, _, ⟨rfl, rfl⟩, by omega, by omega, fun r hr => Ev.step (fun _ => rfl) (ev_pos (by omega) (ev_pos (by omega) ?_))⟩
    simp only [Int.toNat_natCast, w64s i (by omega), w64 (n := c + 1) (by omega) (by omega)]
    exact hr
theorem heldByteS_ev (ys : List Int) (hl : ys.length ≤ 1048576) (c d : Int) (hc : 0 ≤ c) (hd : d ≤ 2305843009213693952) (h : Chain MarkByteS ys c d) : Ev (fun k => laws_heldByteS.f k ys c) d := by
  refine ev_held (fun k zs c i => laws_heldByteS.l0 k zs c (i : Int)) MarkByteS (fun x c d h => by have := h.2; omega) ?_ ?_ ys hl c d hc hd h
  · intro zs c
    exact Ev.step (fun _ => rfl) (ev_neg (by omega) (ev_some rfl))
  · intro zs c c' i hi h20 hE h0 h1 r hr
    obtain ⟨hx, rfl⟩ := hE
    have hg : rd zs (i : Int) = (c) % 256 := (rd_get hi).trans hx
    refine Ev.step (fun _ => rfl) (ev_pos (by omega) (ev_pos (by omega) ?_))
    rw [hg]
    simp only [w64s i (by omega), w64 (n := c + 1) (by omega) (by omega)]
    exact ev_pos (by trivial) (hr)
theorem rd_drop (l : List Int) (a i : Nat) (h : a + i < l.length) : rd (l.drop a) (i : Int) = rd l ((a + i : Nat) : Int) := by
  rw [rd_get (by rw [List.length_drop]; omega), rd_get h, List.getElem_drop]
theorem run_same (old now : List Int) (ho : old.length ≤ 400) (hn : now.length ≤ 400) (out : List S62) (at_ : Nat) (ha : at_ ≤ now.length) (from_ many len i2 : Int) (i : Nat) (hi : i < old.length) :
    ∀ d j : Nat, at_ + j + d = now.length → ∃ N : Nat, at_ + N ≤ now.length ∧
      (∀ r, Ev (fun k => if (N : Int) > many then impl_longest.l0 k old (now.drop at_) (i : Int) (N : Int) len (wrap64 (i2 + 1)) else impl_longest.l0 k old (now.drop at_) from_ many len (wrap64 (i2 + 1))) r → Ev (fun k => impl_longest.l1 k old (now.drop at_) from_ many (i : Int) (j : Int) len i2) r) ∧
      (∀ r, Ev (fun k => if (N : Int) > many then spec_PatchOf.l1 k old now out (at_ : Int) (i : Int) (N : Int) len (wrap64 (i2 + 1)) else spec_PatchOf.l1 k old now out (at_ : Int) from_ many len (wrap64 (i2 + 1))) r → Ev (fun k => spec_PatchOf.l2 k old now out (at_ : Int) from_ many (i : Int) (j : Int) len i2) r) := by
  have hdl : (now.drop at_).length = now.length - at_ := List.length_drop
  intro d
  induction d with
  | zero =>
    intro j hj
    have e1 : wrap64 ((i : Int) + (j : Int)) = (i : Int) + (j : Int) := w64 (by omega) (by omega)
    have e2 : wrap64 ((at_ : Int) + (j : Int)) = (at_ : Int) + (j : Int) := w64 (by omega) (by omega)
    refine ⟨j, by omega, fun r hr => st_impl_longest_l1 (ev_ite (fun _ => ev_neg (by omega) hr) fun _ => hr), fun r hr => st_spec_PatchOf_l2 (ev_ite (fun _ => ev_neg (by omega) hr) fun _ => hr)⟩
  | succ d ih =>
    intro j hj
    have e1 : wrap64 ((i : Int) + (j : Int)) = (i : Int) + (j : Int) := w64 (by omega) (by omega)
    have e2 : wrap64 ((at_ : Int) + (j : Int)) = ((at_ + j : Nat) : Int) := by rw [w64 (by omega) (by omega)]; omega
    have e3 := rd_drop now at_ j (by omega)
    by_cases h1 : (i : Int) + (j : Int) < (old.length : Int)
    · by_cases h2 : rd old ((i : Int) + (j : Int)) = rd now ((at_ + j : Nat) : Int)
      · obtain ⟨N, g1, g2, g3⟩ := ih (j + 1) (by omega)
        refine ⟨N, g1, fun r hr => st_impl_longest_l1 ?_, fun r hr => st_spec_PatchOf_l2 ?_⟩
        · rw [e1, e3, w64s j (by omega)]
          exact ev_pos h1 (ev_pos (by omega) (ev_pos (by omega) (ev_pos (by omega) (ev_pos h2 (g2 r hr)))))
        · rw [e1, e2, w64s j (by omega)]
          exact ev_pos h1 (ev_pos (by omega) (ev_pos (by omega) (ev_pos (by omega) (ev_pos h2 (g3 r hr)))))
      · refine ⟨j, by omega, fun r hr => st_impl_longest_l1 ?_, fun r hr => st_spec_PatchOf_l2 ?_⟩
        · rw [e1, e3]
          exact ev_pos h1 (ev_pos (by omega) (ev_pos (by omega) (ev_pos (by omega) (ev_neg h2 hr))))
        · rw [e1, e2]
          exact ev_pos h1 (ev_pos (by omega) (ev_pos (by omega) (ev_pos (by omega) (ev_neg h2 hr))))
    · refine ⟨j, by omega, fun r hr => st_impl_longest_l1 (ev_neg (by omega) hr), fun r hr => st_spec_PatchOf_l2 (ev_neg (by omega) hr)⟩
theorem longest_same (old now : List Int) (ho : old.length ≤ 400) (hn : now.length ≤ 400) (out : List S62) (at_ : Nat) (ha : at_ ≤ now.length) :
    ∀ n i : Nat, i + n = old.length → ∀ from_ many : Int, 0 ≤ many → (at_ : Int) + many ≤ (now.length : Int) → ∃ F M : Int, 0 ≤ M ∧ (at_ : Int) + M ≤ (now.length : Int) ∧ Ev (fun k => impl_longest.l0 k old (now.drop at_) from_ many (old.length : Int) (i : Int)) (F, M) ∧
      ∀ r, Ev (fun k => spec_PatchOf.l1 k old now out (at_ : Int) F M (old.length : Int) (old.length : Int)) r → Ev (fun k => spec_PatchOf.l1 k old now out (at_ : Int) from_ many (old.length : Int) (i : Int)) r := by
  intro n
  induction n with
  | zero =>
    intro i hi from_ many h0 h1
    obtain rfl : i = old.length := by omega
    exact ⟨from_, many, h0, h1, st_impl_longest_l0 (ev_neg (by omega) (ev_some rfl)), fun r hr => hr⟩
  | succ n ih =>
    intro i hi from_ many h0 h1
    obtain ⟨N, g1, g2, g3⟩ := run_same old now ho hn out at_ ha from_ many (old.length : Int) (i : Int) i (by omega) (now.length - at_) 0 (by omega)
    rw [w64s i (by omega)] at g2 g3
    by_cases hN : (N : Int) > many
    · obtain ⟨F, M, q1, q2, q3, q4⟩ := ih (i + 1) (by omega) (i : Int) (N : Int) (by omega) (by omega)
      exact ⟨F, M, q1, q2, st_impl_longest_l0 (ev_pos (by omega) (g2 _ (ev_pos hN q3))), fun r hr => st_spec_PatchOf_l1 (ev_pos (by omega) (g3 _ (ev_pos hN (q4 r hr))))⟩
    · obtain ⟨F, M, q1, q2, q3, q4⟩ := ih (i + 1) (by omega) from_ many h0 h1
      exact ⟨F, M, q1, q2, st_impl_longest_l0 (ev_pos (by omega) (g2 _ (ev_neg hN q3))), fun r hr => st_spec_PatchOf_l1 (ev_pos (by omega) (g3 _ (ev_neg hN (q4 r hr))))⟩
def GoodC (n : Nat) (c : S62) : Prop := c.f2.length ≤ n ∧ (0 < c.f1 ↔ c.f2.length = 0)
theorem last_of (out : List S62) (h : 0 < out.length) (hl : out.length ≤ 1048576) : wrap64 ((out.length : Int) - 1) = ((out.length - 1 : Nat) : Int) := by
  rw [w64 (by omega) (by omega)]; omega
theorem rd_last (out : List S62) (z : S62) : rd_T62 (out ++ [z]) ((out.length : Nat) : Int) = z := by
  have : rd_T62 (out ++ [z]) ((out.length : Nat) : Int) = (out ++ [z])[out.length]'(by simp) := getD_get (by simp)
  rw [this]; simp
theorem set_last (out : List S62) (z v : S62) : (out ++ [z]).set out.length v = out ++ [v] := by
  simp
theorem patch_loop (old now : List Int) (ho : old.length ≤ 400) (hn : now.length ≤ 400) :
    ∀ d at_ : Nat, ∀ out : List S62, at_ + d = now.length → out.length ≤ at_ → (∀ c ∈ out, GoodC at_ c) →
      ∃ res, Ev (fun k => spec_PatchOf.l0 k old now out (at_ : Int)) (res, true) ∧ Ev (fun k => impl_PatchOf.l0 k old (now.drop at_) out) (res, true) ∧ res.length ≤ 400 ∧ ∀ c ∈ res, GoodC 400 c := by
  intro d
  induction d using Nat.strongRecOn with
  | _ d ih =>
    intro at_ out hd hl hg
    have hdl : (now.drop at_).length = now.length - at_ := List.length_drop
    rcases Nat.eq_zero_or_pos d with h0 | h0
    · subst h0
      exact ⟨out, st_spec_PatchOf_l0 (ev_neg (by omega) (ev_some rfl)), st_impl_PatchOf_l0 (ev_neg (by omega) (ev_some rfl)), by omega, fun c hc => ⟨by have := (hg c hc).1; omega, (hg c hc).2⟩⟩
    · obtain ⟨F, M, m0, m1, hi, hs⟩ := longest_same old now ho hn out at_ (by omega) old.length 0 (by omega) 0 0 (by omega) (by omega)
      by_cases h4 : M ≥ 4
      · obtain ⟨m, rfl⟩ : ∃ m : Nat, M = (m : Int) := ⟨M.toNat, by omega⟩
        obtain ⟨res, g1, g2, g3, g4⟩ := ih (d - m) (by omega) (at_ + m) (out ++ [⟨F, (m : Int), []⟩]) (by omega) (by rw [List.length_append, List.length_singleton]; omega) (fun c hc => by
          rcases List.mem_append.1 hc with hc | hc
          · exact ⟨by have := (hg c hc).1; omega, (hg c hc).2⟩
          · obtain rfl := List.mem_singleton.1 hc
            exact ⟨by simp, by simp; omega⟩)
        refine ⟨res, st_spec_PatchOf_l0 (ev_pos (by omega) (hs _ (st_spec_PatchOf_l1 (ev_neg (by omega) (ev_pos h4 (ev_pos (by omega) ?_)))))), st_impl_PatchOf_l0 (ev_pos (by omega) (Ev.bind hi (ev_pos h4 (ev_pos (by omega) (ev_pos (by omega) (ev_pos (by rw [hdl]; omega) ?_)))))), g3, g4⟩
        · rw [show wrap64 ((at_ : Int) + (m : Int)) = ((at_ + m : Nat) : Int) by rw [w64 (by omega) (by omega)]; omega]
          exact g1
        · rw [show ((now.drop at_).drop ((m : Nat) : Int).toNat) = now.drop (at_ + m) by rw [Int.toNat_natCast, List.drop_drop]]
          exact g2
      · obtain ⟨b, hb⟩ : ∃ b, Aside0 (b = rd now (at_ : Int)) := ⟨_, ⟨rfl⟩⟩
        have hb' : Aside0 (rd (now.drop at_) 0 = b) := ⟨by rw [hb.out]; exact rd_drop now at_ 0 (by omega)⟩
        have e1 : Aside0 (wrap64 ((at_ : Int) + 1) = ((at_ + 1 : Nat) : Int)) := ⟨by rw [w64 (by omega) (by omega)]; omega⟩
        have ed : (now.drop at_).drop 1 = now.drop (at_ + 1) := by rw [List.drop_drop]
        -- a chunk of its own
        have fresh : ∃ res, Ev (fun k => spec_PatchOf.l0 k old now (out ++ [⟨0, 0, [b]⟩]) ((at_ + 1 : Nat) : Int)) (res, true) ∧ Ev (fun k => impl_PatchOf.l0 k old (now.drop (at_ + 1)) (out ++ [⟨0, 0, [b]⟩])) (res, true) ∧ res.length ≤ 400 ∧ ∀ c ∈ res, GoodC 400 c :=
          ih (d - 1) (by omega) (at_ + 1) (out ++ [⟨0, 0, [b]⟩]) (by omega) (by rw [List.length_append, List.length_singleton]; omega) (fun c hc => by
            rcases List.mem_append.1 hc with hc | hc
            · exact ⟨by have := (hg c hc).1; omega, (hg c hc).2⟩
            · obtain rfl := List.mem_singleton.1 hc
              exact ⟨by simp, by simp⟩)
        have eL : Aside0 (wrap64 (((out ++ [(⟨0, 0, ([] : List Int)⟩ : S62)]).length : Int) - 1) = (out.length : Int)) := ⟨by
          rw [List.length_append, List.length_singleton, w64 (by omega) (by omega)]; omega⟩
        have iapp : ∀ res, Ev (fun k => impl_PatchOf.l0 k old (now.drop (at_ + 1)) (out ++ [⟨0, 0, [b]⟩])) (res, true) → Ev (fun k => if out.length < 3518437208883 then ((some (out ++ [(⟨0, 0, ([] : List Int)⟩ : S62)] : List (S62))).bind fun y143 => (if 0 ≤ (wrap64 ((y143.length : Int) - 1)) then (if (wrap64 ((y143.length : Int) - 1)) < (y143.length : Int) then (if 0 < ((now.drop at_).length : Int) then (if ((rd_T62 y143 (wrap64 ((y143.length : Int) - 1))).f2).length < 140737488355328 then (if 1 ≤ ((now.drop at_).length : Int) then (impl_PatchOf.l0 k old ((now.drop at_).drop 1) (y143.set ((wrap64 ((y143.length : Int) - 1)) : Int).toNat (⟨(rd_T62 y143 (wrap64 ((y143.length : Int) - 1))).f0, (rd_T62 y143 (wrap64 ((y143.length : Int) - 1))).f1, (((rd_T62 y143 (wrap64 ((y143.length : Int) - 1))).f2) ++ [rd (now.drop at_) 0])⟩ : S62))) else (none)) else (none)) else (none)) else (none)) else (none))) else (none)) (res, true) := by
          intro res h
          refine ev_pos (by omega) (ev_bindc rfl ?_)
          rw [eL.out, rd_last, hb'.out, ed, Int.toNat_natCast, set_last]
          refine ev_pos (by omega) (ev_pos (by rw [List.length_append, List.length_singleton]; omega) (ev_pos (by omega) (ev_pos (by simp) (ev_pos (by omega) ?_))))
          exact h
        by_cases hz : (out.length : Int) = 0
        · obtain ⟨res, g1, g2, g3, g4⟩ := fresh
          refine ⟨res, st_spec_PatchOf_l0 (ev_pos (by omega) (hs _ (st_spec_PatchOf_l1 (ev_neg (by omega) (ev_neg h4 (ev_neg (by omega) (ev_pos (by omega) (ev_pos (by omega) (ev_pos (by omega) ?_))))))))), st_impl_PatchOf_l0 (ev_pos (by omega) (Ev.bind hi (ev_neg h4 (ev_pos hz (iapp res g2))))), g3, g4⟩
          rw [← hb.out, e1.out]; exact g1
        · have eL2 : Aside0 (wrap64 ((out.length : Int) - 1) = ((out.length - 1 : Nat) : Int)) := ⟨last_of out (by omega) (by omega)⟩
          have hlast : rd_T62 out ((out.length - 1 : Nat) : Int) ∈ out := by
            have e : rd_T62 out ((out.length - 1 : Nat) : Int) = out[out.length - 1]'(by omega) := getD_get (by omega)
            rw [e]; exact List.getElem_mem _
          obtain ⟨c, hc⟩ : ∃ c, c = rd_T62 out ((out.length - 1 : Nat) : Int) := ⟨_, rfl⟩
          rw [← hc] at hlast
          have hcg := hg c hlast
          by_cases hm : c.f1 > 0
          · have hf2 := hcg.2.1 hm
            obtain ⟨res, g1, g2, g3, g4⟩ := fresh
            refine ⟨res, st_spec_PatchOf_l0 (ev_pos (by omega) (hs _ (st_spec_PatchOf_l1 (ev_neg (by omega) (ev_neg h4 (ev_pos (by omega) ?_)))))), st_impl_PatchOf_l0 (ev_pos (by omega) (Ev.bind hi (ev_neg h4 (ev_neg hz ?_)))), g3, g4⟩
            · rw [eL2.out, ← hc, ← hb.out, e1.out]
              exact ev_pos (by omega) (ev_pos (by omega) (ev_neg (by omega) (ev_pos (by omega) (ev_pos (by omega) (ev_pos (by omega) g1)))))
            · rw [eL2.out, ← hc]
              exact ev_pos (by omega) (ev_pos (by omega) (ev_pos hm (iapp res g2)))
          · have hf2 : c.f2.length ≠ 0 := fun h => hm (hcg.2.2 h)
            obtain ⟨res, g1, g2, g3, g4⟩ := ih (d - 1) (by omega) (at_ + 1) (out.set (out.length - 1) ⟨c.f0, c.f1, c.f2 ++ [b]⟩) (by omega) (by rw [List.length_set]; omega) (fun c' hc' => by
              rcases List.mem_or_eq_of_mem_set hc' with h | rfl
              · exact ⟨by have := (hg c' h).1; omega, (hg c' h).2⟩
              · refine ⟨by show (c.f2 ++ [b]).length ≤ _; rw [List.length_append, List.length_singleton]; have := hcg.1; omega, ?_⟩
                show 0 < c.f1 ↔ (c.f2 ++ [b]).length = 0
                rw [List.length_append, List.length_singleton]
                omega)
            refine ⟨res, st_spec_PatchOf_l0 (ev_pos (by omega) (hs _ (st_spec_PatchOf_l1 (ev_neg (by omega) (ev_neg h4 (ev_pos (by omega) ?_)))))), st_impl_PatchOf_l0 (ev_pos (by omega) (Ev.bind hi (ev_neg h4 (ev_neg hz ?_)))), g3, g4⟩
            · rw [eL2.out, ← hc, ← hb.out, e1.out, Int.toNat_natCast]
              exact ev_pos (by omega) (ev_pos (by omega) (ev_pos (by omega) (ev_pos (by omega) (ev_pos (by omega) (ev_pos (by have := hcg.1; omega) g1)))))
            · rw [eL2.out, ← hc, hb'.out, ed, Int.toNat_natCast]
              exact ev_pos (by omega) (ev_pos (by omega) (ev_neg hm (ev_pos (by omega) (ev_pos (by have := hcg.1; omega) (ev_pos (by omega) g2)))))
theorem patch_same (old now : List Int) : ∃ res b, Ev (fun k => spec_PatchOf.f k old now) (res, b) ∧ Ev (fun k => impl_PatchOf.f k old now) (res, b) ∧ res.length ≤ 400 ∧ ∀ c ∈ res, GoodC 400 c := by
  by_cases h : (old.length : Int) > 400
  · exact ⟨[], false, ev_pos h (st_spec_PatchOf_j0 (ev_pos rfl (ev_some rfl))), ev_pos h (st_impl_PatchOf_j0 (ev_pos rfl (ev_some rfl))), by simp, fun c hc => by cases hc⟩
  · by_cases h2 : (now.length : Int) > 400
    · refine ⟨[], false, ev_neg h ?_, ev_neg h ?_, by simp, fun c hc => by cases hc⟩
      · rw [decide_eq_true h2]; exact st_spec_PatchOf_j0 (ev_pos rfl (ev_some rfl))
      · rw [decide_eq_true h2]; exact st_impl_PatchOf_j0 (ev_pos rfl (ev_some rfl))
    · obtain ⟨res, h3, h4, h5, h6⟩ := patch_loop old now (by omega) (by omega) now.length 0 [] (by omega) (by simp) (fun c hc => by cases hc)
      refine ⟨res, true, ev_neg h ?_, ev_neg h ?_, h5, h6⟩
      · rw [decide_eq_false h2]; exact st_spec_PatchOf_j0 (ev_neg (by decide) h3)
      · rw [decide_eq_false h2]; exact st_impl_PatchOf_j0 (ev_neg (by decide) h4)
theorem ev_markB {α : Type} (B : Int) (L : Nat → List α → Int → Nat → Option (Int × List α)) (E : α → Int → Int → Prop) (G : α → Prop) (W : Int) (hW : 0 ≤ W) (hW' : W ≤ 1099511627776)
    (hend : ∀ zs c, Ev (fun k => L k zs c zs.length) (c, zs))
    (hstep : ∀ zs c i, ∀ hi : i < zs.length, i < 1048576 → G zs[i] → 0 ≤ c → c ≤ B + 1152921504606846976 → ∃ x' c', E x' c c' ∧ c ≤ c' ∧ c' ≤ c + W ∧ ∀ r, Ev (fun k => L k (zs.set i x') c' (i + 1)) r → Ev (fun k => L k zs c i) r)
    (xs : List α) (hG : ∀ x ∈ xs, G x) (hl : xs.length ≤ 1048576) (c : Int) (hc0 : 0 ≤ c) (hc1 : c ≤ B) :
    ∃ ys d, Chain E ys c d ∧ c ≤ d ∧ d ≤ c + W * xs.length ∧ ys.length = xs.length ∧ Ev (fun k => L k xs c 0) (d, ys) := by
  have key : ∀ n i : Nat, ∀ zs : List α, ∀ m : Int, i + n = xs.length → zs.length = xs.length → zs.drop i = xs.drop i → Chain E (zs.take i) c m → c ≤ m → m ≤ c + W * i →
      ∃ ys d, Chain E ys c d ∧ c ≤ d ∧ d ≤ c + W * xs.length ∧ ys.length = xs.length ∧ Ev (fun k => L k zs m i) (d, ys) := by
    intro n
    induction n with
    | zero =>
      intro i zs m hi hz hd hch h1 h2
      obtain rfl : i = zs.length := by omega
      rw [List.take_length] at hch
      rw [← hz]
      exact ⟨zs, m, hch, h1, h2, rfl, hend zs m⟩
    | succ n ih =>
      intro i zs m hi hz hd hch h1 h2
      have hlt : i < zs.length := by omega
      have hx : i < xs.length := by omega
      have hget : zs[i] = xs[i] := by
        have e1 := List.drop_eq_getElem_cons hlt
        have e2 := List.drop_eq_getElem_cons hx
        rw [hd, e2] at e1
        exact (List.cons.inj e1).1.symm
      have hWi : W * (i : Int) ≤ 1099511627776 * 1048576 := Int.mul_le_mul hW' (by omega) (by omega) (by omega)
      obtain ⟨x', c', hE, hc, hcW, hr⟩ := hstep zs m i hlt (by omega) (by rw [hget]; exact hG _ (List.getElem_mem hx)) (by omega) (by omega)
      obtain ⟨ys, d, g1, g2, g3, g4, g5⟩ := ih (i + 1) (zs.set i x') c' (by omega) (by simpa using hz) (by
          rw [List.drop_set_of_lt (by omega)]
          have e1 := List.drop_eq_getElem_cons hlt
          have e2 := List.drop_eq_getElem_cons hx
          rw [hd, e2] at e1
          exact (List.cons.inj e1).2.symm) (by
          rw [List.take_succ_eq_append_getElem (by simpa using hlt), List.take_set_of_le (Nat.le_refl i), List.getElem_set_self]
          exact Chain.snoc hch hE) (by omega) (by
          have : W * ((i + 1 : Nat) : Int) = W * i + W := by rw [Int.natCast_add, Int.mul_add]; simp
          omega)
      exact ⟨ys, d, g1, g2, g3, g4, hr _ g5⟩
  have := key xs.length 0 xs c (by omega) rfl rfl (by simp [Chain]) (Int.le_refl _) (by simp)
  exact this
theorem markByteS_evB (xs : List Int) (hl : xs.length ≤ 1048576) (c : Int) (hc0 : 0 ≤ c) (hc1 : c ≤ 2305843009213693954) :
    ∃ ys d, Chain MarkByteS ys c d ∧ c ≤ d ∧ d ≤ c + 1 * xs.length ∧ ys.length = xs.length ∧ Ev (fun k => laws_markByteS.f k xs c) (d, ys) := by
  refine ev_markB 2305843009213693954 (fun k zs c i => laws_markByteS.l0 k zs c (i : Int)) MarkByteS (fun _ => True) 1 (by omega) (by omega) ?_ ?_ xs (fun _ _ => trivial) hl c hc0 hc1
  · intro zs c
    exact Ev.step (fun _ => rfl) (ev_neg (by omega) (ev_some rfl))
  · intro zs c i hi h20 _ h0 h1
    refine ⟨_, _, ⟨rfl, rfl⟩, by omega, by omega, fun r hr => Ev.step (fun _ => rfl) (ev_pos (by omega) (ev_pos (by omega) ?_))⟩
    simp only [Int.toNat_natCast, w64s i (by omega), w64 (n := c + 1) (by omega) (by omega)]
    exact hr
theorem rdset_chunk {xs : List S62} {i : Nat} (h : i < xs.length) (v : S62) : rd_T62 (xs.set i v) (i : Int) = v := by
  unfold rd_T62
  rw [getD_get (by simpa using h), List.getElem_set_self]
def MarkC (x : S62) (c d : Int) : Prop := x.f0 = c ∧ x.f1 = c + 1 ∧ c + 2 ≤ d ∧ x.f2.length ≤ 1048576 ∧ Chain MarkByteS x.f2 (c + 2) d
theorem markChunkS_ev (xs : List S62) (hl : xs.length ≤ 1048576) (hG : ∀ x ∈ xs, x.f2.length ≤ 400) (c0 : Int) (h0 : 0 ≤ c0) (h1 : c0 ≤ 1152921504606846976) :
    ∃ ys d, Chain MarkC ys c0 d ∧ c0 ≤ d ∧ d ≤ c0 + 402 * xs.length ∧ ys.length = xs.length ∧ Ev (fun k => laws_markChunkS.f k xs c0) (d, ys) := by
  refine ev_mark (fun k zs c i => laws_markChunkS.l0 k zs c (i : Int)) MarkC (fun x => x.f2.length ≤ 400) 402 (by omega) (by omega) (fun zs c => st_laws_markChunkS_l0 (ev_neg (by omega) (ev_some rfl))) ?_ xs hG hl c0 h0 h1
  intro zs c i hi h20 hGi h0 h1
  obtain ⟨ys, d, g0, g1, g2, g3, g4⟩ := markByteS_evB zs[i].f2 (by omega) (c + 2) (by omega) (by omega)
  refine ⟨⟨c, c + 1, ys⟩, d, ⟨rfl, rfl, g1, by show ys.length ≤ _; omega, g0⟩, by omega, by omega, fun r hr => st_laws_markChunkS_l0 (ev_pos (by omega) (ev_pos (by omega) (ev_bindc rfl (ev_bindc rfl ?_))))⟩
  have e1 : wrap64 (c + 1) = c + 1 := w64 (by omega) (by omega)
  have e2 : wrap64 (c + 1 + 1) = c + 2 := by rw [show c + 1 + 1 = c + 2 by omega]; exact w64 (by omega) (by omega)
  have hz : rd_T62 zs (i : Int) = zs[i] := getD_get hi
  simp only [e1, e2, Int.toNat_natCast, rdset_chunk hi, List.set_set, hz]
  refine Ev.bind g4 ?_
  simp only [w64s i (by omega)]
  exact hr
theorem heldChunkS_ev (ys : List S62) (hl : ys.length ≤ 1048576) (c d : Int) (hc0 : 0 ≤ c) (hd : d ≤ 2305843009213693952) (h : Chain MarkC ys c d) : Ev (fun k => laws_heldChunkS.f k ys c) d := by
  refine ev_held (fun k ys c i => laws_heldChunkS.l0 k ys c (i : Int)) MarkC (fun x c d h => by have := h.2.2.1; omega) ?_ ?_ ys hl c d hc0 hd h
  · intro ys c
    exact st_laws_heldChunkS_l0 (ev_neg (by omega) (ev_some rfl))
  · intro ys c c' i hi h20 ⟨q0, q1, q2, q3, q4⟩ h0 h1 r hr
    have e1 : wrap64 (c + 1) = c + 1 := w64 (by omega) (by omega)
    have e2 : wrap64 (c + 1 + 1) = c + 2 := by rw [show c + 1 + 1 = c + 2 by omega]; exact w64 (by omega) (by omega)
    have hz : rd_T62 ys (i : Int) = ys[i] := getD_get hi
    refine st_laws_heldChunkS_l0 (ev_pos (by omega) (ev_pos (by omega) ?_))
    rw [hz, e1, e2, w64s i (by omega)]
    exact ev_pos q0 (ev_pos q1 (Ev.bind (heldByteS_ev _ q3 (c + 2) c' (by omega) (by omega) q4) (ev_neg (by omega) hr)))
theorem FnExactPatchOf : ∀ (l0 : List (Int)) (l1 : List (Int)), (l0.length * 1 ≤ 140737488351232 ∧ ∀ y ∈ l0, InU8 y) → (l1.length * 1 ≤ 140737488351232 ∧ ∀ y ∈ l1, InU8 y) → ∃ k, laws_FnExactPatchOf.f k l0 l1 = some true := by
  intro old now _ _
  refine Ev.rounds (g := fun k => laws_FnExactPatchOf.f k old now) ?_
  refine ev_ite (fun _ => ev_some rfl) fun hol => ev_ite (fun _ => ev_some rfl) fun hnl => ?_
  have hol : old.length ≤ 1048576 := by omega
  have hnl : now.length ≤ 1048576 := by omega
  have tb := toByteS_ev old hol
  have tn := toByteS_ev now hnl
  obtain ⟨res, b, hs, hi, hl, hg⟩ := patch_same old now
  have ee := eqChunkS_ev res ⟨by omega, fun c hc => by have : c.f2.length ≤ 400 := (hg c hc).1; show c.f2.length ≤ 1048576; omega⟩
  have eo := eqByteS_ev old hol
  have en := eqByteS_ev now hnl
  obtain ⟨y0, d0, _, p0, p1, _, hm0⟩ := markByteS_ev old hol 1 (by omega) (by omega)
  obtain ⟨y1, d1, _, p2, p3, _, hm1⟩ := markByteS_ev now hnl d0 (by omega) (by omega)
  obtain ⟨y2, d2, hch, q0, q1, ml, hm2⟩ := markChunkS_ev res (by omega) (fun c hc => (hg c hc).1) 1 (by omega) (by omega)
  have hh := heldChunkS_ev y2 (by omega) 1 d2 (by omega) (by omega) hch
  have eb : (b != b) = false := by simp
  refine Ev.bind tb (Ev.bind tn (Ev.bind hs (Ev.bind tb (Ev.bind tn (Ev.bind hi (Ev.bind ee (ev_pos rfl ?_)))))))
  simp only [eb]
  refine st_laws_FnExactPatchOf_j0 (ev_neg (by decide) (Ev.bind tb (Ev.bind eo (ev_pos rfl (Ev.bind tn (Ev.bind en (ev_pos rfl (Ev.bind hm0 (Ev.bind hm1 (ev_neg (by omega) (Ev.bind ee (ev_pos rfl ?_))))))))))))
  simp only [eb]
  refine st_laws_FnExactPatchOf_j1 (ev_neg (by decide) (Ev.bind hm2 (Ev.bind hh (ev_neg (by omega) (ev_pos rfl (Ev.bind tb (Ev.bind tn (Ev.bind hi (Ev.bind ee (ev_pos rfl ?_))))))))))
  simp only [eb]
  exact st_laws_FnExactPatchOf_j2 (ev_neg (by decide) (Ev.bind hh (ev_neg (by omega) (ev_pos rfl (ev_some rfl)))))
end Go.Proofs.Ytcpodjegdpbalaa.Pure
