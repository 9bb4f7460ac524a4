/- Texts of a row. -/
import Derived.Test.YtehkpnnidbghhabZFnExactStaleBetween1
import Derived.Test.YtehkpnnidbghhabZFnExactStaleBetween3
import Derived.Test.YtehkpnnidbghhabZFnExactStaleBetween2
import Derived.Test.YtehkpnnidbghhabZFnExactStaleBetween0
import Derived.SizedLaws
import Derived.ChangeArms
import Derived.OpenShut
import Derived.WideShapes
import Derived.WalkKit
import Derived.KernelRfl
import Derived.Laws.BitsLemmas
namespace Go.Proofs.Ytehkpnnidbghhab.PFnExactStaleBetween
open Go.RowKit Go.Proofs.YtehkpnnidbghhabW.PrintWords Go.Proofs.YtehkpnnidbghhabW.PrintLast Go.Proofs.YtehkpnnidbghhabW.PrintMore
attribute [local go_sem] max2_int min2_int max_two min_two max_three min_three max_four min_four   -- for this text's walks alone
set_option linter.unusedVariables false
set_option linter.unusedSimpArgs false
def laws_markAssetS.l0 : Nat → List (S41) → Int → Int → Option (Int × (List (S41)))
 | 0, _, _, _ => none
 | k + 1, x0, x1, x5 => if x5 < (x0.length : Int) then ((laws_markText.f k x1).bind fun t286 => (if 0 ≤ x5 then ((some (x0.set (x5 : Int).toNat (⟨t286, (rd_T41 x0 x5).f1, (rd_T41 x0 x5).f2⟩ : S41) : List (S41))).bind fun y287 => ((laws_markStringS.f k ((rd_T41 y287 x5).f1) (wrap64 (x1 + 1))).bind fun bt289 => ((some (y287.set (x5 : Int).toNat (⟨(rd_T41 y287 x5).f0, bt289.2, (rd_T41 y287 x5).f2⟩ : S41) : List (S41))).bind fun y291 => ((laws_markByteS.f k ((rd_T41 y291 x5).f2) bt289.1).bind fun bt293 => (laws_markAssetS.l0 k (y291.set (x5 : Int).toNat (⟨(rd_T41 y291 x5).f0, (rd_T41 y291 x5).f1, bt293.2⟩ : S41)) bt293.1 (wrap64 (x5 + 1))))))) else (none))) else (some (x1, x0))
def laws_markAssetS.f (k : Nat) (l0 : List (S41)) (a1 : Int) : Option (Int × (List (S41))) := laws_markAssetS.l0 k l0 a1 0
theorem laws_markAssetS.mono_l : ∀ k, (∀ y0 y1 y2, LeO (laws_markAssetS.l0 k y0 y1 y2) (laws_markAssetS.l0 (k + 1) y0 y1 y2))
 | 0 => fun _ _ _ r h => by simp [laws_markAssetS.l0] at h
 | k + 1 => by
  have ih0 := laws_markAssetS.mono_l k
  ·intro y0 y1 y2
   unfold laws_markAssetS.l0
   repeat' first
   | (with_reducible exact ih0 _ _ _)
   | (with_reducible exact laws_markByteS.mono _ _ _)
   | (with_reducible exact laws_markStringS.mono _ _ _)
   | (with_reducible exact laws_markText.mono _ _)
   | (with_reducible first | exact LeO.refl _ | exact LeO.none _ | refine LeO.ite ?_ ?_ | refine LeO.bind ?_ (fun _ => ?_))
   | exact ih0 _ _ _
   | exact laws_markByteS.mono _ _ _
   | exact laws_markStringS.mono _ _ _
   | exact laws_markText.mono _ _ | exact LeO.none _ | refine LeO.ite ?_ ?_ | refine LeO.bind ?_ (fun _ => ?_)
theorem laws_markAssetS.mono : ∀ a0 a1 k, LeO (laws_markAssetS.f k a0 a1) (laws_markAssetS.f (k + 1) a0 a1) := by
 intro a0 a1 k
 have ih0 := laws_markAssetS.mono_l k
 unfold laws_markAssetS.f
 repeat' first
   | (with_reducible exact ih0 _ _ _)
   | (with_reducible exact laws_markByteS.mono _ _ _)
   | (with_reducible exact laws_markStringS.mono _ _ _)
   | (with_reducible exact laws_markText.mono _ _)
   | (with_reducible first | exact LeO.refl _ | exact LeO.none _ | refine LeO.ite ?_ ?_ | refine LeO.bind ?_ (fun _ => ?_))
   | exact ih0 _ _ _
   | exact laws_markByteS.mono _ _ _
   | exact laws_markStringS.mono _ _ _
   | exact laws_markText.mono _ _ | exact LeO.none _ | refine LeO.ite ?_ ?_ | refine LeO.bind ?_ (fun _ => ?_)
set_option maxHeartbeats 8000000 in
set_option maxRecDepth 100000 in
theorem laws_markAssetS.calls (k : Nat) (P0_ : Nat → Prop) (u9000_ : Value) (l0 : List (S41)) (a1 : Int) (r1 : Int) (r2 : List (S41)) (w0 w : World) (hB : Below w0.heap.size w0 w) (ho0 : Kd.S k41 41 w w0.heap.size P0_ u9000_ l0) (h : laws_markAssetS.f k l0 a1 = some (r1, r2)) :
  Calls Try.prog 10 #[u9000_, .int .i64 a1] w fun e w' => e = .returned (.int .i64 r1) ∧ Kd.S k41 41 w' w0.heap.size (fun k_ => (P0_ k_ ∨ w.heap.size ≤ k_)) u9000_ r2 ∧ Below w0.heap.size w0 w' ∧ Kept w w' (fun k_ => P0_ k_) := by
 have HO0 := Aside0.mk (show Kd.S k41 41 w w0.heap.size (fun k_ => (P0_ k_ ∨ w.heap.size ≤ k_)) u9000_ l0 from Kd.S_mono ho0 (fun k_ hk => (.inl hk)))
 have HK := Aside0.mk (Kept.refl w (fun k_ => P0_ k_))
 have HW0 := Aside0.mk hB.size
 have HB := Aside0.mk hB
 clear hB
 have H : (laws_markAssetS.l0 k l0 a1 0) = some (r1, r2) := h
 clear h
 have H' := Aside0.mk H
 clear H
 go_enter Try.func10, Try.ntmps10
 go_wp2
 go_loopg [1, 5] k (fun kq v1 v5 w' => ∃ (x0_1 : List (S41)) (x1_1 : Int) (x5_1 : Int), v1 = .int .i64 x1_1 ∧ v5 = .int .i64 x5_1 ∧ Aside0 (laws_markAssetS.l0 kq x0_1 x1_1 x5_1 = some (r1, r2)) ∧ Aside0 (kq ≤ k) ∧ Aside0 (Kd.S k41 41 w' w0.heap.size (fun k_ => (P0_ k_ ∨ w.heap.size ≤ k_)) u9000_ x0_1) ∧ Aside0 (Kept w w' (fun k_ => P0_ k_)) ∧ Aside0 (Below w0.heap.size w0 w'))
 case atStart => exact ⟨(l0), (a1), (0), tE, tE, H', ⟨Nat.le_refl _⟩, ⟨by (with_reducible repeat (first | apply Kd.S_alloc | apply Kd.S_drewN | apply Kd.S_drew)); exact HO0.out⟩, ⟨by repeat (first | (with_reducible first | exact HK.out | apply Kept.alloc | apply Kept.drewN | apply Kept.drew) | exact HK.out)⟩, ⟨by repeat (first | (with_reducible first | exact HB.out | apply below_alloc | apply pw_below_drewN | apply below_drew1) | exact HB.out)⟩⟩
 case round =>
  clear H'
  try clear c1
  try clear p2
  obtain ⟨x0_1, x1_1, x5_1, rfl, rfl, HA, HK1, HO_0, HK, HB⟩ := hrel
  cases gk with
  | zero => exact absurd HA.out (by simp [laws_markAssetS.l0])
  | succ k1 =>
   have H := HA.out
   clear HA
   simp only [laws_markAssetS.l0] at H
   by_cases c3 : x5_1 < (x0_1.length : Int)
   ·rw [if_pos c3] at H
    have c3b0 : decide (x5_1 < (x0_1.length : Int)) = true := decide_eq_true c3
    clear c3
    replace H := Option.bind_eq_some_iff.mp H
    obtain ⟨t286, A40, H⟩ := H
    replace H : (if 0 ≤ x5_1 then ((some (x0_1.set (x5_1 : Int).toNat (⟨t286, (rd_T41 x0_1 x5_1).f1, (rd_T41 x0_1 x5_1).f2⟩ : S41) : List (S41))).bind fun y287 => ((laws_markStringS.f k1 ((rd_T41 y287 x5_1).f1) (wrap64 (x1_1 + 1))).bind fun bt289 => ((some (y287.set (x5_1 : Int).toNat (⟨(rd_T41 y287 x5_1).f0, bt289.2, (rd_T41 y287 x5_1).f2⟩ : S41) : List (S41))).bind fun y291 => ((laws_markByteS.f k1 ((rd_T41 y291 x5_1).f2) bt289.1).bind fun bt293 => (laws_markAssetS.l0 k1 (y291.set (x5_1 : Int).toNat (⟨(rd_T41 y291 x5_1).f0, (rd_T41 y291 x5_1).f1, bt293.2⟩ : S41)) bt293.1 (wrap64 (x5_1 + 1))))))) else (none)) = some (r1, r2) := H
    have A4 := Aside0.mk A40
    clear A40
    by_cases c5 : 0 ≤ x5_1
    ·rw [if_pos c5] at H
     have c5b0 : decide (0 ≤ x5_1) = true := decide_eq_true c5
     clear c5
     obtain ⟨y287, hy287⟩ : ∃ y_ : List (S41), y_ = (x0_1.set (x5_1 : Int).toNat (⟨t286, (rd_T41 x0_1 x5_1).f1, (rd_T41 x0_1 x5_1).f2⟩ : S41)) := ⟨_, rfl⟩
     replace H : ((laws_markStringS.f k1 ((rd_T41 y287 x5_1).f1) (wrap64 (x1_1 + 1))).bind fun bt289 => ((some (y287.set (x5_1 : Int).toNat (⟨(rd_T41 y287 x5_1).f0, bt289.2, (rd_T41 y287 x5_1).f2⟩ : S41) : List (S41))).bind fun y291 => ((laws_markByteS.f k1 ((rd_T41 y291 x5_1).f2) bt289.1).bind fun bt293 => (laws_markAssetS.l0 k1 (y291.set (x5_1 : Int).toNat (⟨(rd_T41 y291 x5_1).f0, (rd_T41 y291 x5_1).f1, bt293.2⟩ : S41)) bt293.1 (wrap64 (x5_1 + 1)))))) = some (r1, r2) := by first | (rw [hy287]; with_reducible exact H) | (have H2_ := (Option.bind_some _ _).symm.trans H; rw [hy287]; with_reducible exact H2_) | (have H2_ := (Option.bind_some _ _).symm.trans H; with_reducible exact H2_) | with_reducible exact H | (rw [hy287]; exact H) | exact H
     have Ny287 := Aside0.mk hy287
     clear hy287
     replace H := Option.bind_eq_some_iff.mp H
     obtain ⟨⟨t289, t290⟩, A70, H⟩ := H
     replace H : ((some (y287.set (x5_1 : Int).toNat (⟨(rd_T41 y287 x5_1).f0, t290, (rd_T41 y287 x5_1).f2⟩ : S41) : List (S41))).bind fun y291 => ((laws_markByteS.f k1 ((rd_T41 y291 x5_1).f2) t289).bind fun bt293 => (laws_markAssetS.l0 k1 (y291.set (x5_1 : Int).toNat (⟨(rd_T41 y291 x5_1).f0, (rd_T41 y291 x5_1).f1, bt293.2⟩ : S41)) bt293.1 (wrap64 (x5_1 + 1))))) = some (r1, r2) := H
     have A7 := Aside0.mk A70
     clear A70
     obtain ⟨y291, hy291⟩ : ∃ y_ : List (S41), y_ = (y287.set (x5_1 : Int).toNat (⟨(rd_T41 y287 x5_1).f0, t290, (rd_T41 y287 x5_1).f2⟩ : S41)) := ⟨_, rfl⟩
     replace H : ((laws_markByteS.f k1 ((rd_T41 y291 x5_1).f2) t289).bind fun bt293 => (laws_markAssetS.l0 k1 (y291.set (x5_1 : Int).toNat (⟨(rd_T41 y291 x5_1).f0, (rd_T41 y291 x5_1).f1, bt293.2⟩ : S41)) bt293.1 (wrap64 (x5_1 + 1)))) = some (r1, r2) := by first | (rw [hy291]; with_reducible exact H) | (have H2_ := (Option.bind_some _ _).symm.trans H; rw [hy291]; with_reducible exact H2_) | (have H2_ := (Option.bind_some _ _).symm.trans H; with_reducible exact H2_) | with_reducible exact H | (rw [hy291]; exact H) | exact H
     have Ny291 := Aside0.mk hy291
     clear hy291
     replace H := Option.bind_eq_some_iff.mp H
     obtain ⟨⟨t293, t294⟩, A80, H⟩ := H
     replace H : (laws_markAssetS.l0 k1 (y291.set (x5_1 : Int).toNat (⟨(rd_T41 y291 x5_1).f0, (rd_T41 y291 x5_1).f1, t294⟩ : S41)) t293 (wrap64 (x5_1 + 1))) = some (r1, r2) := H
     have A8 := Aside0.mk A80
     clear A80
     obtain ⟨y295, hy295⟩ : ∃ y_ : List (S41), y_ = (y291.set (x5_1 : Int).toNat (⟨(rd_T41 y291 x5_1).f0, (rd_T41 y291 x5_1).f1, t294⟩ : S41)) := ⟨_, rfl⟩
     replace H : (laws_markAssetS.l0 k1 y295 t293 (wrap64 (x5_1 + 1))) = some (r1, r2) := by first | (rw [hy295]; with_reducible exact H) | (have H2_ := (Option.bind_some _ _).symm.trans H; rw [hy295]; with_reducible exact H2_) | (have H2_ := (Option.bind_some _ _).symm.trans H; with_reducible exact H2_) | with_reducible exact H | (rw [hy295]; exact H) | exact H
     have Ny295 := Aside0.mk hy295
     clear hy295
     have H' := Aside0.mk H
     clear H
     obtain ⟨Ao9, co9, eo9⟩ := Kd.S_slice HO_0.out
     subst eo9
     go_wp2_with (first | ((with_reducible refine gate_callee (f := 21) rfl ?_); refine goesL_ (some 15) rfl rfl Try.func21 (by kernel_rfl) rfl #[.int .i64 x1_1] rfl aE ?_; (with_reducible refine (laws_markText.calls k1 x1_1 t286 _ A4.out).mono ?_); rintro e w10 ⟨rfl, hb⟩; refine ⟨_, rfl, ?_⟩; replace HO_0 := Aside0.mk (Kd.S_below (by (with_reducible repeat (first | apply Kd.S_alloc | apply Kd.S_drewN | apply Kd.S_drew)); exact HO_0.out) hb); replace HK := Aside0.mk (Kept.below (S := (fun k_ => P0_ k_)) (by repeat (first | (with_reducible first | exact HK.out | apply Kept.alloc | apply Kept.drewN | apply Kept.drew) | exact HK.out)) hb); replace HB := bH (lU) hb; (try clear hb); have p6 : 0 ≤ (x5_1 : Int) := of_decide_eq_true hE; have q6 : (x5_1 : Int) < ((x0_1.length : Int) : Int) := of_decide_eq_true hE; obtain ⟨go6, co6, eo6, gb6, gl6, cl6, HG6⟩ := Kd.S_form HO_0.out (by omega); (first | cases eo6 | (injection eo6 with ea_ en_ ec_; (first | subst ea_ | (injection ea_ with ea_; subst ea_)); subst ec_; clear en_)); have GB6 := Aside0.mk gb6; have GG6 := Aside0.mk HG6; clear gb6 gl6 HG6; have HMgo6 := Aside0.mk (show (P0_ go6 ∨ w.heap.size ≤ go6) from ((Kd.S_R HO_0.out).1 _ rfl)); obtain ⟨_, ce6, hcl6, hM6, hcc6, hfr6, _, _⟩ := Kd.S_elem HO_0.out z41 (x5_1 : Int) p6 q6; obtain ⟨ve6_1, ve6_2, rfl, ge6_1, ge6_2⟩ := k41_openM hM6; have hx6_0 : w10.cell? ⟨go6, (x5_1 : Int).toNat * 3, none⟩ = some (.string ((rd_T41 x0_1 x5_1).f0)) := hcc6 0 _ rfl; have hx6_1 : w10.cell? ⟨go6, (x5_1 : Int).toNat * 3 + 1, none⟩ = some (ve6_1) := hcc6 1 _ rfl; have hx6_2 : w10.cell? ⟨go6, (x5_1 : Int).toNat * 3 + 2, none⟩ = some (ve6_2) := hcc6 2 _ rfl; have hf6_0 : w10.frozen? ⟨go6, (x5_1 : Int).toNat * 3, none⟩ = false := hfr6 0; have hf6_1 : w10.frozen? ⟨go6, (x5_1 : Int).toNat * 3 + 1, none⟩ = false := hfr6 1; have hf6_2 : w10.frozen? ⟨go6, (x5_1 : Int).toNat * 3 + 2, none⟩ = false := hfr6 2; (try clear hcl6); (try clear hcc6); (try clear hfr6); (try clear hM6); replace p6 := eq_true p6; replace q6 := eq_true q6; have HX11 := Aside0.mk (show Kd.S k41 41 w10 w0.heap.size (fun k_ => ((fun k_ => (P0_ k_ ∨ w.heap.size ≤ k_))) k_ ∧ ¬ ((fun _ => False)) k_) (.slice (some ⟨go6, 0, none⟩) x0_1.length co9) x0_1 from (by (with_reducible repeat (first | apply Kd.S_alloc | apply Kd.S_drewN | apply Kd.S_drew)); exact Kd.S_mono HO_0.out (fun k_ hk => ⟨hk, fun e_ => e_⟩))); obtain ⟨oki11, ce11, hcl11, hM11, hcc11, hfr11, hoki11, hH11⟩ := Kd.S_elem HX11.out z41 (x5_1 : Int) (of_decide_eq_true hE) (by have h_ : (x5_1 : Int) < ((x0_1.length : Int) : Int) := of_decide_eq_true hE; first | exact h_ | (have e_ := (Kd.S_reads' HO_0.out).1; omega) | simpa using h_); obtain ⟨ve11_1, ve11_2, rfl, ge11_1, ge11_2⟩ := k41_openM hM11; have HP11 := Kd.S_seg hH11 (of_decide_eq_true hE) (by have h_ : (x5_1 : Int) < ((x0_1.length : Int) : Int) := of_decide_eq_true hE; first | exact h_ | (have e_ := (Kd.S_reads' HO_0.out).1; omega) | simpa using h_) (seg := [.string t286]) (j := 0) (show 1 ≤ 3 from by decide) (x' := (⟨t286, (rd_T41 x0_1 x5_1).f1, (rd_T41 x0_1 x5_1).f2⟩ : S41)) (k41_mkM _ _ _ (⟨t286, (rd_T41 x0_1 x5_1).f1, (rd_T41 x0_1 x5_1).f2⟩ : S41) (Kd.R_mono ge11_1 (fun _ h_ => Or.inl h_)) (Kd.R_mono ge11_2 (fun _ h_ => Or.inl h_))) (fun _ hk => hk) (fun k_ hk_ => hk_.elim); have hx11_0 := hcc11 0 _ rfl; (try simp only [show (k41).sz = 3 from rfl, Nat.mul_one, Nat.add_zero] at hx11_0); have hf11_0 := hfr11 0; (try simp only [show (k41).sz = 3 from rfl, Nat.mul_one, Nat.add_zero] at hf11_0); (try clear hcl11); (try clear hcc11); (try clear hfr11); (try clear hM11); (try clear hoki11); (try clear hH11)) | ((with_reducible refine gate_store (t := 9) (p := 17) rfl ?_); refine store_event (t := 9) (p := 17) (v := ?vo_w12) (w1 := (w10.setCell ⟨go6, (x5_1 : Int).toNat * 3, none⟩ (.string t286))) ?hg ?ho ?hn ?hr ?_; (case ho => rfl); (case hg => rfl); (case hn => rfl); (case hr => exact sE); intro w12 hw; have hg : w10.grownBy w12 (some go6) := (by rw [hw]; exact HP11.2); have hp_ : Kd.S k41 41 w12 w0.heap.size (fun k_ => (P0_ k_ ∨ w.heap.size ≤ k_)) (.slice (some ⟨go6, 0, none⟩) x0_1.length co9) y287 := (by rw [hw, Ny287.out]; exact HP11.1); clear HP11; replace HB := Aside0.mk ((by rw [hw]; exact below_set (HB.out) GB6.out : Below w0.heap.size w0 w12)); replace HK := Aside0.mk (Kept.of_grown (S := (fun k_ => P0_ k_)) hg (by repeat (first | (with_reducible first | exact HK.out | apply Kept.alloc | apply Kept.drewN | apply Kept.drew) | exact HK.out)) (fun k_ e_ => ((Kd.S_R HO_0.out).1 k_ e_))); replace HO_0 := Aside0.mk hp_; clear hg hw hp_; have p288 : 0 ≤ (x5_1 : Int) := of_decide_eq_true hE; have q288 : x5_1 < (y287.length : Int) := (by have h_ : (x5_1 : Int) < ((x0_1.length : Int) : Int) := of_decide_eq_true hE; first | (have e_ := (Kd.S_reads' HO_0.out).1; omega) | simpa only [Ny287.out, List.length_set] using h_); have ql288 : ((x5_1 : Int) < ((x0_1.length : Int) : Int)) = True := eq_true (of_decide_eq_true hE); obtain ⟨ad288, A288_1, c288_1, A288_2, c288_2, e288, hx288_0, hx288_1, hx288_2, hl288_1, hi288_1, hl288_2, hi288_2⟩ := at_T41 (Kd.S_reads' HO_0.out).2.2 x5_1 p288 q288; obtain rfl : (⟨go6, 0, none⟩ : Addr) = ad288 := (by injection e288); obtain ⟨ce288, hce288, hMe288, hcc288⟩ := Kd.S_get HO_0.out z41 x5_1 p288 (by first | exact q288 | exact of_decide_eq_true hE | (have e_ := (Kd.S_reads' HO_0.out).1; omega)); obtain ⟨ve288_1, ve288_2, rfl, ge288_1, ge288_2⟩ := k41_openM hMe288; have hv288_1 := hcc288 1 _ rfl; rw [add_field _ _ 1 (by omega)] at hv288_1; replace hv288_1 := Option.some.inj (hv288_1.symm.trans hx288_1); rw [hv288_1] at ge288_1; have HL288_1 := Aside0.mk (show Kd.R Kd.string 9 _ _ _ _ ((rd_T41 y287 x5_1).f1) from ge288_1); clear hv288_1 ge288_1; have HX288_1 := Aside0.mk hx288_1; have hv288_2 := hcc288 2 _ rfl; rw [add_field _ _ 2 (by omega)] at hv288_2; replace hv288_2 := Option.some.inj (hv288_2.symm.trans hx288_2); rw [hv288_2] at ge288_2; have HL288_2 := Aside0.mk (show Kd.R (Kd.int .u8) 5 _ _ _ _ ((rd_T41 y287 x5_1).f2) from ge288_2); clear hv288_2 ge288_2; have HX288_2 := Aside0.mk hx288_2; (try clear hcc288); (try clear hce288); (first | simp only [add_plain] at hx288_0 | simp only [add_at] at hx288_0 | simp only [Addr.add, Nat.zero_add] at hx288_0 | skip); (first | simp only [add_plain] at hx288_1 | simp only [add_at] at hx288_1 | simp only [Addr.add, Nat.zero_add] at hx288_1 | skip); (first | simp only [add_plain] at hx288_2 | simp only [add_at] at hx288_2 | simp only [Addr.add, Nat.zero_add] at hx288_2 | skip); have HR288_1 := Aside0.mk hi288_1; have HC288_1 := Aside0.mk hl288_1; clear hi288_1 hl288_1; have HR288_2 := Aside0.mk hi288_2; have HC288_2 := Aside0.mk hl288_2; clear hi288_2 hl288_2; replace p288 := eq_true p288; replace q288 := eq_true q288; have hq13 : (x5_1 : Int) < (x0_1.length : Int) := (by have h_ : (x5_1 : Int) < ((x0_1.length : Int) : Int) := of_decide_eq_true hE; first | exact h_ | (have e_ := (Kd.S_reads' HO_0.out).1; omega) | simpa only [Ny287.out, List.length_set] using h_); obtain ⟨oki13, ce13, hcl13, hM13, hcc13, hok13, hbk13⟩ := Kd.S_borrow HO_0.out z41 (x5_1 : Int) (of_decide_eq_true hE) hq13; obtain ⟨ve13_1, ve13_2, rfl, ge13_1, ge13_2⟩ := k41_openM hM13; have hv13 := hcc13 1 _ rfl; rw [add_field _ _ 1 (by omega)] at hv13; replace hv13 := Option.some.inj (hv13.symm.trans HX288_1.out); subst hv13; clear hcc13 hcl13; replace ge13_1 := (show Kd.R Kd.string 9 _ _ _ _ ((rd_T41 y287 x5_1).f1) from ge13_1)) | ((with_reducible refine gate_callee (f := 11) rfl ?_); refine goesL_ (some 26) rfl rfl Try.func11 (by kernel_rfl) rfl #[.slice A288_1 ((rd_T41 y287 x5_1).f1).length c288_1, .int .i64 (wrap64 (x1_1 + 1))] rfl aE ?_; (with_reducible refine (laws_markStringS.calls k1 (fun k_ => some k_ = (.slice A288_1 ((rd_T41 y287 x5_1).f1).length c288_1 : Value).ownBlock) (.slice A288_1 ((rd_T41 y287 x5_1).f1).length c288_1) ((rd_T41 y287 x5_1).f1) (wrap64 (x1_1 + 1)) t289 t290 w0 _ ?side1 ?side2 A7.out).mono ?_); (case side1 => repeat (first | (with_reducible first | exact HB.out | apply below_alloc | apply pw_below_drewN | apply below_drew1) | exact HB.out)); (case side2 => exact Kd.R_tight rfl HL288_1.out); rintro e w14 ⟨rfl, hy0, hb, hkp⟩; refine ⟨_, rfl, ?_⟩; have hg_ : w12.grownBy w14 ((.slice A288_1 ((rd_T41 y287 x5_1).f1).length c288_1) : Value).ownBlock := grown_of_kept (lU) hb hkp; have hp_ : Kd.S k41 41 w14 w0.heap.size (fun k_ => (P0_ k_ ∨ w.heap.size ≤ k_)) (.slice (some ⟨go6, 0, none⟩) x0_1.length co9) y291 := (by rw [Ny291.out]; exact hbk13 hg_ (fun k_ e_ => ge13_1.1 k_ e_) (k41_mkM _ _ _ (⟨(rd_T41 y287 x5_1).f0, t290, (rd_T41 y287 x5_1).f2⟩ : S41) (Kd.R_reok rfl hy0 (fun k_ e_ => ge13_1.1 k_ e_)) (Kd.R_over' (v := (.slice A288_1 ((rd_T41 y287 x5_1).f1).length c288_1)) ge13_2 (Kd.R_typed ge13_1) (by decide) hg_))); replace HO_0 := Aside0.mk hp_; replace HK := Aside0.mk (Kept.then_ (S := (fun k_ => P0_ k_)) (by repeat (first | (with_reducible first | exact HK.out | apply Kept.alloc | apply Kept.drewN | apply Kept.drew) | exact HK.out)) hkp (fun k_ hs_ => (fun e_ => (HL288_1.out.1 k_ e_.symm).1) hs_)); replace HB := Aside0.mk hb; clear HL288_1 HL288_2; (try clear hb); (try clear hkp); (try clear hg_); (try clear hp_); (try clear hy0); have p292 : 0 ≤ (x5_1 : Int) := of_decide_eq_true hE; have q292 : x5_1 < (y291.length : Int) := (by have h_ : (x5_1 : Int) < ((x0_1.length : Int) : Int) := of_decide_eq_true hE; first | (have e_ := (Kd.S_reads' HO_0.out).1; omega) | simpa only [Ny287.out, Ny291.out, List.length_set] using h_); have ql292 : ((x5_1 : Int) < ((x0_1.length : Int) : Int)) = True := eq_true (of_decide_eq_true hE); obtain ⟨ad292, A292_1, c292_1, A292_2, c292_2, e292, hx292_0, hx292_1, hx292_2, hl292_1, hi292_1, hl292_2, hi292_2⟩ := at_T41 (Kd.S_reads' HO_0.out).2.2 x5_1 p292 q292; obtain rfl : (⟨go6, 0, none⟩ : Addr) = ad292 := (by injection e292); obtain ⟨ce292, hce292, hMe292, hcc292⟩ := Kd.S_get HO_0.out z41 x5_1 p292 (by first | exact q292 | exact of_decide_eq_true hE | (have e_ := (Kd.S_reads' HO_0.out).1; omega)); obtain ⟨ve292_1, ve292_2, rfl, ge292_1, ge292_2⟩ := k41_openM hMe292; have hv292_1 := hcc292 1 _ rfl; rw [add_field _ _ 1 (by omega)] at hv292_1; replace hv292_1 := Option.some.inj (hv292_1.symm.trans hx292_1); rw [hv292_1] at ge292_1; have HL292_1 := Aside0.mk (show Kd.R Kd.string 9 _ _ _ _ ((rd_T41 y291 x5_1).f1) from ge292_1); clear hv292_1 ge292_1; have HX292_1 := Aside0.mk hx292_1; have hv292_2 := hcc292 2 _ rfl; rw [add_field _ _ 2 (by omega)] at hv292_2; replace hv292_2 := Option.some.inj (hv292_2.symm.trans hx292_2); rw [hv292_2] at ge292_2; have HL292_2 := Aside0.mk (show Kd.R (Kd.int .u8) 5 _ _ _ _ ((rd_T41 y291 x5_1).f2) from ge292_2); clear hv292_2 ge292_2; have HX292_2 := Aside0.mk hx292_2; (try clear hcc292); (try clear hce292); (first | simp only [add_plain] at hx292_0 | simp only [add_at] at hx292_0 | simp only [Addr.add, Nat.zero_add] at hx292_0 | skip); (first | simp only [add_plain] at hx292_1 | simp only [add_at] at hx292_1 | simp only [Addr.add, Nat.zero_add] at hx292_1 | skip); (first | simp only [add_plain] at hx292_2 | simp only [add_at] at hx292_2 | simp only [Addr.add, Nat.zero_add] at hx292_2 | skip); have HR292_1 := Aside0.mk hi292_1; have HC292_1 := Aside0.mk hl292_1; clear hi292_1 hl292_1; have HR292_2 := Aside0.mk hi292_2; have HC292_2 := Aside0.mk hl292_2; clear hi292_2 hl292_2; replace p292 := eq_true p292; replace q292 := eq_true q292; have hq15 : (x5_1 : Int) < (x0_1.length : Int) := (by have h_ : (x5_1 : Int) < ((x0_1.length : Int) : Int) := of_decide_eq_true hE; first | exact h_ | (have e_ := (Kd.S_reads' HO_0.out).1; omega) | simpa only [Ny287.out, Ny291.out, List.length_set] using h_); obtain ⟨oki15, ce15, hcl15, hM15, hcc15, hok15, hbk15⟩ := Kd.S_borrow HO_0.out z41 (x5_1 : Int) (of_decide_eq_true hE) hq15; obtain ⟨ve15_1, ve15_2, rfl, ge15_1, ge15_2⟩ := k41_openM hM15; have hv15 := hcc15 2 _ rfl; rw [add_field _ _ 2 (by omega)] at hv15; replace hv15 := Option.some.inj (hv15.symm.trans HX292_2.out); subst hv15; clear hcc15 hcl15; replace ge15_2 := (show Kd.R (Kd.int .u8) 5 _ _ _ _ ((rd_T41 y291 x5_1).f2) from ge15_2)) | ((with_reducible refine gate_callee (f := 22) rfl ?_); refine goesL_ (some 33) rfl rfl Try.func22 (by kernel_rfl) rfl #[.slice A292_2 ((rd_T41 y291 x5_1).f2).length c292_2, .int .i64 t289] rfl aE ?_; (with_reducible refine (laws_markByteS.calls k1 (fun k_ => some k_ = (.slice A292_2 ((rd_T41 y291 x5_1).f2).length c292_2 : Value).ownBlock) (.slice A292_2 ((rd_T41 y291 x5_1).f2).length c292_2) ((rd_T41 y291 x5_1).f2) t289 t293 t294 w0 _ ?side1 ?side2 A8.out).mono ?_); (case side1 => repeat (first | (with_reducible first | exact HB.out | apply below_alloc | apply pw_below_drewN | apply below_drew1) | exact HB.out)); (case side2 => exact Kd.R_tight rfl HL292_2.out); rintro e w16 ⟨rfl, hy0, hb, hkp⟩; refine ⟨_, rfl, ?_⟩; have hg_ : w14.grownBy w16 ((.slice A292_2 ((rd_T41 y291 x5_1).f2).length c292_2) : Value).ownBlock := grown_of_kept (lU) hb hkp; have hp_ : Kd.S k41 41 w16 w0.heap.size (fun k_ => (P0_ k_ ∨ w.heap.size ≤ k_)) (.slice (some ⟨go6, 0, none⟩) x0_1.length co9) y295 := (by rw [Ny295.out]; exact hbk15 hg_ (fun k_ e_ => ge15_2.1 k_ e_) (k41_mkM _ _ _ (⟨(rd_T41 y291 x5_1).f0, (rd_T41 y291 x5_1).f1, t294⟩ : S41) (Kd.R_over' (v := (.slice A292_2 ((rd_T41 y291 x5_1).f2).length c292_2)) ge15_1 (Kd.R_typed ge15_2) (by decide) hg_) (Kd.R_reok rfl hy0 (fun k_ e_ => ge15_2.1 k_ e_)))); replace HO_0 := Aside0.mk hp_; replace HK := Aside0.mk (Kept.then_ (S := (fun k_ => P0_ k_)) (by repeat (first | (with_reducible first | exact HK.out | apply Kept.alloc | apply Kept.drewN | apply Kept.drew) | exact HK.out)) hkp (fun k_ hs_ => (fun e_ => (HL292_2.out.1 k_ e_.symm).1) hs_)); replace HB := Aside0.mk hb; clear HL292_1 HL292_2; (try clear hb); (try clear hkp); (try clear hg_); (try clear hp_); (try clear hy0)))
     go_roundg k1
     case measure => have := HK1.out; omega
     case rel => exact ⟨(y295), (t293), (wrap64 (x5_1 + 1)), tE, tE, H', ⟨by have := HK1.out; omega⟩, ⟨by (with_reducible repeat (first | apply Kd.S_alloc | apply Kd.S_drewN | apply Kd.S_drew)); exact HO_0.out⟩, ⟨by repeat (first | (with_reducible first | exact HK.out | apply Kept.alloc | apply Kept.drewN | apply Kept.drew) | exact HK.out)⟩, ⟨by repeat (first | (with_reducible first | exact HB.out | apply below_alloc | apply pw_below_drewN | apply below_drew1) | exact HB.out)⟩⟩
    ·rw [if_neg c5] at H
     exact absurd H (by simp)
   ·rw [if_neg c3] at H
    have c3b0 : decide (x5_1 < (x0_1.length : Int)) = false := decide_eq_false c3
    clear c3
    simp only [Option.some.injEq, Prod.mk.injEq] at H
    obtain ⟨rfl, rfl⟩ := H
    obtain ⟨Ao17, co17, eo17⟩ := Kd.S_slice HO_0.out
    subst eo17
    go_wp2
    go_ret
    exact ⟨eE, by (with_reducible repeat (first | apply Kd.S_alloc | apply Kd.S_drewN | apply Kd.S_drew)); exact HO_0.out, lU, by repeat (first | (with_reducible first | exact HK.out | apply Kept.alloc | apply Kept.drewN | apply Kept.drew) | exact HK.out)⟩
def laws_heldStringS.l0 : Nat → List ByteArray → Int → Int → Option (Int)
 | 0, _, _, _ => none
 | k + 1, x0, x1, x5 => if x5 < (x0.length : Int) then (if 0 ≤ x5 then ((laws_markText.f k x1).bind fun t297 => (if (rdOf ByteArray.empty x0 x5).toList = t297.toList then (laws_heldStringS.l0 k x0 (wrap64 (x1 + 1)) (wrap64 (x5 + 1))) else (some (-1)))) else (none)) else (some x1)
def laws_heldStringS.f (k : Nat) (l0 : List ByteArray) (a1 : Int) : Option (Int) := laws_heldStringS.l0 k l0 a1 0
theorem laws_heldStringS.mono_l : ∀ k, (∀ y0 y1 y2, LeO (laws_heldStringS.l0 k y0 y1 y2) (laws_heldStringS.l0 (k + 1) y0 y1 y2))
 | 0 => fun _ _ _ r h => by simp [laws_heldStringS.l0] at h
 | k + 1 => by
  have ih0 := laws_heldStringS.mono_l k
  ·intro y0 y1 y2
   unfold laws_heldStringS.l0
   repeat' first
   | (with_reducible exact ih0 _ _ _)
   | (with_reducible exact laws_markText.mono _ _)
   | (with_reducible first | exact LeO.refl _ | exact LeO.none _ | refine LeO.ite ?_ ?_ | refine LeO.bind ?_ (fun _ => ?_))
   | exact ih0 _ _ _
   | exact laws_markText.mono _ _ | exact LeO.none _ | refine LeO.ite ?_ ?_ | refine LeO.bind ?_ (fun _ => ?_)
theorem laws_heldStringS.mono : ∀ a0 a1 k, LeO (laws_heldStringS.f k a0 a1) (laws_heldStringS.f (k + 1) a0 a1) := by
 intro a0 a1 k
 have ih0 := laws_heldStringS.mono_l k
 unfold laws_heldStringS.f
 repeat' first
   | (with_reducible exact ih0 _ _ _)
   | (with_reducible exact laws_markText.mono _ _)
   | (with_reducible first | exact LeO.refl _ | exact LeO.none _ | refine LeO.ite ?_ ?_ | refine LeO.bind ?_ (fun _ => ?_))
   | exact ih0 _ _ _
   | exact laws_markText.mono _ _ | exact LeO.none _ | refine LeO.ite ?_ ?_ | refine LeO.bind ?_ (fun _ => ?_)
set_option maxHeartbeats 8000000 in
set_option maxRecDepth 100000 in
theorem laws_heldStringS.calls (k : Nat) (A0 : Option Addr) (c0 : Nat) (l0 : List ByteArray) (a1 : Int) (r : Int) (w : World) (hr0 : Kd.C Kd.string w A0 l0.length l0) (hc0 : l0.length ≤ c0) (h : laws_heldStringS.f k l0 a1 = some r) :
  Calls Try.prog 12 #[.slice A0 l0.length c0, .int .i64 a1] w fun e w' => e = .returned (.int .i64 r) ∧ Below w.heap.size w w' := by
 have HR0 := Aside0.mk hr0
 have HC0 := Aside0.mk hc0
 clear hr0 hc0
 have HB := Aside0.mk (Below.refl w.heap.size w)
 have H : (laws_heldStringS.l0 k l0 a1 0) = some r := h
 clear h
 have H' := Aside0.mk H
 clear H
 go_enter Try.func12, Try.ntmps12
 go_wp2
 go_loopg [1, 5] k (fun kq v1 v5 w' => ∃ (x1_1 : Int) (x5_1 : Int), v1 = .int .i64 x1_1 ∧ v5 = .int .i64 x5_1 ∧ Aside0 (laws_heldStringS.l0 kq l0 x1_1 x5_1 = some r) ∧ Aside0 (kq ≤ k) ∧ Aside0 (Below w.heap.size w w'))
 case atStart => exact ⟨(a1), (0), tE, tE, H', ⟨Nat.le_refl _⟩, ⟨by repeat (first | (with_reducible first | exact HB.out | apply below_alloc | apply pw_below_drewN | apply below_drew1) | exact HB.out)⟩⟩
 case round =>
  clear H'
  try clear c1
  try clear p2
  obtain ⟨x1_1, x5_1, rfl, rfl, HA, HK1, HB⟩ := hrel
  cases gk with
  | zero => exact absurd HA.out (by simp [laws_heldStringS.l0])
  | succ k1 =>
   have H := HA.out
   clear HA
   simp only [laws_heldStringS.l0] at H
   by_cases c3 : x5_1 < (l0.length : Int)
   ·rw [if_pos c3] at H
    have c3b0 : decide (x5_1 < (l0.length : Int)) = true := decide_eq_true c3
    clear c3
    by_cases c4 : 0 ≤ x5_1
    ·rw [if_pos c4] at H
     have c4b0 : decide (0 ≤ x5_1) = true := decide_eq_true c4
     clear c4
     replace H := Option.bind_eq_some_iff.mp H
     obtain ⟨t297, A50, H⟩ := H
     replace H : (if (rdOf ByteArray.empty l0 x5_1).toList = t297.toList then (laws_heldStringS.l0 k1 l0 (wrap64 (x1_1 + 1)) (wrap64 (x5_1 + 1))) else (some (-1))) = some r := H
     have A5 := Aside0.mk A50
     clear A50
     by_cases c6 : (rdOf ByteArray.empty l0 x5_1).toList = t297.toList
     ·rw [if_pos c6] at H
      have c6b0 : ((rdOf ByteArray.empty l0 x5_1).toList == t297.toList) = true := beq_iff_eq.mpr c6
      have c6b1 : ((rdOf ByteArray.empty l0 x5_1).toList != t297.toList) = false := bne_eq_false_iff_eq.mpr c6
      clear c6
      have H' := Aside0.mk H
      clear H
      try go_wp2
      replace HB := Aside0.mk (below_drew1 HB.out)
      have p296 : 0 ≤ (x5_1 : Int) := of_decide_eq_true hE
      have q296 : x5_1 < (l0.length : Int) := of_decide_eq_true hE
      obtain ⟨ad296, e296, hx296_0⟩ := Kd.at_string HR0.out x5_1 p296 q296
      have hw296_0 := hx296_0
      cases e296
      replace hx296_0 := (HB.out.cell (World.block_lt_of_cell? w _ hx296_0)).trans hx296_0
      replace p296 := eq_true p296
      replace q296 := eq_true q296
      refine start_ (n := 7) (S := fun w' => w'.cell? (ad296.add (x5_1).toNat) = some (.string (rdOf ByteArray.empty l0 x5_1))) (ds := []) #[false, false, false, false, false, false, false] (by kernel_rfl) rfl rfl (((HB.out.cell (World.block_lt_of_cell? w _ hw296_0)).trans hw296_0)) (fun hHeld => ?_)
      generalize wr.drew = w7 at HB hx296_0 hHeld ⊢
      refine pure_ (i := 0) (N := some 12) (v := ?_) (a' := ?_) (bz 7 1) rfl rfl (by kernel_rfl) (fun _ _ _ h => h) (Or.inl ⟨by rfl, ?_⟩) ?_ ?_
      rotate_left
      ·intro w'
       go_simp
       with_reducible rfl
      rotate_left
      ·simp only [Act.put, List.setIfInBounds_toArray, List.set_cons_zero, List.set_cons_succ, i64_w, i32_w]
       rfl
      refine pure_ (i := 1) (N := some 13) (v := ?_) (a' := ?_) (bz 7 3) rfl rfl (by kernel_rfl) (fun _ _ _ h => h) (Or.inl ⟨by rfl, ?_⟩) ?_ ?_
      rotate_left
      ·intro w'
       go_simp
       with_reducible rfl
      rotate_left
      ·simp only [Act.put, List.setIfInBounds_toArray, List.set_cons_zero, List.set_cons_succ, i64_w, i32_w]
       rfl
      refine pure_ (i := 2) (N := some 14) (v := ?_) (a' := ?_) (bz 7 7) rfl rfl (by kernel_rfl) (fun _ _ _ h => h) (Or.inl ⟨by rfl, ?_⟩) ?_ ?_
      rotate_left
      ·intro w'
       go_simp
       with_reducible rfl
      rotate_left
      ·simp only [Act.put, List.setIfInBounds_toArray, List.set_cons_zero, List.set_cons_succ, i64_w, i32_w]
       rfl
      refine pure_ (i := 4) (N := some 16) (v := ?_) (a' := ?_) (bz 7 23) rfl rfl (by kernel_rfl) (fun _ _ _ h => h) (Or.inl ⟨by rfl, ?_⟩) ?_ ?_
      rotate_left
      ·intro w'
       go_simp
       with_reducible rfl
      rotate_left
      ·simp only [Act.put, List.setIfInBounds_toArray, List.set_cons_zero, List.set_cons_succ, i64_w, i32_w]
       rfl
      refine take_ (i := 3) (N := some 15) (v := ?_) (a' := ?_) (bz 7 31) rfl rfl (by kernel_rfl) (fun _ _ _ h => h) (Or.inl ⟨by rfl, ?_⟩) hHeld ?_ ?_
      rotate_left
      ·intro w' s0
       go_simp
       with_reducible rfl
      rotate_left
      ·simp only [Act.put, List.setIfInBounds_toArray, List.set_cons_zero, List.set_cons_succ, i64_w, i32_w]
       rfl
      refine one_ (i := 5) (N := some 17) (bz 7 63) rfl rfl (by kernel_rfl) (by decide) (fun K hK => ?_)
      refine goes_ Try.func21 (by kernel_rfl) rfl #[.int .i64 x1_1] (by rfl) rfl rfl aE ?_
      with_reducible refine (laws_markText.calls k1 x1_1 t297 _ A5.out).mono ?_
      rintro e w8 ⟨rfl, hb⟩
      refine ⟨_, rfl, ?_⟩
      replace HB := bH (lU) hb
      (try clear hb)
      (try clear hb2)
      (try clear hk)
      (try clear hi)
      refine hK.out _ _ (((HB.out.cell (World.block_lt_of_cell? w _ hw296_0)).trans hw296_0)) (fun hHeld => ?_)
      clear hK K
      refine norm_ (a' := ?_) ?_ ?_
      rotate_left
      ·show Act.put _ (some 17) _ = _
       simp only [Act.put, List.setIfInBounds_toArray, List.set_cons_zero, List.set_cons_succ, i64_w, i32_w]
       rfl
      refine pure_ (i := 6) (N := some 18) (v := ?_) (a' := ?_) (bz 7 127) rfl rfl (by kernel_rfl) (fun _ _ _ h => h) (Or.inl ⟨by rfl, ?_⟩) ?_ ?_
      rotate_left
      ·intro w'
       go_simp
       with_reducible rfl
      rotate_left
      ·simp only [Act.put, List.setIfInBounds_toArray, List.set_cons_zero, List.set_cons_succ, i64_w, i32_w]
       rfl
      refine done_ (by kernel_rfl) ?_
      try go_wp2
      go_roundg k1
      case measure => have := HK1.out; omega
      case rel => exact ⟨(wrap64 (x1_1 + 1)), (wrap64 (x5_1 + 1)), tE, tE, H', ⟨by have := HK1.out; omega⟩, ⟨by repeat (first | (with_reducible first | exact HB.out | apply below_alloc | apply pw_below_drewN | apply below_drew1) | exact HB.out)⟩⟩
     ·rw [if_neg c6] at H
      have c6b0 : ((rdOf ByteArray.empty l0 x5_1).toList == t297.toList) = false := beq_eq_false_iff_ne.mpr c6
      have c6b1 : ((rdOf ByteArray.empty l0 x5_1).toList != t297.toList) = true := bne_iff_ne.mpr c6
      obtain rfl := Option.some.inj H
      try go_wp2
      replace HB := Aside0.mk (below_drew1 HB.out)
      have p296 : 0 ≤ (x5_1 : Int) := of_decide_eq_true hE
      have q296 : x5_1 < (l0.length : Int) := of_decide_eq_true hE
      obtain ⟨ad296, e296, hx296_0⟩ := Kd.at_string HR0.out x5_1 p296 q296
      have hw296_0 := hx296_0
      cases e296
      replace hx296_0 := (HB.out.cell (World.block_lt_of_cell? w _ hx296_0)).trans hx296_0
      replace p296 := eq_true p296
      replace q296 := eq_true q296
      refine start_ (n := 7) (S := fun w' => w'.cell? (ad296.add (x5_1).toNat) = some (.string (rdOf ByteArray.empty l0 x5_1))) (ds := []) #[false, false, false, false, false, false, false] (by kernel_rfl) rfl rfl (((HB.out.cell (World.block_lt_of_cell? w _ hw296_0)).trans hw296_0)) (fun hHeld => ?_)
      generalize wr.drew = w9 at HB hx296_0 hHeld ⊢
      refine pure_ (i := 0) (N := some 12) (v := ?_) (a' := ?_) (bz 7 1) rfl rfl (by kernel_rfl) (fun _ _ _ h => h) (Or.inl ⟨by rfl, ?_⟩) ?_ ?_
      rotate_left
      ·intro w'
       go_simp
       with_reducible rfl
      rotate_left
      ·simp only [Act.put, List.setIfInBounds_toArray, List.set_cons_zero, List.set_cons_succ, i64_w, i32_w]
       rfl
      refine pure_ (i := 1) (N := some 13) (v := ?_) (a' := ?_) (bz 7 3) rfl rfl (by kernel_rfl) (fun _ _ _ h => h) (Or.inl ⟨by rfl, ?_⟩) ?_ ?_
      rotate_left
      ·intro w'
       go_simp
       with_reducible rfl
      rotate_left
      ·simp only [Act.put, List.setIfInBounds_toArray, List.set_cons_zero, List.set_cons_succ, i64_w, i32_w]
       rfl
      refine pure_ (i := 2) (N := some 14) (v := ?_) (a' := ?_) (bz 7 7) rfl rfl (by kernel_rfl) (fun _ _ _ h => h) (Or.inl ⟨by rfl, ?_⟩) ?_ ?_
      rotate_left
      ·intro w'
       go_simp
       with_reducible rfl
      rotate_left
      ·simp only [Act.put, List.setIfInBounds_toArray, List.set_cons_zero, List.set_cons_succ, i64_w, i32_w]
       rfl
      refine pure_ (i := 4) (N := some 16) (v := ?_) (a' := ?_) (bz 7 23) rfl rfl (by kernel_rfl) (fun _ _ _ h => h) (Or.inl ⟨by rfl, ?_⟩) ?_ ?_
      rotate_left
      ·intro w'
       go_simp
       with_reducible rfl
      rotate_left
      ·simp only [Act.put, List.setIfInBounds_toArray, List.set_cons_zero, List.set_cons_succ, i64_w, i32_w]
       rfl
      refine take_ (i := 3) (N := some 15) (v := ?_) (a' := ?_) (bz 7 31) rfl rfl (by kernel_rfl) (fun _ _ _ h => h) (Or.inl ⟨by rfl, ?_⟩) hHeld ?_ ?_
      rotate_left
      ·intro w' s0
       go_simp
       with_reducible rfl
      rotate_left
      ·simp only [Act.put, List.setIfInBounds_toArray, List.set_cons_zero, List.set_cons_succ, i64_w, i32_w]
       rfl
      refine one_ (i := 5) (N := some 17) (bz 7 63) rfl rfl (by kernel_rfl) (by decide) (fun K hK => ?_)
      refine goes_ Try.func21 (by kernel_rfl) rfl #[.int .i64 x1_1] (by rfl) rfl rfl aE ?_
      with_reducible refine (laws_markText.calls k1 x1_1 t297 _ A5.out).mono ?_
      rintro e w10 ⟨rfl, hb⟩
      refine ⟨_, rfl, ?_⟩
      replace HB := bH (lU) hb
      (try clear hb)
      (try clear hb2)
      (try clear hk)
      (try clear hi)
      refine hK.out _ _ (((HB.out.cell (World.block_lt_of_cell? w _ hw296_0)).trans hw296_0)) (fun hHeld => ?_)
      clear hK K
      refine norm_ (a' := ?_) ?_ ?_
      rotate_left
      ·show Act.put _ (some 17) _ = _
       simp only [Act.put, List.setIfInBounds_toArray, List.set_cons_zero, List.set_cons_succ, i64_w, i32_w]
       rfl
      refine pure_ (i := 6) (N := some 18) (v := ?_) (a' := ?_) (bz 7 127) rfl rfl (by kernel_rfl) (fun _ _ _ h => h) (Or.inl ⟨by rfl, ?_⟩) ?_ ?_
      rotate_left
      ·intro w'
       go_simp
       with_reducible rfl
      rotate_left
      ·simp only [Act.put, List.setIfInBounds_toArray, List.set_cons_zero, List.set_cons_succ, i64_w, i32_w]
       rfl
      refine done_ (by kernel_rfl) ?_
      try go_wp2
      go_ret
      exact ⟨eE, lU⟩
    ·rw [if_neg c4] at H
     exact absurd H (by simp)
   ·rw [if_neg c3] at H
    have c3b0 : decide (x5_1 < (l0.length : Int)) = false := decide_eq_false c3
    clear c3
    obtain rfl := Option.some.inj H
    go_wp2
    go_ret
    exact ⟨eE, lU⟩
end Go.Proofs.Ytehkpnnidbghhab.PFnExactStaleBetween
namespace Go.Proofs.Ytehkpnnidbghhab.PFnExactStaleBetween
open Go.RowKit Go.Proofs.YtehkpnnidbghhabW.PrintWords Go.Proofs.YtehkpnnidbghhabW.PrintLast Go.Proofs.YtehkpnnidbghhabW.PrintMore
attribute [local go_sem] max2_int min2_int max_two min_two max_three min_three max_four min_four   -- for this text's walks alone
set_option linter.unusedVariables false
set_option linter.unusedSimpArgs false
mutual
def laws_FnExactStaleBetween.j0 : Nat → List (S37) → List (S37) → List ByteArray → Bool → List (S41) → List (S41) → List ByteArray → Bool → Bool → Option (Bool)
 | 0, _, _, _, _, _, _, _, _, _ => none
 | k + 1, x0, x1, x6, x7, x8, x9, x10, x11, x53 => if x53 = true then (some false) else ((laws_toAssetS.f k x0).bind fun t321 => ((laws_eqAssetS.f k x8 t321).bind fun t324 => (if t324 = true then ((laws_toAssetS.f k x1).bind fun t325 => ((laws_eqAssetS.f k x9 t325).bind fun t328 => (if t328 = true then ((laws_markAssetS.f k x8 1).bind fun bt329 => ((laws_markAssetS.f k x9 bt329.1).bind fun bt331 => (if bt331.1 < 0 then (laws_FnExactStaleBetween.j1 k x0 x1 x6 x7 x10 true) else ((laws_eqStringS.f k x10 x6).bind fun t333 => (if t333 = true then (laws_FnExactStaleBetween.j1 k x0 x1 x6 x7 x10 (x11 != x7)) else (laws_FnExactStaleBetween.j1 k x0 x1 x6 x7 x10 true)))))) else (some false)))) else (some false))))
def laws_FnExactStaleBetween.j1 : Nat → List (S37) → List (S37) → List ByteArray → Bool → List ByteArray → Bool → Option (Bool)
 | 0, _, _, _, _, _, _ => none
 | k + 1, x0, x1, x6, x7, x10, x82 => if x82 = true then (some false) else ((laws_markStringS.f k x10 1).bind fun bt334 => ((laws_heldStringS.f k bt334.2 1).bind fun t336 => (if t336 < 0 then (some false) else (if t336 = bt334.1 then ((laws_toAssetS.f k x0).bind fun t337 => ((laws_toAssetS.f k x1).bind fun t340 => ((impl_StaleBetween.f k t337 t340).bind fun bt343 => ((laws_eqStringS.f k bt343.1 x6).bind fun t347 => (if t347 = true then (laws_FnExactStaleBetween.j2 k bt334.2 bt334.1 (bt343.2 != x7)) else (laws_FnExactStaleBetween.j2 k bt334.2 bt334.1 true)))))) else (some false)))))
def laws_FnExactStaleBetween.j2 : Nat → List ByteArray → Int → Bool → Option (Bool)
 | 0, _, _, _ => none
 | k + 1, x10, x13, x110 => if x110 = true then (some false) else ((laws_heldStringS.f k x10 1).bind fun t348 => (if t348 < 0 then (some false) else (if t348 = x13 then (some true) else (some false))))
end
def laws_FnExactStaleBetween.f (k : Nat) (l0 : List (S37)) (l1 : List (S37)) : Option (Bool) := (laws_szAssetS.f k l0 1048576).bind fun t298 => (if t298 < 0 then (some true) else ((laws_szAssetS.f k l1 t298).bind fun t299 => (if t299 < 0 then (some true) else ((laws_toAssetS.f k l0).bind fun t300 => ((laws_toAssetS.f k l1).bind fun t303 => ((spec_StaleBetween.f k t300 t303).bind fun bt306 => ((laws_toAssetS.f k l0).bind fun t310 => ((laws_toAssetS.f k l1).bind fun t313 => ((impl_StaleBetween.f k t310 t313).bind fun bt316 => ((laws_eqStringS.f k bt316.1 bt306.1).bind fun t320 => (if t320 = true then (laws_FnExactStaleBetween.j0 k l0 l1 bt306.1 bt306.2 t310 t313 bt316.1 bt316.2 (bt316.2 != bt306.2)) else (laws_FnExactStaleBetween.j0 k l0 l1 bt306.1 bt306.2 t310 t313 bt316.1 bt316.2 true))))))))))))
theorem laws_FnExactStaleBetween.mono_l : ∀ k, (∀ y0 y1 y2 y3 y4 y5 y6 y7 y8, LeO (laws_FnExactStaleBetween.j0 k y0 y1 y2 y3 y4 y5 y6 y7 y8) (laws_FnExactStaleBetween.j0 (k + 1) y0 y1 y2 y3 y4 y5 y6 y7 y8)) ∧ (∀ y0 y1 y2 y3 y4 y5, LeO (laws_FnExactStaleBetween.j1 k y0 y1 y2 y3 y4 y5) (laws_FnExactStaleBetween.j1 (k + 1) y0 y1 y2 y3 y4 y5)) ∧ (∀ y0 y1 y2, LeO (laws_FnExactStaleBetween.j2 k y0 y1 y2) (laws_FnExactStaleBetween.j2 (k + 1) y0 y1 y2))
 | 0 => ⟨fun _ _ _ _ _ _ _ _ _ r h => by simp [laws_FnExactStaleBetween.j0] at h, fun _ _ _ _ _ _ r h => by simp [laws_FnExactStaleBetween.j1] at h, fun _ _ _ r h => by simp [laws_FnExactStaleBetween.j2] at h⟩
 | k + 1 => by
  obtain ⟨ih0, ih1, ih2⟩ := laws_FnExactStaleBetween.mono_l k
  refine ⟨?_, ?_, ?_⟩
  ·intro y0 y1 y2 y3 y4 y5 y6 y7 y8
   unfold laws_FnExactStaleBetween.j0
   repeat' first
   | (with_reducible exact ih0 _ _ _ _ _ _ _ _ _)
   | (with_reducible exact ih1 _ _ _ _ _ _)
   | (with_reducible exact ih2 _ _ _)
   | (with_reducible exact impl_StaleBetween.mono _ _ _)
   | (with_reducible exact laws_eqAssetS.mono _ _ _)
   | (with_reducible exact laws_eqStringS.mono _ _ _)
   | (with_reducible exact laws_heldStringS.mono _ _ _)
   | (with_reducible exact laws_markAssetS.mono _ _ _)
   | (with_reducible exact laws_markStringS.mono _ _ _)
   | (with_reducible exact laws_szAssetS.mono _ _ _)
   | (with_reducible exact laws_toAssetS.mono _ _)
   | (with_reducible exact spec_StaleBetween.mono _ _ _)
   | (with_reducible first | exact LeO.refl _ | exact LeO.none _ | refine LeO.ite ?_ ?_ | refine LeO.bind ?_ (fun _ => ?_))
   | exact ih0 _ _ _ _ _ _ _ _ _
   | exact ih1 _ _ _ _ _ _
   | exact ih2 _ _ _
   | exact impl_StaleBetween.mono _ _ _
   | exact laws_eqAssetS.mono _ _ _
   | exact laws_eqStringS.mono _ _ _
   | exact laws_heldStringS.mono _ _ _
   | exact laws_markAssetS.mono _ _ _
   | exact laws_markStringS.mono _ _ _
   | exact laws_szAssetS.mono _ _ _
   | exact laws_toAssetS.mono _ _
   | exact spec_StaleBetween.mono _ _ _ | exact LeO.none _ | refine LeO.ite ?_ ?_ | refine LeO.bind ?_ (fun _ => ?_)
  ·intro y0 y1 y2 y3 y4 y5
   unfold laws_FnExactStaleBetween.j1
   repeat' first
   | (with_reducible exact ih0 _ _ _ _ _ _ _ _ _)
   | (with_reducible exact ih1 _ _ _ _ _ _)
   | (with_reducible exact ih2 _ _ _)
   | (with_reducible exact impl_StaleBetween.mono _ _ _)
   | (with_reducible exact laws_eqAssetS.mono _ _ _)
   | (with_reducible exact laws_eqStringS.mono _ _ _)
   | (with_reducible exact laws_heldStringS.mono _ _ _)
   | (with_reducible exact laws_markAssetS.mono _ _ _)
   | (with_reducible exact laws_markStringS.mono _ _ _)
   | (with_reducible exact laws_szAssetS.mono _ _ _)
   | (with_reducible exact laws_toAssetS.mono _ _)
   | (with_reducible exact spec_StaleBetween.mono _ _ _)
   | (with_reducible first | exact LeO.refl _ | exact LeO.none _ | refine LeO.ite ?_ ?_ | refine LeO.bind ?_ (fun _ => ?_))
   | exact ih0 _ _ _ _ _ _ _ _ _
   | exact ih1 _ _ _ _ _ _
   | exact ih2 _ _ _
   | exact impl_StaleBetween.mono _ _ _
   | exact laws_eqAssetS.mono _ _ _
   | exact laws_eqStringS.mono _ _ _
   | exact laws_heldStringS.mono _ _ _
   | exact laws_markAssetS.mono _ _ _
   | exact laws_markStringS.mono _ _ _
   | exact laws_szAssetS.mono _ _ _
   | exact laws_toAssetS.mono _ _
   | exact spec_StaleBetween.mono _ _ _ | exact LeO.none _ | refine LeO.ite ?_ ?_ | refine LeO.bind ?_ (fun _ => ?_)
  ·intro y0 y1 y2
   unfold laws_FnExactStaleBetween.j2
   repeat' first
   | (with_reducible exact ih0 _ _ _ _ _ _ _ _ _)
   | (with_reducible exact ih1 _ _ _ _ _ _)
   | (with_reducible exact ih2 _ _ _)
   | (with_reducible exact impl_StaleBetween.mono _ _ _)
   | (with_reducible exact laws_eqAssetS.mono _ _ _)
   | (with_reducible exact laws_eqStringS.mono _ _ _)
   | (with_reducible exact laws_heldStringS.mono _ _ _)
   | (with_reducible exact laws_markAssetS.mono _ _ _)
   | (with_reducible exact laws_markStringS.mono _ _ _)
   | (with_reducible exact laws_szAssetS.mono _ _ _)
   | (with_reducible exact laws_toAssetS.mono _ _)
   | (with_reducible exact spec_StaleBetween.mono _ _ _)
   | (with_reducible first | exact LeO.refl _ | exact LeO.none _ | refine LeO.ite ?_ ?_ | refine LeO.bind ?_ (fun _ => ?_))
   | exact ih0 _ _ _ _ _ _ _ _ _
   | exact ih1 _ _ _ _ _ _
   | exact ih2 _ _ _
   | exact impl_StaleBetween.mono _ _ _
   | exact laws_eqAssetS.mono _ _ _
   | exact laws_eqStringS.mono _ _ _
   | exact laws_heldStringS.mono _ _ _
   | exact laws_markAssetS.mono _ _ _
   | exact laws_markStringS.mono _ _ _
   | exact laws_szAssetS.mono _ _ _
   | exact laws_toAssetS.mono _ _
   | exact spec_StaleBetween.mono _ _ _ | exact LeO.none _ | refine LeO.ite ?_ ?_ | refine LeO.bind ?_ (fun _ => ?_)
theorem laws_FnExactStaleBetween.mono : ∀ a0 a1 k, LeO (laws_FnExactStaleBetween.f k a0 a1) (laws_FnExactStaleBetween.f (k + 1) a0 a1) := by
 intro a0 a1 k
 obtain ⟨ih0, ih1, ih2⟩ := laws_FnExactStaleBetween.mono_l k
 unfold laws_FnExactStaleBetween.f
 repeat' first
   | (with_reducible exact ih0 _ _ _ _ _ _ _ _ _)
   | (with_reducible exact ih1 _ _ _ _ _ _)
   | (with_reducible exact ih2 _ _ _)
   | (with_reducible exact impl_StaleBetween.mono _ _ _)
   | (with_reducible exact laws_eqAssetS.mono _ _ _)
   | (with_reducible exact laws_eqStringS.mono _ _ _)
   | (with_reducible exact laws_heldStringS.mono _ _ _)
   | (with_reducible exact laws_markAssetS.mono _ _ _)
   | (with_reducible exact laws_markStringS.mono _ _ _)
   | (with_reducible exact laws_szAssetS.mono _ _ _)
   | (with_reducible exact laws_toAssetS.mono _ _)
   | (with_reducible exact spec_StaleBetween.mono _ _ _)
   | (with_reducible first | exact LeO.refl _ | exact LeO.none _ | refine LeO.ite ?_ ?_ | refine LeO.bind ?_ (fun _ => ?_))
   | exact ih0 _ _ _ _ _ _ _ _ _
   | exact ih1 _ _ _ _ _ _
   | exact ih2 _ _ _
   | exact impl_StaleBetween.mono _ _ _
   | exact laws_eqAssetS.mono _ _ _
   | exact laws_eqStringS.mono _ _ _
   | exact laws_heldStringS.mono _ _ _
   | exact laws_markAssetS.mono _ _ _
   | exact laws_markStringS.mono _ _ _
   | exact laws_szAssetS.mono _ _ _
   | exact laws_toAssetS.mono _ _
   | exact spec_StaleBetween.mono _ _ _ | exact LeO.none _ | refine LeO.ite ?_ ?_ | refine LeO.bind ?_ (fun _ => ?_)
set_option maxHeartbeats 8000000 in
set_option maxRecDepth 100000 in
theorem laws_FnExactStaleBetween.calls (k : Nat) (A0 : Option Addr) (c0 : Nat) (l0 : List (S37)) (A1 : Option Addr) (c1 : Nat) (l1 : List (S37)) (r : Bool) (w : World) (hr0 : Kd.C k37 w A0 l0.length l0) (hc0 : l0.length ≤ c0) (hr1 : Kd.C k37 w A1 l1.length l1) (hc1 : l1.length ≤ c1) (h : laws_FnExactStaleBetween.f k l0 l1 = some r) :
  Calls Try.prog 3 #[.slice A0 l0.length c0, .slice A1 l1.length c1] w fun e w' => e = .returned (.bool r) ∧ Below w.heap.size w w' := by
 have HR0 := Aside0.mk hr0
 have HC0 := Aside0.mk hc0
 clear hr0 hc0
 have HR1 := Aside0.mk hr1
 have HC1 := Aside0.mk hc1
 clear hr1 hc1
 have HB := Aside0.mk (Below.refl w.heap.size w)
 have H : ((laws_szAssetS.f k l0 1048576).bind fun t298 => (if t298 < 0 then (some true) else ((laws_szAssetS.f k l1 t298).bind fun t299 => (if t299 < 0 then (some true) else ((laws_toAssetS.f k l0).bind fun t300 => ((laws_toAssetS.f k l1).bind fun t303 => ((spec_StaleBetween.f k t300 t303).bind fun bt306 => ((laws_toAssetS.f k l0).bind fun t310 => ((laws_toAssetS.f k l1).bind fun t313 => ((impl_StaleBetween.f k t310 t313).bind fun bt316 => ((laws_eqStringS.f k bt316.1 bt306.1).bind fun t320 => (if t320 = true then (laws_FnExactStaleBetween.j0 k l0 l1 bt306.1 bt306.2 t310 t313 bt316.1 bt316.2 (bt316.2 != bt306.2)) else (laws_FnExactStaleBetween.j0 k l0 l1 bt306.1 bt306.2 t310 t313 bt316.1 bt316.2 true))))))))))))) = some r := h
 clear h
 replace H := Option.bind_eq_some_iff.mp H
 obtain ⟨t298, A30, H⟩ := H
 replace H : (if t298 < 0 then (some true) else ((laws_szAssetS.f k l1 t298).bind fun t299 => (if t299 < 0 then (some true) else ((laws_toAssetS.f k l0).bind fun t300 => ((laws_toAssetS.f k l1).bind fun t303 => ((spec_StaleBetween.f k t300 t303).bind fun bt306 => ((laws_toAssetS.f k l0).bind fun t310 => ((laws_toAssetS.f k l1).bind fun t313 => ((impl_StaleBetween.f k t310 t313).bind fun bt316 => ((laws_eqStringS.f k bt316.1 bt306.1).bind fun t320 => (if t320 = true then (laws_FnExactStaleBetween.j0 k l0 l1 bt306.1 bt306.2 t310 t313 bt316.1 bt316.2 (bt316.2 != bt306.2)) else (laws_FnExactStaleBetween.j0 k l0 l1 bt306.1 bt306.2 t310 t313 bt316.1 bt316.2 true)))))))))))) = some r := H
 have A3 := Aside0.mk A30
 clear A30
 by_cases c4 : t298 < 0
 ·rw [if_pos c4] at H
  have c4b0 : decide (t298 < 0) = true := decide_eq_true c4
  clear c4
  obtain rfl := Option.some.inj H
  go_enter Try.func3, Try.ntmps3
  go_wp2_with (first | ((with_reducible refine gate_callee (f := 4) rfl ?_); refine goesL_ (some 19) rfl rfl Try.func4 (by kernel_rfl) rfl #[.slice A0 l0.length c0, .int .i64 1048576] rfl aE ?_; (with_reducible refine (laws_szAssetS.calls k _ _ l0 1048576 t298 _ ?side1 ?side2 A3.out).mono ?_); (case side1 => repeat (first | exact HR0.out | (with_reducible refine Kd.C_alloc ?_ _) | (with_reducible refine Kd.C_drewN ?_ _) | (with_reducible refine Kd.C_drew ?_))); (case side2 => exact HC0.out); rintro e w5 ⟨rfl, hb⟩; refine ⟨_, rfl, ?_⟩; replace HB := bH (lU) hb; (try clear hb)))
  go_ret
  exact ⟨eE, lU⟩
 ·rw [if_neg c4] at H
  have c4b0 : decide (t298 < 0) = false := decide_eq_false c4
  clear c4
  replace H := Option.bind_eq_some_iff.mp H
  obtain ⟨t299, A60, H⟩ := H
  replace H : (if t299 < 0 then (some true) else ((laws_toAssetS.f k l0).bind fun t300 => ((laws_toAssetS.f k l1).bind fun t303 => ((spec_StaleBetween.f k t300 t303).bind fun bt306 => ((laws_toAssetS.f k l0).bind fun t310 => ((laws_toAssetS.f k l1).bind fun t313 => ((impl_StaleBetween.f k t310 t313).bind fun bt316 => ((laws_eqStringS.f k bt316.1 bt306.1).bind fun t320 => (if t320 = true then (laws_FnExactStaleBetween.j0 k l0 l1 bt306.1 bt306.2 t310 t313 bt316.1 bt316.2 (bt316.2 != bt306.2)) else (laws_FnExactStaleBetween.j0 k l0 l1 bt306.1 bt306.2 t310 t313 bt316.1 bt316.2 true)))))))))) = some r := H
  have A6 := Aside0.mk A60
  clear A60
  by_cases c7 : t299 < 0
  ·rw [if_pos c7] at H
   have c7b0 : decide (t299 < 0) = true := decide_eq_true c7
   clear c7
   obtain rfl := Option.some.inj H
   go_enter Try.func3, Try.ntmps3
   go_wp2_with (first | ((with_reducible refine gate_callee (f := 4) rfl ?_); refine goesL_ (some 19) rfl rfl Try.func4 (by kernel_rfl) rfl #[.slice A0 l0.length c0, .int .i64 1048576] rfl aE ?_; (with_reducible refine (laws_szAssetS.calls k _ _ l0 1048576 t298 _ ?side1 ?side2 A3.out).mono ?_); (case side1 => repeat (first | exact HR0.out | (with_reducible refine Kd.C_alloc ?_ _) | (with_reducible refine Kd.C_drewN ?_ _) | (with_reducible refine Kd.C_drew ?_))); (case side2 => exact HC0.out); rintro e w8 ⟨rfl, hb⟩; refine ⟨_, rfl, ?_⟩; replace HB := bH (lU) hb; (try clear hb)) | ((with_reducible refine gate_callee (f := 4) rfl ?_); refine goesL_ (some 24) rfl rfl Try.func4 (by kernel_rfl) rfl #[.slice A1 l1.length c1, .int .i64 t298] rfl aE ?_; (with_reducible refine (laws_szAssetS.calls k _ _ l1 t298 t299 _ ?side1 ?side2 A6.out).mono ?_); (case side1 => exact cU (Kd.C_below HR1.out HB.out)); (case side2 => exact HC1.out); rintro e w9 ⟨rfl, hb⟩; refine ⟨_, rfl, ?_⟩; replace HB := bH (lU) hb; (try clear hb)))
   go_ret
   exact ⟨eE, lU⟩
  ·rw [if_neg c7] at H
   have c7b0 : decide (t299 < 0) = false := decide_eq_false c7
   clear c7
   replace H := Option.bind_eq_some_iff.mp H
   obtain ⟨t300, A100, H⟩ := H
   replace H : ((laws_toAssetS.f k l1).bind fun t303 => ((spec_StaleBetween.f k t300 t303).bind fun bt306 => ((laws_toAssetS.f k l0).bind fun t310 => ((laws_toAssetS.f k l1).bind fun t313 => ((impl_StaleBetween.f k t310 t313).bind fun bt316 => ((laws_eqStringS.f k bt316.1 bt306.1).bind fun t320 => (if t320 = true then (laws_FnExactStaleBetween.j0 k l0 l1 bt306.1 bt306.2 t310 t313 bt316.1 bt316.2 (bt316.2 != bt306.2)) else (laws_FnExactStaleBetween.j0 k l0 l1 bt306.1 bt306.2 t310 t313 bt316.1 bt316.2 true)))))))) = some r := H
   have A10 := Aside0.mk A100
   clear A100
   replace H := Option.bind_eq_some_iff.mp H
   obtain ⟨t303, A110, H⟩ := H
   replace H : ((spec_StaleBetween.f k t300 t303).bind fun bt306 => ((laws_toAssetS.f k l0).bind fun t310 => ((laws_toAssetS.f k l1).bind fun t313 => ((impl_StaleBetween.f k t310 t313).bind fun bt316 => ((laws_eqStringS.f k bt316.1 bt306.1).bind fun t320 => (if t320 = true then (laws_FnExactStaleBetween.j0 k l0 l1 bt306.1 bt306.2 t310 t313 bt316.1 bt316.2 (bt316.2 != bt306.2)) else (laws_FnExactStaleBetween.j0 k l0 l1 bt306.1 bt306.2 t310 t313 bt316.1 bt316.2 true))))))) = some r := H
   have A11 := Aside0.mk A110
   clear A110
   replace H := Option.bind_eq_some_iff.mp H
   obtain ⟨⟨t306, t307⟩, A120, H⟩ := H
   replace H : ((laws_toAssetS.f k l0).bind fun t310 => ((laws_toAssetS.f k l1).bind fun t313 => ((impl_StaleBetween.f k t310 t313).bind fun bt316 => ((laws_eqStringS.f k bt316.1 t306).bind fun t320 => (if t320 = true then (laws_FnExactStaleBetween.j0 k l0 l1 t306 t307 t310 t313 bt316.1 bt316.2 (bt316.2 != t307)) else (laws_FnExactStaleBetween.j0 k l0 l1 t306 t307 t310 t313 bt316.1 bt316.2 true)))))) = some r := H
   have A12 := Aside0.mk A120
   clear A120
   replace H := Option.bind_eq_some_iff.mp H
   obtain ⟨t310, A130, H⟩ := H
   replace H : ((laws_toAssetS.f k l1).bind fun t313 => ((impl_StaleBetween.f k t310 t313).bind fun bt316 => ((laws_eqStringS.f k bt316.1 t306).bind fun t320 => (if t320 = true then (laws_FnExactStaleBetween.j0 k l0 l1 t306 t307 t310 t313 bt316.1 bt316.2 (bt316.2 != t307)) else (laws_FnExactStaleBetween.j0 k l0 l1 t306 t307 t310 t313 bt316.1 bt316.2 true))))) = some r := H
   have A13 := Aside0.mk A130
   clear A130
   replace H := Option.bind_eq_some_iff.mp H
   obtain ⟨t313, A140, H⟩ := H
   replace H : ((impl_StaleBetween.f k t310 t313).bind fun bt316 => ((laws_eqStringS.f k bt316.1 t306).bind fun t320 => (if t320 = true then (laws_FnExactStaleBetween.j0 k l0 l1 t306 t307 t310 t313 bt316.1 bt316.2 (bt316.2 != t307)) else (laws_FnExactStaleBetween.j0 k l0 l1 t306 t307 t310 t313 bt316.1 bt316.2 true)))) = some r := H
   have A14 := Aside0.mk A140
   clear A140
   replace H := Option.bind_eq_some_iff.mp H
   obtain ⟨⟨t316, t317⟩, A150, H⟩ := H
   replace H : ((laws_eqStringS.f k t316 t306).bind fun t320 => (if t320 = true then (laws_FnExactStaleBetween.j0 k l0 l1 t306 t307 t310 t313 t316 t317 (t317 != t307)) else (laws_FnExactStaleBetween.j0 k l0 l1 t306 t307 t310 t313 t316 t317 true))) = some r := H
   have A15 := Aside0.mk A150
   clear A150
   have HC16 := Aside0.mk H
   clear H
   go_enter Try.func3, Try.ntmps3
   go_upto_region 12 with (first | ((with_reducible refine gate_callee (f := 4) rfl ?_); refine goesL_ (some 19) rfl rfl Try.func4 (by kernel_rfl) rfl #[.slice A0 l0.length c0, .int .i64 1048576] rfl aE ?_; (with_reducible refine (laws_szAssetS.calls k _ _ l0 1048576 t298 _ ?side1 ?side2 A3.out).mono ?_); (case side1 => repeat (first | exact HR0.out | (with_reducible refine Kd.C_alloc ?_ _) | (with_reducible refine Kd.C_drewN ?_ _) | (with_reducible refine Kd.C_drew ?_))); (case side2 => exact HC0.out); rintro e w17 ⟨rfl, hb⟩; refine ⟨_, rfl, ?_⟩; replace HB := bH (lU) hb; (try clear hb)) | ((with_reducible refine gate_callee (f := 4) rfl ?_); refine goesL_ (some 24) rfl rfl Try.func4 (by kernel_rfl) rfl #[.slice A1 l1.length c1, .int .i64 t298] rfl aE ?_; (with_reducible refine (laws_szAssetS.calls k _ _ l1 t298 t299 _ ?side1 ?side2 A6.out).mono ?_); (case side1 => exact cU (Kd.C_below HR1.out HB.out)); (case side2 => exact HC1.out); rintro e w18 ⟨rfl, hb⟩; refine ⟨_, rfl, ?_⟩; replace HB := bH (lU) hb; (try clear hb)) | ((with_reducible refine gate_callee (f := 6) rfl ?_); refine goesL_ (some 29) rfl rfl Try.func6 (by kernel_rfl) rfl #[.slice A0 l0.length c0] rfl aE ?_; (with_reducible refine (laws_toAssetS.calls k _ _ l0 t300 _ ?side1 ?side2 A10.out).mono ?_); (case side1 => exact cU (Kd.C_below HR0.out HB.out)); (case side2 => exact HC0.out); rintro e w19 ⟨v301, rfl, ho0, hb⟩; refine ⟨_, rfl, ?_⟩; have HO302 := Aside0.mk (Kd.S_lower ho0 (below_size (lU))); replace HB := bH (lU) hb; (try clear hb); (try clear ho0)) | ((with_reducible refine gate_callee (f := 6) rfl ?_); refine goesL_ (some 31) rfl rfl Try.func6 (by kernel_rfl) rfl #[.slice A1 l1.length c1] rfl aE ?_; (with_reducible refine (laws_toAssetS.calls k _ _ l1 t303 _ ?side1 ?side2 A11.out).mono ?_); (case side1 => exact cU (Kd.C_below HR1.out HB.out)); (case side2 => exact HC1.out); rintro e w20 ⟨v304, rfl, ho0, hb⟩; refine ⟨_, rfl, ?_⟩; have HO305 := Aside0.mk (Kd.S_lower (Kd.S_new' ho0 (Kd.S_lt (by (with_reducible repeat (first | apply Kd.S_alloc | apply Kd.S_drewN | apply Kd.S_drew)); exact HO302.out))) (below_size (lU))); replace HO302 := Aside0.mk (Kd.S_elder' (by (with_reducible repeat (first | apply Kd.S_alloc | apply Kd.S_drewN | apply Kd.S_drew)); exact HO302.out) (Kd.S_base ho0) hb); replace HB := bH (lU) hb; (try clear hb); (try clear ho0); obtain ⟨Ao21, co21, eo21⟩ := Kd.S_slice HO302.out; subst eo21; obtain ⟨Ao22, co22, eo22⟩ := Kd.S_slice HO305.out; subst eo22) | ((with_reducible refine gate_callee (f := 5) rfl ?_); refine goesL_ (some 32) rfl rfl Try.func5 (by kernel_rfl) rfl #[.slice Ao21 t300.length co21, .slice Ao22 t303.length co22] rfl aE ?_; (with_reducible refine (spec_StaleBetween.calls k _ _ t300 _ _ t303 t306 t307 _ ?side1 ?side2 ?side3 ?side4 A12.out).mono ?_); (case side1 => exact cU (Kd.S_reads' HO302.out).2.2); (case side2 => exact (Kd.S_reads' HO302.out).2.1); (case side3 => exact cU (Kd.S_reads' HO305.out).2.2); (case side4 => exact (Kd.S_reads' HO305.out).2.1); rintro e w23 ⟨v308, rfl, ho0, hb⟩; refine ⟨_, rfl, ?_⟩; replace HO302 := Aside0.mk (Kd.S_elder' (by (with_reducible repeat (first | apply Kd.S_alloc | apply Kd.S_drewN | apply Kd.S_drew)); exact HO302.out) (Kd.R_base ho0) hb); replace HO305 := Aside0.mk (Kd.S_elder' (by (with_reducible repeat (first | apply Kd.S_alloc | apply Kd.S_drewN | apply Kd.S_drew)); exact HO305.out) (Kd.R_base ho0) hb); have HO309 := Aside0.mk (Kd.R_lower ho0 (below_size (lU))); replace HB := bH (lU) hb; (try clear hb); (try clear ho0)) | ((with_reducible refine gate_callee (f := 6) rfl ?_); refine goesL_ (some 36) rfl rfl Try.func6 (by kernel_rfl) rfl #[.slice A0 l0.length c0] rfl aE ?_; (with_reducible refine (laws_toAssetS.calls k _ _ l0 t310 _ ?side1 ?side2 A13.out).mono ?_); (case side1 => exact cU (Kd.C_below HR0.out HB.out)); (case side2 => exact HC0.out); rintro e w24 ⟨v311, rfl, ho0, hb⟩; refine ⟨_, rfl, ?_⟩; have HO312 := Aside0.mk (Kd.S_lower (Kd.S_new' (Kd.S_new' (Kd.S_new' (Kd.S_mono (ok' := fun k_ => k_ < w24.heap.size) (Kd.S_bound ho0) (fun _ h_ => h_.2.2.1)) (Kd.S_lt (by (with_reducible repeat (first | apply Kd.S_alloc | apply Kd.S_drewN | apply Kd.S_drew)); exact HO302.out))) (Kd.S_lt (by (with_reducible repeat (first | apply Kd.S_alloc | apply Kd.S_drewN | apply Kd.S_drew)); exact HO305.out))) (Kd.R_lt (rU HO309.out))) (below_size (lU))); replace HO302 := Aside0.mk (Kd.S_elder' (by (with_reducible repeat (first | apply Kd.S_alloc | apply Kd.S_drewN | apply Kd.S_drew)); exact HO302.out) (Kd.S_base ho0) hb); replace HO305 := Aside0.mk (Kd.S_elder' (by (with_reducible repeat (first | apply Kd.S_alloc | apply Kd.S_drewN | apply Kd.S_drew)); exact HO305.out) (Kd.S_base ho0) hb); replace HO309 := Aside0.mk (Kd.R_below (rU HO309.out) hb); replace HB := bH (lU) hb; (try clear hb); (try clear ho0)) | ((with_reducible refine gate_callee (f := 6) rfl ?_); refine goesL_ (some 38) rfl rfl Try.func6 (by kernel_rfl) rfl #[.slice A1 l1.length c1] rfl aE ?_; (with_reducible refine (laws_toAssetS.calls k _ _ l1 t313 _ ?side1 ?side2 A14.out).mono ?_); (case side1 => exact cU (Kd.C_below HR1.out HB.out)); (case side2 => exact HC1.out); rintro e w25 ⟨v314, rfl, ho0, hb⟩; refine ⟨_, rfl, ?_⟩; have HO315 := Aside0.mk (Kd.S_lower (Kd.S_new' (Kd.S_new' (Kd.S_new' (Kd.S_new' (Kd.S_mono (ok' := fun k_ => w24.heap.size ≤ k_) (Kd.S_bound ho0) (fun _ h_ => h_.2.1)) (Kd.S_lt (by (with_reducible repeat (first | apply Kd.S_alloc | apply Kd.S_drewN | apply Kd.S_drew)); exact HO302.out))) (Kd.S_lt (by (with_reducible repeat (first | apply Kd.S_alloc | apply Kd.S_drewN | apply Kd.S_drew)); exact HO305.out))) (Kd.R_lt (rU HO309.out))) (Kd.S_lt (by (with_reducible repeat (first | apply Kd.S_alloc | apply Kd.S_drewN | apply Kd.S_drew)); exact HO312.out))) (below_size (lU))); replace HO302 := Aside0.mk (Kd.S_elder' (by (with_reducible repeat (first | apply Kd.S_alloc | apply Kd.S_drewN | apply Kd.S_drew)); exact HO302.out) (Kd.S_base ho0) hb); replace HO305 := Aside0.mk (Kd.S_elder' (by (with_reducible repeat (first | apply Kd.S_alloc | apply Kd.S_drewN | apply Kd.S_drew)); exact HO305.out) (Kd.S_base ho0) hb); replace HO309 := Aside0.mk (Kd.R_below (rU HO309.out) hb); replace HO312 := Aside0.mk (Kd.S_elder' (by (with_reducible repeat (first | apply Kd.S_alloc | apply Kd.S_drewN | apply Kd.S_drew)); exact HO312.out) (Kd.S_base ho0) hb); replace HB := bH (lU) hb; (try clear hb); (try clear ho0); obtain ⟨Ao26, co26, eo26⟩ := Kd.S_slice HO312.out; subst eo26; obtain ⟨Ao27, co27, eo27⟩ := Kd.S_slice HO315.out; subst eo27) | ((with_reducible refine gate_callee (f := 7) rfl ?_); refine goesL_ (some 42) rfl rfl Try.func7 (by kernel_rfl) rfl #[.slice Ao26 t310.length co26, .slice Ao27 t313.length co27] rfl aE ?_; (with_reducible refine (impl_StaleBetween.calls k _ _ t310 _ _ t313 t316 t317 _ ?side1 ?side2 ?side3 ?side4 A15.out).mono ?_); (case side1 => exact cU (Kd.S_reads' HO312.out).2.2); (case side2 => exact (Kd.S_reads' HO312.out).2.1); (case side3 => exact cU (Kd.S_reads' HO315.out).2.2); (case side4 => exact (Kd.S_reads' HO315.out).2.1); rintro e w28 ⟨v318, rfl, ho0, hb⟩; refine ⟨_, rfl, ?_⟩; replace HO302 := Aside0.mk (Kd.S_elder' (by (with_reducible repeat (first | apply Kd.S_alloc | apply Kd.S_drewN | apply Kd.S_drew)); exact HO302.out) (Kd.R_base ho0) hb); replace HO305 := Aside0.mk (Kd.S_elder' (by (with_reducible repeat (first | apply Kd.S_alloc | apply Kd.S_drewN | apply Kd.S_drew)); exact HO305.out) (Kd.R_base ho0) hb); replace HO312 := Aside0.mk (Kd.S_elder' (by (with_reducible repeat (first | apply Kd.S_alloc | apply Kd.S_drewN | apply Kd.S_drew)); exact HO312.out) (Kd.R_base ho0) hb); replace HO315 := Aside0.mk (Kd.S_elder' (by (with_reducible repeat (first | apply Kd.S_alloc | apply Kd.S_drewN | apply Kd.S_drew)); exact HO315.out) (Kd.R_base ho0) hb); have HO319 := Aside0.mk (Kd.R_lower (Kd.R_new' ho0 (Kd.R_lt (rU HO309.out))) (below_size (lU))); replace HO309 := Aside0.mk (Kd.R_elder' (rU HO309.out) (Kd.R_base ho0) hb); replace HB := bH (lU) hb; (try clear hb); (try clear ho0)))
   (try simp only [Act.put, List.setIfInBounds_toArray, List.set_cons_zero, List.set_cons_succ])
   go_cut [53] (fun v53 wc => ∃ (kq : Nat) (x53_15 : Bool), v53 = .bool x53_15 ∧ Aside0 (laws_FnExactStaleBetween.j0 kq l0 l1 t306 t307 t310 t313 t316 t317 x53_15 = some r) ∧ Aside0 (kq ≤ k) ∧ Aside0 (Kd.R Kd.string 9 wc w.heap.size (fun k_ => some k_ ≠ (v318 : Value).ownBlock) v308 t306) ∧ Aside0 (Kd.S k41 41 wc w.heap.size (fun k_ => (some k_ ≠ (v308 : Value).ownBlock ∧ some k_ ≠ ((.slice Ao27 t313.length co27) : Value).ownBlock ∧ some k_ ≠ (v318 : Value).ownBlock) ∧ k_ < w24.heap.size) (.slice Ao26 t310.length co26) t310) ∧ Aside0 (Kd.S k41 41 wc w.heap.size (fun k_ => (some k_ ≠ (v308 : Value).ownBlock ∧ some k_ ≠ ((.slice Ao26 t310.length co26) : Value).ownBlock ∧ some k_ ≠ (v318 : Value).ownBlock) ∧ w24.heap.size ≤ k_) (.slice Ao27 t313.length co27) t313) ∧ Aside0 (Kd.R Kd.string 9 wc w.heap.size (fun k_ => some k_ ≠ (v308 : Value).ownBlock) v318 t316) ∧ Aside0 (Below w.heap.size w wc))
   case first =>
    have H := HC16.out
    clear HC16
    replace H := Option.bind_eq_some_iff.mp H
    obtain ⟨t320, A290, H⟩ := H
    replace H : (if t320 = true then (laws_FnExactStaleBetween.j0 k l0 l1 t306 t307 t310 t313 t316 t317 (t317 != t307)) else (laws_FnExactStaleBetween.j0 k l0 l1 t306 t307 t310 t313 t316 t317 true)) = some r := H
    have A29 := Aside0.mk A290
    clear A290
    by_cases c30 : t320 = true
    ·subst c30
     have H1 : (laws_FnExactStaleBetween.j0 k l0 l1 t306 t307 t310 t313 t316 t317 (t317 != t307)) = some r := by rw [if_pos rfl] at H; exact H
     clear H
     have H := H1
     clear H1
     have H' := Aside0.mk H
     clear H
     obtain ⟨Ao31, co31, eo31⟩ := Kd.R_slice HO319.out
     subst eo31
     obtain ⟨Ao32, co32, eo32⟩ := Kd.R_slice HO309.out
     subst eo32
     go_wp2_with (first | ((with_reducible refine gate_callee (f := 8) rfl ?_); refine goesL_ (some 47) rfl rfl Try.func8 (by kernel_rfl) rfl #[.slice Ao31 t316.length co31, .slice Ao32 t306.length co32] rfl aE ?_; (with_reducible refine (laws_eqStringS.calls k _ _ t316 _ _ t306 true _ ?side1 ?side2 ?side3 ?side4 A29.out).mono ?_); (case side1 => exact cU (Kd.R_reads' HO319.out).2.2); (case side2 => exact (Kd.R_reads' HO319.out).2.1); (case side3 => exact cU (Kd.R_reads' HO309.out).2.2); (case side4 => exact (Kd.R_reads' HO309.out).2.1); rintro e w' ⟨rfl, ⟨nd, rfl⟩⟩; refine ⟨_, rfl, ?_⟩))
     go_meet
     case rel => exact ⟨_, ((t317 != t307)), tE, H', ⟨by first | omega | exact Nat.le_refl _⟩, ⟨by (with_reducible repeat (first | apply Kd.R_alloc | apply Kd.R_drewN | apply Kd.R_drew)); exact Kd.R_mono HO309.out (fun _ hk => hk.2)⟩, ⟨by (with_reducible repeat (first | apply Kd.S_alloc | apply Kd.S_drewN | apply Kd.S_drew)); exact Kd.S_mono HO312.out (fun _ hk => ⟨⟨hk.1.1.2, ⟨hk.1.2, hk.2⟩⟩, hk.1.1.1.1.1⟩)⟩, ⟨by (with_reducible repeat (first | apply Kd.S_alloc | apply Kd.S_drewN | apply Kd.S_drew)); exact Kd.S_mono HO315.out (fun _ hk => ⟨⟨hk.1.1.2, ⟨hk.1.2, hk.2⟩⟩, hk.1.1.1.1.1⟩)⟩, ⟨by (with_reducible repeat (first | apply Kd.R_alloc | apply Kd.R_drewN | apply Kd.R_drew)); exact Kd.R_mono HO319.out (fun _ hk => hk.2)⟩, ⟨by repeat (first | (with_reducible first | exact HB.out | apply below_alloc | apply pw_below_drewN | apply below_drew1) | exact HB.out)⟩⟩
    ·replace c30 := Bool.eq_false_iff.mpr c30
     subst c30
     have H1 : (laws_FnExactStaleBetween.j0 k l0 l1 t306 t307 t310 t313 t316 t317 true) = some r := by rw [if_neg (show ¬ (false = true) by decide)] at H; exact H
     clear H
     have H := H1
     clear H1
     have H' := Aside0.mk H
     clear H
     obtain ⟨Ao33, co33, eo33⟩ := Kd.R_slice HO319.out
     subst eo33
     obtain ⟨Ao34, co34, eo34⟩ := Kd.R_slice HO309.out
     subst eo34
     go_wp2_with (first | ((with_reducible refine gate_callee (f := 8) rfl ?_); refine goesL_ (some 47) rfl rfl Try.func8 (by kernel_rfl) rfl #[.slice Ao33 t316.length co33, .slice Ao34 t306.length co34] rfl aE ?_; (with_reducible refine (laws_eqStringS.calls k _ _ t316 _ _ t306 false _ ?side1 ?side2 ?side3 ?side4 A29.out).mono ?_); (case side1 => exact cU (Kd.R_reads' HO319.out).2.2); (case side2 => exact (Kd.R_reads' HO319.out).2.1); (case side3 => exact cU (Kd.R_reads' HO309.out).2.2); (case side4 => exact (Kd.R_reads' HO309.out).2.1); rintro e w' ⟨rfl, ⟨nd, rfl⟩⟩; refine ⟨_, rfl, ?_⟩))
     go_meet
     case rel => exact ⟨_, (true), tE, H', ⟨by first | omega | exact Nat.le_refl _⟩, ⟨by (with_reducible repeat (first | apply Kd.R_alloc | apply Kd.R_drewN | apply Kd.R_drew)); exact Kd.R_mono HO309.out (fun _ hk => hk.2)⟩, ⟨by (with_reducible repeat (first | apply Kd.S_alloc | apply Kd.S_drewN | apply Kd.S_drew)); exact Kd.S_mono HO312.out (fun _ hk => ⟨⟨hk.1.1.2, ⟨hk.1.2, hk.2⟩⟩, hk.1.1.1.1.1⟩)⟩, ⟨by (with_reducible repeat (first | apply Kd.S_alloc | apply Kd.S_drewN | apply Kd.S_drew)); exact Kd.S_mono HO315.out (fun _ hk => ⟨⟨hk.1.1.2, ⟨hk.1.2, hk.2⟩⟩, hk.1.1.1.1.1⟩)⟩, ⟨by (with_reducible repeat (first | apply Kd.R_alloc | apply Kd.R_drewN | apply Kd.R_drew)); exact Kd.R_mono HO319.out (fun _ hk => hk.2)⟩, ⟨by repeat (first | (with_reducible first | exact HB.out | apply below_alloc | apply pw_below_drewN | apply below_drew1) | exact HB.out)⟩⟩
   case rest =>
    clear HC16
    try clear c1
    try clear p2
    try clear c3
    try clear c4
    try clear c4b0
    try clear c5
    try clear c6
    try clear c7
    try clear c7b0
    try clear c8
    try clear c30
    obtain ⟨kq, x53_15, rfl, HA, HJ15, HO_6, HO_8, HO_9, HO_10, HB⟩ := hcut
    cases kq with
    | zero => exact absurd HA.out (by simp [laws_FnExactStaleBetween.j0])
    | succ kj15 =>
     have H := HA.out
     clear HA
     simp only [laws_FnExactStaleBetween.j0] at H
     by_cases c35 : x53_15 = true
     ·subst c35
      have H1 : (some false) = some r := by rw [if_pos rfl] at H; exact H
      clear H
      have H := H1
      clear H1
      obtain rfl := Option.some.inj H
      go_wp2
      go_ret
      exact ⟨eE, lU⟩
     ·replace c35 := Bool.eq_false_iff.mpr c35
      subst c35
      have H1 : ((laws_toAssetS.f kj15 l0).bind fun t321 => ((laws_eqAssetS.f kj15 t310 t321).bind fun t324 => (if t324 = true then ((laws_toAssetS.f kj15 l1).bind fun t325 => ((laws_eqAssetS.f kj15 t313 t325).bind fun t328 => (if t328 = true then ((laws_markAssetS.f kj15 t310 1).bind fun bt329 => ((laws_markAssetS.f kj15 t313 bt329.1).bind fun bt331 => (if bt331.1 < 0 then (laws_FnExactStaleBetween.j1 kj15 l0 l1 t306 t307 t316 true) else ((laws_eqStringS.f kj15 t316 t306).bind fun t333 => (if t333 = true then (laws_FnExactStaleBetween.j1 kj15 l0 l1 t306 t307 t316 (t317 != t307)) else (laws_FnExactStaleBetween.j1 kj15 l0 l1 t306 t307 t316 true)))))) else (some false)))) else (some false)))) = some r := by rw [if_neg (show ¬ (false = true) by decide)] at H; exact H
      clear H
      have H := H1
      clear H1
      replace H := Option.bind_eq_some_iff.mp H
      obtain ⟨t321, A360, H⟩ := H
      replace H : ((laws_eqAssetS.f kj15 t310 t321).bind fun t324 => (if t324 = true then ((laws_toAssetS.f kj15 l1).bind fun t325 => ((laws_eqAssetS.f kj15 t313 t325).bind fun t328 => (if t328 = true then ((laws_markAssetS.f kj15 t310 1).bind fun bt329 => ((laws_markAssetS.f kj15 t313 bt329.1).bind fun bt331 => (if bt331.1 < 0 then (laws_FnExactStaleBetween.j1 kj15 l0 l1 t306 t307 t316 true) else ((laws_eqStringS.f kj15 t316 t306).bind fun t333 => (if t333 = true then (laws_FnExactStaleBetween.j1 kj15 l0 l1 t306 t307 t316 (t317 != t307)) else (laws_FnExactStaleBetween.j1 kj15 l0 l1 t306 t307 t316 true)))))) else (some false)))) else (some false))) = some r := H
      have A36 := Aside0.mk A360
      clear A360
      replace H := Option.bind_eq_some_iff.mp H
      obtain ⟨t324, A370, H⟩ := H
      replace H : (if t324 = true then ((laws_toAssetS.f kj15 l1).bind fun t325 => ((laws_eqAssetS.f kj15 t313 t325).bind fun t328 => (if t328 = true then ((laws_markAssetS.f kj15 t310 1).bind fun bt329 => ((laws_markAssetS.f kj15 t313 bt329.1).bind fun bt331 => (if bt331.1 < 0 then (laws_FnExactStaleBetween.j1 kj15 l0 l1 t306 t307 t316 true) else ((laws_eqStringS.f kj15 t316 t306).bind fun t333 => (if t333 = true then (laws_FnExactStaleBetween.j1 kj15 l0 l1 t306 t307 t316 (t317 != t307)) else (laws_FnExactStaleBetween.j1 kj15 l0 l1 t306 t307 t316 true)))))) else (some false)))) else (some false)) = some r := H
      have A37 := Aside0.mk A370
      clear A370
      by_cases c38 : t324 = true
      ·subst c38
       have H1 : ((laws_toAssetS.f kj15 l1).bind fun t325 => ((laws_eqAssetS.f kj15 t313 t325).bind fun t328 => (if t328 = true then ((laws_markAssetS.f kj15 t310 1).bind fun bt329 => ((laws_markAssetS.f kj15 t313 bt329.1).bind fun bt331 => (if bt331.1 < 0 then (laws_FnExactStaleBetween.j1 kj15 l0 l1 t306 t307 t316 true) else ((laws_eqStringS.f kj15 t316 t306).bind fun t333 => (if t333 = true then (laws_FnExactStaleBetween.j1 kj15 l0 l1 t306 t307 t316 (t317 != t307)) else (laws_FnExactStaleBetween.j1 kj15 l0 l1 t306 t307 t316 true)))))) else (some false)))) = some r := by rw [if_pos rfl] at H; exact H
       clear H
       have H := H1
       clear H1
       replace H := Option.bind_eq_some_iff.mp H
       obtain ⟨t325, A390, H⟩ := H
       replace H : ((laws_eqAssetS.f kj15 t313 t325).bind fun t328 => (if t328 = true then ((laws_markAssetS.f kj15 t310 1).bind fun bt329 => ((laws_markAssetS.f kj15 t313 bt329.1).bind fun bt331 => (if bt331.1 < 0 then (laws_FnExactStaleBetween.j1 kj15 l0 l1 t306 t307 t316 true) else ((laws_eqStringS.f kj15 t316 t306).bind fun t333 => (if t333 = true then (laws_FnExactStaleBetween.j1 kj15 l0 l1 t306 t307 t316 (t317 != t307)) else (laws_FnExactStaleBetween.j1 kj15 l0 l1 t306 t307 t316 true)))))) else (some false))) = some r := H
       have A39 := Aside0.mk A390
       clear A390
       replace H := Option.bind_eq_some_iff.mp H
       obtain ⟨t328, A400, H⟩ := H
       replace H : (if t328 = true then ((laws_markAssetS.f kj15 t310 1).bind fun bt329 => ((laws_markAssetS.f kj15 t313 bt329.1).bind fun bt331 => (if bt331.1 < 0 then (laws_FnExactStaleBetween.j1 kj15 l0 l1 t306 t307 t316 true) else ((laws_eqStringS.f kj15 t316 t306).bind fun t333 => (if t333 = true then (laws_FnExactStaleBetween.j1 kj15 l0 l1 t306 t307 t316 (t317 != t307)) else (laws_FnExactStaleBetween.j1 kj15 l0 l1 t306 t307 t316 true)))))) else (some false)) = some r := H
       have A40 := Aside0.mk A400
       clear A400
       by_cases c41 : t328 = true
       ·subst c41
        have H1 : ((laws_markAssetS.f kj15 t310 1).bind fun bt329 => ((laws_markAssetS.f kj15 t313 bt329.1).bind fun bt331 => (if bt331.1 < 0 then (laws_FnExactStaleBetween.j1 kj15 l0 l1 t306 t307 t316 true) else ((laws_eqStringS.f kj15 t316 t306).bind fun t333 => (if t333 = true then (laws_FnExactStaleBetween.j1 kj15 l0 l1 t306 t307 t316 (t317 != t307)) else (laws_FnExactStaleBetween.j1 kj15 l0 l1 t306 t307 t316 true)))))) = some r := by rw [if_pos rfl] at H; exact H
        clear H
        have H := H1
        clear H1
        replace H := Option.bind_eq_some_iff.mp H
        obtain ⟨⟨t329, t330⟩, A420, H⟩ := H
        replace H : ((laws_markAssetS.f kj15 t313 t329).bind fun bt331 => (if bt331.1 < 0 then (laws_FnExactStaleBetween.j1 kj15 l0 l1 t306 t307 t316 true) else ((laws_eqStringS.f kj15 t316 t306).bind fun t333 => (if t333 = true then (laws_FnExactStaleBetween.j1 kj15 l0 l1 t306 t307 t316 (t317 != t307)) else (laws_FnExactStaleBetween.j1 kj15 l0 l1 t306 t307 t316 true))))) = some r := H
        have A42 := Aside0.mk A420
        clear A420
        replace H := Option.bind_eq_some_iff.mp H
        obtain ⟨⟨t331, t332⟩, A430, H⟩ := H
        replace H : (if t331 < 0 then (laws_FnExactStaleBetween.j1 kj15 l0 l1 t306 t307 t316 true) else ((laws_eqStringS.f kj15 t316 t306).bind fun t333 => (if t333 = true then (laws_FnExactStaleBetween.j1 kj15 l0 l1 t306 t307 t316 (t317 != t307)) else (laws_FnExactStaleBetween.j1 kj15 l0 l1 t306 t307 t316 true)))) = some r := H
        have A43 := Aside0.mk A430
        clear A430
        have HC44 := Aside0.mk H
        clear H
        go_upto_region 21 with (first | ((with_reducible refine gate_callee (f := 6) rfl ?_); refine goesL_ (some 56) rfl rfl Try.func6 (by kernel_rfl) rfl #[.slice A0 l0.length c0] rfl aE ?_; (with_reducible refine (laws_toAssetS.calls kj15 _ _ l0 t321 _ ?side1 ?side2 A36.out).mono ?_); (case side1 => exact cU (Kd.C_below HR0.out HB.out)); (case side2 => exact HC0.out); rintro e w45 ⟨v322, rfl, ho0, hb⟩; refine ⟨_, rfl, ?_⟩; have HO323 := Aside0.mk (Kd.S_lower (Kd.S_new' (Kd.S_new' (Kd.S_new' (Kd.S_new' ho0 (Kd.R_lt (rU HO_6.out))) (Kd.S_lt (by (with_reducible repeat (first | apply Kd.S_alloc | apply Kd.S_drewN | apply Kd.S_drew)); exact HO_8.out))) (Kd.S_lt (by (with_reducible repeat (first | apply Kd.S_alloc | apply Kd.S_drewN | apply Kd.S_drew)); exact HO_9.out))) (Kd.R_lt (rU HO_10.out))) (below_size (lU))); replace HO_6 := Aside0.mk (Kd.R_below (rU HO_6.out) hb); replace HO_8 := Aside0.mk (Kd.S_elder' (by (with_reducible repeat (first | apply Kd.S_alloc | apply Kd.S_drewN | apply Kd.S_drew)); exact HO_8.out) (Kd.S_base ho0) hb); replace HO_9 := Aside0.mk (Kd.S_elder' (by (with_reducible repeat (first | apply Kd.S_alloc | apply Kd.S_drewN | apply Kd.S_drew)); exact HO_9.out) (Kd.S_base ho0) hb); replace HO_10 := Aside0.mk (Kd.R_below (rU HO_10.out) hb); replace HB := bH (lU) hb; (try clear hb); (try clear ho0); obtain ⟨Ao46, co46, eo46⟩ := Kd.S_slice HO323.out; subst eo46) | ((with_reducible refine gate_callee (f := 9) rfl ?_); refine goesL_ (some 57) rfl rfl Try.func9 (by kernel_rfl) rfl #[.slice Ao26 t310.length co26, .slice Ao46 t321.length co46] rfl aE ?_; (with_reducible refine (laws_eqAssetS.calls kj15 _ _ t310 _ _ t321 true _ ?side1 ?side2 ?side3 ?side4 A37.out).mono ?_); (case side1 => exact cU (Kd.S_reads' HO_8.out).2.2); (case side2 => exact (Kd.S_reads' HO_8.out).2.1); (case side3 => exact cU (Kd.S_reads' HO323.out).2.2); (case side4 => exact (Kd.S_reads' HO323.out).2.1); rintro e w47 ⟨rfl, hb⟩; refine ⟨_, rfl, ?_⟩; replace HO_6 := Aside0.mk (Kd.R_below (rU HO_6.out) hb); replace HO_8 := Aside0.mk (Kd.S_below (by (with_reducible repeat (first | apply Kd.S_alloc | apply Kd.S_drewN | apply Kd.S_drew)); exact HO_8.out) hb); replace HO_9 := Aside0.mk (Kd.S_below (by (with_reducible repeat (first | apply Kd.S_alloc | apply Kd.S_drewN | apply Kd.S_drew)); exact HO_9.out) hb); replace HO_10 := Aside0.mk (Kd.R_below (rU HO_10.out) hb); replace HO323 := Aside0.mk (Kd.S_below (by (with_reducible repeat (first | apply Kd.S_alloc | apply Kd.S_drewN | apply Kd.S_drew)); exact HO323.out) hb); replace HB := bH (lU) hb; (try clear hb)) | ((with_reducible refine gate_callee (f := 6) rfl ?_); refine goesL_ (some 61) rfl rfl Try.func6 (by kernel_rfl) rfl #[.slice A1 l1.length c1] rfl aE ?_; (with_reducible refine (laws_toAssetS.calls kj15 _ _ l1 t325 _ ?side1 ?side2 A39.out).mono ?_); (case side1 => exact cU (Kd.C_below HR1.out HB.out)); (case side2 => exact HC1.out); rintro e w48 ⟨v326, rfl, ho0, hb⟩; refine ⟨_, rfl, ?_⟩; have HO327 := Aside0.mk (Kd.S_lower (Kd.S_new' (Kd.S_new' (Kd.S_new' (Kd.S_new' (Kd.S_new' ho0 (Kd.R_lt (rU HO_6.out))) (Kd.S_lt (by (with_reducible repeat (first | apply Kd.S_alloc | apply Kd.S_drewN | apply Kd.S_drew)); exact HO_8.out))) (Kd.S_lt (by (with_reducible repeat (first | apply Kd.S_alloc | apply Kd.S_drewN | apply Kd.S_drew)); exact HO_9.out))) (Kd.R_lt (rU HO_10.out))) (Kd.S_lt (by (with_reducible repeat (first | apply Kd.S_alloc | apply Kd.S_drewN | apply Kd.S_drew)); exact HO323.out))) (below_size (lU))); replace HO_6 := Aside0.mk (Kd.R_below (rU HO_6.out) hb); replace HO_8 := Aside0.mk (Kd.S_elder' (by (with_reducible repeat (first | apply Kd.S_alloc | apply Kd.S_drewN | apply Kd.S_drew)); exact HO_8.out) (Kd.S_base ho0) hb); replace HO_9 := Aside0.mk (Kd.S_elder' (by (with_reducible repeat (first | apply Kd.S_alloc | apply Kd.S_drewN | apply Kd.S_drew)); exact HO_9.out) (Kd.S_base ho0) hb); replace HO_10 := Aside0.mk (Kd.R_below (rU HO_10.out) hb); replace HO323 := Aside0.mk (Kd.S_elder' (by (with_reducible repeat (first | apply Kd.S_alloc | apply Kd.S_drewN | apply Kd.S_drew)); exact HO323.out) (Kd.S_base ho0) hb); replace HB := bH (lU) hb; (try clear hb); (try clear ho0); obtain ⟨Ao49, co49, eo49⟩ := Kd.S_slice HO327.out; subst eo49) | ((with_reducible refine gate_callee (f := 9) rfl ?_); refine goesL_ (some 62) rfl rfl Try.func9 (by kernel_rfl) rfl #[.slice Ao27 t313.length co27, .slice Ao49 t325.length co49] rfl aE ?_; (with_reducible refine (laws_eqAssetS.calls kj15 _ _ t313 _ _ t325 true _ ?side1 ?side2 ?side3 ?side4 A40.out).mono ?_); (case side1 => exact cU (Kd.S_reads' HO_9.out).2.2); (case side2 => exact (Kd.S_reads' HO_9.out).2.1); (case side3 => exact cU (Kd.S_reads' HO327.out).2.2); (case side4 => exact (Kd.S_reads' HO327.out).2.1); rintro e w50 ⟨rfl, hb⟩; refine ⟨_, rfl, ?_⟩; replace HO_6 := Aside0.mk (Kd.R_below (rU HO_6.out) hb); replace HO_8 := Aside0.mk (Kd.S_below (by (with_reducible repeat (first | apply Kd.S_alloc | apply Kd.S_drewN | apply Kd.S_drew)); exact HO_8.out) hb); replace HO_9 := Aside0.mk (Kd.S_below (by (with_reducible repeat (first | apply Kd.S_alloc | apply Kd.S_drewN | apply Kd.S_drew)); exact HO_9.out) hb); replace HO_10 := Aside0.mk (Kd.R_below (rU HO_10.out) hb); replace HO323 := Aside0.mk (Kd.S_below (by (with_reducible repeat (first | apply Kd.S_alloc | apply Kd.S_drewN | apply Kd.S_drew)); exact HO323.out) hb); replace HO327 := Aside0.mk (Kd.S_below (by (with_reducible repeat (first | apply Kd.S_alloc | apply Kd.S_drewN | apply Kd.S_drew)); exact HO327.out) hb); replace HB := bH (lU) hb; (try clear hb); obtain ⟨PS51, hPS51, HPS51, hSEP51⟩ : ∃ PS_ : Nat → Prop, (∀ k_, PS_ k_ → ((((some k_ ≠ (v308 : Value).ownBlock ∧ (some k_ ≠ (.slice Ao27 t313.length co27 : Value).ownBlock ∧ some k_ ≠ (v318 : Value).ownBlock)) ∧ some k_ ≠ (.slice Ao46 t321.length co46 : Value).ownBlock) ∧ some k_ ≠ (.slice Ao49 t325.length co49 : Value).ownBlock)) ∧ w.heap.size ≤ k_ ∧ k_ < w50.heap.size ∧ ∃ q_, q_ ∈ 41 :: (k41).E ∧ ∃ cells_, w50.heap[k_]? = some (.cells cells_ q_ (0, 0))) ∧ Kd.S k41 41 w50 w.heap.size PS_ (.slice Ao26 t310.length co26) t310 ∧ (∀ k_, PS_ k_ → k_ < w24.heap.size) := ⟨_, fun _ h_ => ⟨⟨⟨h_.1.1.1.1, h_.1.1.2⟩, h_.1.2⟩, h_.2⟩, Kd.S_bound HO_8.out, fun _ h_ => h_.1.1.1.2⟩) | ((with_reducible refine gate_callee (f := 10) rfl ?_); refine goesL_ (some 66) rfl rfl Try.func10 (by kernel_rfl) rfl #[.slice Ao26 t310.length co26, .int .i64 1] rfl aE ?_; (with_reducible refine (laws_markAssetS.calls kj15 PS51 (.slice Ao26 t310.length co26) t310 1 t329 t330 w _ ?side1 ?side2 A42.out).mono ?_); (case side1 => repeat (first | (with_reducible first | exact HB.out | apply below_alloc | apply pw_below_drewN | apply below_drew1) | exact HB.out)); (case side2 => exact HPS51); rintro e w52 ⟨rfl, hy0, hb, hkp⟩; refine ⟨_, rfl, ?_⟩; replace HO_8 := Aside0.mk (Kd.S_mono (ok' := fun k_ => (some k_ ≠ (v308 : Value).ownBlock ∧ (some k_ ≠ (.slice Ao27 t313.length co27 : Value).ownBlock ∧ some k_ ≠ (v318 : Value).ownBlock))) hy0 (fun k_ hk_ => Or.elim hk_ (fun hs_ => ⟨(hPS51 k_ hs_).1.1.1.1, ⟨(hPS51 k_ hs_).1.1.1.2.1, (hPS51 k_ hs_).1.1.1.2.2⟩⟩) (fun hn_ => ⟨(Kd.fresh' (Kd.R_lt (rU HO_6.out)) k_ hn_), ⟨(Kd.fresh' (Kd.S_lt (by (with_reducible repeat (first | apply Kd.S_alloc | apply Kd.S_drewN | apply Kd.S_drew)); exact HO_9.out)) k_ hn_), (Kd.fresh' (Kd.R_lt (rU HO_10.out)) k_ hn_)⟩⟩))); replace HO_6 := Aside0.mk (Kd.R_mono (ok' := fun k_ => some k_ ≠ (v318 : Value).ownBlock) (Kd.R_keptB ((Kd.R_mono (Kd.R_tight2 rfl HO_6.out) (fun k_ hk => (⟨hk.2, fun e_ => ((hPS51 k_ e_).1.1.1.1) hk.1⟩ : _ ∧ ¬ PS51 k_)))) hkp (fun k_ hk_ hs_ => (hk_.2) hs_)) (fun k_ hk_ => hk_.1.1)); replace HO_9 := Aside0.mk (Kd.S_mono (ok' := fun k_ => some k_ ≠ (v308 : Value).ownBlock ∧ some k_ ≠ (.slice Ao26 t310.length co26 : Value).ownBlock ∧ some k_ ≠ (v318 : Value).ownBlock) (Kd.S_keptB ((Kd.S_mono (ok' := fun k_ => ((((some k_ ≠ (v308 : Value).ownBlock ∧ (some k_ ≠ (.slice Ao26 t310.length co26 : Value).ownBlock ∧ some k_ ≠ (v318 : Value).ownBlock)) ∧ some k_ ≠ (.slice Ao46 t321.length co46 : Value).ownBlock) ∧ some k_ ≠ (.slice Ao49 t325.length co49 : Value).ownBlock)) ∧ ¬ PS51 k_) HO_9.out (fun k_ hk => ⟨⟨⟨hk.1.1.1, hk.1.2⟩, hk.2⟩, fun hp_ => absurd (hSEP51 k_ hp_) (Nat.not_lt.2 hk.1.1.2)⟩))) hkp (fun k_ hk_ hs_ => (hk_.2) hs_)) (fun k_ hk_ => ⟨hk_.1.1.1.1.1, hk_.1.1.1.1.2.1, hk_.1.1.1.1.2.2⟩)); replace HO_10 := Aside0.mk (Kd.R_mono (ok' := fun k_ => some k_ ≠ (v308 : Value).ownBlock) (Kd.R_keptB ((Kd.R_mono (Kd.R_tight2 rfl HO_10.out) (fun k_ hk => (⟨hk.2, fun e_ => ((hPS51 k_ e_).1.1.1.2.2) hk.1⟩ : _ ∧ ¬ PS51 k_)))) hkp (fun k_ hk_ hs_ => (hk_.2) hs_)) (fun k_ hk_ => hk_.1.1)); replace HB := Aside0.mk hb; clear HO323 HO327; (try clear hb); (try clear hkp); (try clear hg_); (try clear hp_); (try clear hy0); obtain ⟨PS53, hPS53, HPS53⟩ : ∃ PS_ : Nat → Prop, (∀ k_, PS_ k_ → ((some k_ ≠ (v308 : Value).ownBlock ∧ (some k_ ≠ (.slice Ao26 t310.length co26 : Value).ownBlock ∧ some k_ ≠ (v318 : Value).ownBlock))) ∧ w.heap.size ≤ k_ ∧ k_ < w52.heap.size ∧ ∃ q_, q_ ∈ 41 :: (k41).E ∧ ∃ cells_, w52.heap[k_]? = some (.cells cells_ q_ (0, 0))) ∧ Kd.S k41 41 w52 w.heap.size PS_ (.slice Ao27 t313.length co27) t313 := ⟨_, fun _ h_ => h_, Kd.S_bound HO_9.out⟩) | ((with_reducible refine gate_callee (f := 10) rfl ?_); refine goesL_ (some 69) rfl rfl Try.func10 (by kernel_rfl) rfl #[.slice Ao27 t313.length co27, .int .i64 t329] rfl aE ?_; (with_reducible refine (laws_markAssetS.calls kj15 PS53 (.slice Ao27 t313.length co27) t313 t329 t331 t332 w _ ?side1 ?side2 A43.out).mono ?_); (case side1 => repeat (first | (with_reducible first | exact HB.out | apply below_alloc | apply pw_below_drewN | apply below_drew1) | exact HB.out)); (case side2 => exact HPS53); rintro e w54 ⟨rfl, hy0, hb, hkp⟩; refine ⟨_, rfl, ?_⟩; replace HO_9 := Aside0.mk (Kd.S_mono (ok' := fun k_ => (some k_ ≠ (v308 : Value).ownBlock ∧ some k_ ≠ (v318 : Value).ownBlock)) hy0 (fun k_ hk_ => Or.elim hk_ (fun hs_ => ⟨(hPS53 k_ hs_).1.1, (hPS53 k_ hs_).1.2.2⟩) (fun hn_ => ⟨(Kd.fresh' (Kd.R_lt (rU HO_6.out)) k_ hn_), (Kd.fresh' (Kd.R_lt (rU HO_10.out)) k_ hn_)⟩))); replace HO_6 := Aside0.mk (Kd.R_mono (ok' := fun k_ => some k_ ≠ (v318 : Value).ownBlock) (Kd.R_keptB ((Kd.R_mono (Kd.R_tight2 rfl HO_6.out) (fun k_ hk => (⟨hk.2, fun e_ => ((hPS53 k_ e_).1.1) hk.1⟩ : _ ∧ ¬ PS53 k_)))) hkp (fun k_ hk_ hs_ => (hk_.2) hs_)) (fun k_ hk_ => hk_.1.1)); replace HO_10 := Aside0.mk (Kd.R_mono (ok' := fun k_ => some k_ ≠ (v308 : Value).ownBlock) (Kd.R_keptB ((Kd.R_mono (Kd.R_tight2 rfl HO_10.out) (fun k_ hk => (⟨hk.2, fun e_ => ((hPS53 k_ e_).1.2.2) hk.1⟩ : _ ∧ ¬ PS53 k_)))) hkp (fun k_ hk_ hs_ => (hk_.2) hs_)) (fun k_ hk_ => hk_.1.1)); replace HB := Aside0.mk hb; clear HO_8; (try clear hb); (try clear hkp); (try clear hg_); (try clear hp_); (try clear hy0)))
        (try simp only [Act.put, List.setIfInBounds_toArray, List.set_cons_zero, List.set_cons_succ])
        go_cut [82] (fun v82 wc => ∃ (kq : Nat) (x82_43 : Bool), v82 = .bool x82_43 ∧ Aside0 (laws_FnExactStaleBetween.j1 kq l0 l1 t306 t307 t316 x82_43 = some r) ∧ Aside0 (kq ≤ kj15) ∧ Aside0 (Kd.R Kd.string 9 wc w.heap.size (fun k_ => some k_ ≠ (v318 : Value).ownBlock) v308 t306) ∧ Aside0 (Kd.R Kd.string 9 wc w.heap.size (fun k_ => some k_ ≠ (v308 : Value).ownBlock) v318 t316) ∧ Aside0 (Below w.heap.size w wc))
        case first =>
         have H := HC44.out
         clear HC44
         by_cases c55 : t331 < 0
         ·rw [if_pos c55] at H
          have c55b0 : decide (t331 < 0) = true := decide_eq_true c55
          clear c55
          (first | rw [c55b0] | (simp only [i64_w, i32_w]; rw [c55b0]) | (rw [c55b2]; simp only [Bool.not_false, Bool.not_true]) | skip)
          have H' := Aside0.mk H
          clear H
          go_wp2
          go_meet
          case rel => exact ⟨_, (true), tE, H', ⟨by have := HJ15.out; first | omega | exact Nat.le_refl _⟩, ⟨by (with_reducible repeat (first | apply Kd.R_alloc | apply Kd.R_drewN | apply Kd.R_drew)); exact HO_6.out⟩, ⟨by (with_reducible repeat (first | apply Kd.R_alloc | apply Kd.R_drewN | apply Kd.R_drew)); exact HO_10.out⟩, ⟨by repeat (first | (with_reducible first | exact HB.out | apply below_alloc | apply pw_below_drewN | apply below_drew1) | exact HB.out)⟩⟩
         ·rw [if_neg c55] at H
          have c55b0 : decide (t331 < 0) = false := decide_eq_false c55
          clear c55
          (first | rw [c55b0] | (simp only [i64_w, i32_w]; rw [c55b0]) | (rw [c55b2]; simp only [Bool.not_false, Bool.not_true]) | skip)
          replace H := Option.bind_eq_some_iff.mp H
          obtain ⟨t333, A560, H⟩ := H
          replace H : (if t333 = true then (laws_FnExactStaleBetween.j1 kj15 l0 l1 t306 t307 t316 (t317 != t307)) else (laws_FnExactStaleBetween.j1 kj15 l0 l1 t306 t307 t316 true)) = some r := H
          have A56 := Aside0.mk A560
          clear A560
          by_cases c57 : t333 = true
          ·subst c57
           have H1 : (laws_FnExactStaleBetween.j1 kj15 l0 l1 t306 t307 t316 (t317 != t307)) = some r := by rw [if_pos rfl] at H; exact H
           clear H
           have H := H1
           clear H1
           have H' := Aside0.mk H
           clear H
           obtain ⟨Ao58, co58, eo58⟩ := Kd.R_slice HO_10.out
           subst eo58
           obtain ⟨Ao59, co59, eo59⟩ := Kd.R_slice HO_6.out
           subst eo59
           go_wp2_with (first | (go_at_call 8; (with_reducible refine (laws_eqStringS.calls kj15 _ _ t316 _ _ t306 true _ ?side1 ?side2 ?side3 ?side4 A56.out).mono ?_); (case side1 => exact cU (Kd.R_reads' HO_10.out).2.2); (case side2 => exact (Kd.R_reads' HO_10.out).2.1); (case side3 => exact cU (Kd.R_reads' HO_6.out).2.2); (case side4 => exact (Kd.R_reads' HO_6.out).2.1); rintro e w' ⟨rfl, ⟨nd, rfl⟩⟩))
           go_meet
           case rel => exact ⟨_, ((t317 != t307)), tE, H', ⟨by have := HJ15.out; first | omega | exact Nat.le_refl _⟩, ⟨by (with_reducible repeat (first | apply Kd.R_alloc | apply Kd.R_drewN | apply Kd.R_drew)); exact HO_6.out⟩, ⟨by (with_reducible repeat (first | apply Kd.R_alloc | apply Kd.R_drewN | apply Kd.R_drew)); exact HO_10.out⟩, ⟨by repeat (first | (with_reducible first | exact HB.out | apply below_alloc | apply pw_below_drewN | apply below_drew1) | exact HB.out)⟩⟩
          ·replace c57 := Bool.eq_false_iff.mpr c57
           subst c57
           have H1 : (laws_FnExactStaleBetween.j1 kj15 l0 l1 t306 t307 t316 true) = some r := by rw [if_neg (show ¬ (false = true) by decide)] at H; exact H
           clear H
           have H := H1
           clear H1
           have H' := Aside0.mk H
           clear H
           obtain ⟨Ao60, co60, eo60⟩ := Kd.R_slice HO_10.out
           subst eo60
           obtain ⟨Ao61, co61, eo61⟩ := Kd.R_slice HO_6.out
           subst eo61
           go_wp2_with (first | (go_at_call 8; (with_reducible refine (laws_eqStringS.calls kj15 _ _ t316 _ _ t306 false _ ?side1 ?side2 ?side3 ?side4 A56.out).mono ?_); (case side1 => exact cU (Kd.R_reads' HO_10.out).2.2); (case side2 => exact (Kd.R_reads' HO_10.out).2.1); (case side3 => exact cU (Kd.R_reads' HO_6.out).2.2); (case side4 => exact (Kd.R_reads' HO_6.out).2.1); rintro e w' ⟨rfl, ⟨nd, rfl⟩⟩))
           go_meet
           case rel => exact ⟨_, (true), tE, H', ⟨by have := HJ15.out; first | omega | exact Nat.le_refl _⟩, ⟨by (with_reducible repeat (first | apply Kd.R_alloc | apply Kd.R_drewN | apply Kd.R_drew)); exact HO_6.out⟩, ⟨by (with_reducible repeat (first | apply Kd.R_alloc | apply Kd.R_drewN | apply Kd.R_drew)); exact HO_10.out⟩, ⟨by repeat (first | (with_reducible first | exact HB.out | apply below_alloc | apply pw_below_drewN | apply below_drew1) | exact HB.out)⟩⟩
        case rest =>
         clear HC44
         try clear c1
         try clear p2
         try clear c3
         try clear c4
         try clear c4b0
         try clear c5
         try clear c6
         try clear c7
         try clear c7b0
         try clear c8
         try clear c9
         try clear c10
         try clear c30
         try clear c35
         try clear c38
         try clear c41
         try clear c55
         try clear c55b0
         try clear c55b2
         try clear c57
         try clear p2
         obtain ⟨kq, x82_43, rfl, HA, HJ43, HO_6, HO_10, HB⟩ := hcut
         cases kq with
         | zero => exact absurd HA.out (by simp [laws_FnExactStaleBetween.j1])
         | succ kj43 =>
          have H := HA.out
          clear HA
          simp only [laws_FnExactStaleBetween.j1] at H
          by_cases c62 : x82_43 = true
          ·subst c62
           have H1 : (some false) = some r := by rw [if_pos rfl] at H; exact H
           clear H
           have H := H1
           clear H1
           obtain rfl := Option.some.inj H
           go_wp2
           go_ret
           exact ⟨eE, lU⟩
          ·replace c62 := Bool.eq_false_iff.mpr c62
           subst c62
           have H1 : ((laws_markStringS.f kj43 t316 1).bind fun bt334 => ((laws_heldStringS.f kj43 bt334.2 1).bind fun t336 => (if t336 < 0 then (some false) else (if t336 = bt334.1 then ((laws_toAssetS.f kj43 l0).bind fun t337 => ((laws_toAssetS.f kj43 l1).bind fun t340 => ((impl_StaleBetween.f kj43 t337 t340).bind fun bt343 => ((laws_eqStringS.f kj43 bt343.1 t306).bind fun t347 => (if t347 = true then (laws_FnExactStaleBetween.j2 kj43 bt334.2 bt334.1 (bt343.2 != t307)) else (laws_FnExactStaleBetween.j2 kj43 bt334.2 bt334.1 true)))))) else (some false))))) = some r := by rw [if_neg (show ¬ (false = true) by decide)] at H; exact H
           clear H
           have H := H1
           clear H1
           replace H := Option.bind_eq_some_iff.mp H
           obtain ⟨⟨t334, t335⟩, A630, H⟩ := H
           replace H : ((laws_heldStringS.f kj43 t335 1).bind fun t336 => (if t336 < 0 then (some false) else (if t336 = t334 then ((laws_toAssetS.f kj43 l0).bind fun t337 => ((laws_toAssetS.f kj43 l1).bind fun t340 => ((impl_StaleBetween.f kj43 t337 t340).bind fun bt343 => ((laws_eqStringS.f kj43 bt343.1 t306).bind fun t347 => (if t347 = true then (laws_FnExactStaleBetween.j2 kj43 t335 t334 (bt343.2 != t307)) else (laws_FnExactStaleBetween.j2 kj43 t335 t334 true)))))) else (some false)))) = some r := H
           have A63 := Aside0.mk A630
           clear A630
           replace H := Option.bind_eq_some_iff.mp H
           obtain ⟨t336, A640, H⟩ := H
           replace H : (if t336 < 0 then (some false) else (if t336 = t334 then ((laws_toAssetS.f kj43 l0).bind fun t337 => ((laws_toAssetS.f kj43 l1).bind fun t340 => ((impl_StaleBetween.f kj43 t337 t340).bind fun bt343 => ((laws_eqStringS.f kj43 bt343.1 t306).bind fun t347 => (if t347 = true then (laws_FnExactStaleBetween.j2 kj43 t335 t334 (bt343.2 != t307)) else (laws_FnExactStaleBetween.j2 kj43 t335 t334 true)))))) else (some false))) = some r := H
           have A64 := Aside0.mk A640
           clear A640
           by_cases c65 : t336 < 0
           ·rw [if_pos c65] at H
            have c65b0 : decide (t336 < 0) = true := decide_eq_true c65
            clear c65
            obtain rfl := Option.some.inj H
            obtain ⟨Ao66, co66, eo66⟩ := Kd.R_slice HO_10.out
            subst eo66
            go_wp2_with (first | ((with_reducible refine gate_callee (f := 11) rfl ?_); refine goesL_ (some 85) rfl rfl Try.func11 (by kernel_rfl) rfl #[.slice Ao66 t316.length co66, .int .i64 1] rfl aE ?_; (with_reducible refine (laws_markStringS.calls kj43 (fun k_ => some k_ = (.slice Ao66 t316.length co66 : Value).ownBlock) (.slice Ao66 t316.length co66) t316 1 t334 t335 w _ ?side1 ?side2 A63.out).mono ?_); (case side1 => repeat (first | (with_reducible first | exact HB.out | apply below_alloc | apply pw_below_drewN | apply below_drew1) | exact HB.out)); (case side2 => exact Kd.R_tight rfl HO_10.out); rintro e w67 ⟨rfl, hy0, hb, hkp⟩; refine ⟨_, rfl, ?_⟩; replace HO_6 := Aside0.mk (Kd.R_mono (ok' := fun k_ => some k_ ≠ (.slice Ao66 t316.length co66 : Value).ownBlock) (Kd.R_keptB (HO_6.out) hkp (fun k_ hk_ hs_ => (hk_) hs_)) (fun k_ hk_ => hk_.1)); replace HO_10 := Aside0.mk (Kd.R_reok rfl hy0 (fun k_ e_ => HO_10.out.1 k_ e_)); replace HB := Aside0.mk hb; (try clear hb); (try clear hkp); (try clear hg_); (try clear hp_); (try clear hy0)) | ((with_reducible refine gate_callee (f := 12) rfl ?_); refine goesL_ (some 88) rfl rfl Try.func12 (by kernel_rfl) rfl #[.slice Ao66 t335.length co66, .int .i64 1] rfl (by (try simp only [List.map_toArray, List.map_cons, List.map_nil]); first | done | (rw [show t335.length = t316.length from (Kd.R_reads' HO_10.out).1.symm] <;> rfl) | rfl | (simp only [List.length_drop, List.length_take]; rfl)) ?_; (with_reducible refine (laws_heldStringS.calls kj43 _ _ t335 1 t336 _ ?side1 ?side2 A64.out).mono ?_); (case side1 => exact cU (Kd.R_reads' HO_10.out).2.2); (case side2 => rw [show t335.length = t316.length from (Kd.R_reads' HO_10.out).1.symm]; exact (Kd.R_reads' HO_10.out).2.1); rintro e w68 ⟨rfl, hb⟩; refine ⟨_, rfl, ?_⟩; replace HO_6 := Aside0.mk (Kd.R_below (rU HO_6.out) hb); replace HO_10 := Aside0.mk (Kd.R_below (rU HO_10.out) hb); replace HB := bH (lU) hb; (try clear hb)))
            go_ret
            exact ⟨eE, lU⟩
           ·rw [if_neg c65] at H
            have c65b0 : decide (t336 < 0) = false := decide_eq_false c65
            clear c65
            by_cases c69 : t336 = t334
            ·rw [if_pos c69] at H
             have c69b0 : (t336 == t334) = true := beq_iff_eq.mpr c69
             have c69b1 : (t336 != t334) = false := bne_eq_false_iff_eq.mpr c69
             clear c69
             replace H := Option.bind_eq_some_iff.mp H
             obtain ⟨t337, A700, H⟩ := H
             replace H : ((laws_toAssetS.f kj43 l1).bind fun t340 => ((impl_StaleBetween.f kj43 t337 t340).bind fun bt343 => ((laws_eqStringS.f kj43 bt343.1 t306).bind fun t347 => (if t347 = true then (laws_FnExactStaleBetween.j2 kj43 t335 t334 (bt343.2 != t307)) else (laws_FnExactStaleBetween.j2 kj43 t335 t334 true))))) = some r := H
             have A70 := Aside0.mk A700
             clear A700
             replace H := Option.bind_eq_some_iff.mp H
             obtain ⟨t340, A710, H⟩ := H
             replace H : ((impl_StaleBetween.f kj43 t337 t340).bind fun bt343 => ((laws_eqStringS.f kj43 bt343.1 t306).bind fun t347 => (if t347 = true then (laws_FnExactStaleBetween.j2 kj43 t335 t334 (bt343.2 != t307)) else (laws_FnExactStaleBetween.j2 kj43 t335 t334 true)))) = some r := H
             have A71 := Aside0.mk A710
             clear A710
             replace H := Option.bind_eq_some_iff.mp H
             obtain ⟨⟨t343, t344⟩, A720, H⟩ := H
             replace H : ((laws_eqStringS.f kj43 t343 t306).bind fun t347 => (if t347 = true then (laws_FnExactStaleBetween.j2 kj43 t335 t334 (t344 != t307)) else (laws_FnExactStaleBetween.j2 kj43 t335 t334 true))) = some r := H
             have A72 := Aside0.mk A720
             clear A720
             have HC73 := Aside0.mk H
             clear H
             obtain ⟨Ao74, co74, eo74⟩ := Kd.R_slice HO_10.out
             subst eo74
             go_upto_region 32 with (first | ((with_reducible refine gate_callee (f := 11) rfl ?_); refine goesL_ (some 85) rfl rfl Try.func11 (by kernel_rfl) rfl #[.slice Ao74 t316.length co74, .int .i64 1] rfl aE ?_; (with_reducible refine (laws_markStringS.calls kj43 (fun k_ => some k_ = (.slice Ao74 t316.length co74 : Value).ownBlock) (.slice Ao74 t316.length co74) t316 1 t334 t335 w _ ?side1 ?side2 A63.out).mono ?_); (case side1 => repeat (first | (with_reducible first | exact HB.out | apply below_alloc | apply pw_below_drewN | apply below_drew1) | exact HB.out)); (case side2 => exact Kd.R_tight rfl HO_10.out); rintro e w75 ⟨rfl, hy0, hb, hkp⟩; refine ⟨_, rfl, ?_⟩; replace HO_6 := Aside0.mk (Kd.R_mono (ok' := fun k_ => some k_ ≠ (.slice Ao74 t316.length co74 : Value).ownBlock) (Kd.R_keptB (HO_6.out) hkp (fun k_ hk_ hs_ => (hk_) hs_)) (fun k_ hk_ => hk_.1)); replace HO_10 := Aside0.mk (Kd.R_reok rfl hy0 (fun k_ e_ => HO_10.out.1 k_ e_)); replace HB := Aside0.mk hb; (try clear hb); (try clear hkp); (try clear hg_); (try clear hp_); (try clear hy0)) | ((with_reducible refine gate_callee (f := 12) rfl ?_); refine goesL_ (some 88) rfl rfl Try.func12 (by kernel_rfl) rfl #[.slice Ao74 t335.length co74, .int .i64 1] rfl (by (try simp only [List.map_toArray, List.map_cons, List.map_nil]); first | done | (rw [show t335.length = t316.length from (Kd.R_reads' HO_10.out).1.symm] <;> rfl) | rfl | (simp only [List.length_drop, List.length_take]; rfl)) ?_; (with_reducible refine (laws_heldStringS.calls kj43 _ _ t335 1 t336 _ ?side1 ?side2 A64.out).mono ?_); (case side1 => exact cU (Kd.R_reads' HO_10.out).2.2); (case side2 => rw [show t335.length = t316.length from (Kd.R_reads' HO_10.out).1.symm]; exact (Kd.R_reads' HO_10.out).2.1); rintro e w76 ⟨rfl, hb⟩; refine ⟨_, rfl, ?_⟩; replace HO_6 := Aside0.mk (Kd.R_below (rU HO_6.out) hb); replace HO_10 := Aside0.mk (Kd.R_below (rU HO_10.out) hb); replace HB := bH (lU) hb; (try clear hb)) | ((with_reducible refine gate_callee (f := 6) rfl ?_); refine goesL_ (some 96) rfl rfl Try.func6 (by kernel_rfl) rfl #[.slice A0 l0.length c0] rfl aE ?_; (with_reducible refine (laws_toAssetS.calls kj43 _ _ l0 t337 _ ?side1 ?side2 A70.out).mono ?_); (case side1 => exact cU (Kd.C_below HR0.out HB.out)); (case side2 => exact HC0.out); rintro e w77 ⟨v338, rfl, ho0, hb⟩; refine ⟨_, rfl, ?_⟩; have HO339 := Aside0.mk (Kd.S_lower (Kd.S_new' (Kd.S_new' ho0 (Kd.R_lt (rU HO_6.out))) (Kd.R_lt (rU HO_10.out))) (below_size (lU))); replace HO_6 := Aside0.mk (Kd.R_below (rU HO_6.out) hb); replace HO_10 := Aside0.mk (Kd.R_below (rU HO_10.out) hb); replace HB := bH (lU) hb; (try clear hb); (try clear ho0)) | ((with_reducible refine gate_callee (f := 6) rfl ?_); refine goesL_ (some 98) rfl rfl Try.func6 (by kernel_rfl) rfl #[.slice A1 l1.length c1] rfl aE ?_; (with_reducible refine (laws_toAssetS.calls kj43 _ _ l1 t340 _ ?side1 ?side2 A71.out).mono ?_); (case side1 => exact cU (Kd.C_below HR1.out HB.out)); (case side2 => exact HC1.out); rintro e w78 ⟨v341, rfl, ho0, hb⟩; refine ⟨_, rfl, ?_⟩; have HO342 := Aside0.mk (Kd.S_lower (Kd.S_new' (Kd.S_new' (Kd.S_new' ho0 (Kd.R_lt (rU HO_6.out))) (Kd.R_lt (rU HO_10.out))) (Kd.S_lt (by (with_reducible repeat (first | apply Kd.S_alloc | apply Kd.S_drewN | apply Kd.S_drew)); exact HO339.out))) (below_size (lU))); replace HO_6 := Aside0.mk (Kd.R_below (rU HO_6.out) hb); replace HO_10 := Aside0.mk (Kd.R_below (rU HO_10.out) hb); replace HO339 := Aside0.mk (Kd.S_elder' (by (with_reducible repeat (first | apply Kd.S_alloc | apply Kd.S_drewN | apply Kd.S_drew)); exact HO339.out) (Kd.S_base ho0) hb); replace HB := bH (lU) hb; (try clear hb); (try clear ho0); obtain ⟨Ao79, co79, eo79⟩ := Kd.S_slice HO339.out; subst eo79; obtain ⟨Ao80, co80, eo80⟩ := Kd.S_slice HO342.out; subst eo80) | ((with_reducible refine gate_callee (f := 7) rfl ?_); refine goesL_ (some 99) rfl rfl Try.func7 (by kernel_rfl) rfl #[.slice Ao79 t337.length co79, .slice Ao80 t340.length co80] rfl aE ?_; (with_reducible refine (impl_StaleBetween.calls kj43 _ _ t337 _ _ t340 t343 t344 _ ?side1 ?side2 ?side3 ?side4 A72.out).mono ?_); (case side1 => exact cU (Kd.S_reads' HO339.out).2.2); (case side2 => exact (Kd.S_reads' HO339.out).2.1); (case side3 => exact cU (Kd.S_reads' HO342.out).2.2); (case side4 => exact (Kd.S_reads' HO342.out).2.1); rintro e w81 ⟨v345, rfl, ho0, hb⟩; refine ⟨_, rfl, ?_⟩; replace HO339 := Aside0.mk (Kd.S_elder' (by (with_reducible repeat (first | apply Kd.S_alloc | apply Kd.S_drewN | apply Kd.S_drew)); exact HO339.out) (Kd.R_base ho0) hb); replace HO342 := Aside0.mk (Kd.S_elder' (by (with_reducible repeat (first | apply Kd.S_alloc | apply Kd.S_drewN | apply Kd.S_drew)); exact HO342.out) (Kd.R_base ho0) hb); have HO346 := Aside0.mk (Kd.R_lower (Kd.R_new' (Kd.R_new' ho0 (Kd.R_lt (rU HO_6.out))) (Kd.R_lt (rU HO_10.out))) (below_size (lU))); replace HO_6 := Aside0.mk (Kd.R_elder' (rU HO_6.out) (Kd.R_base ho0) hb); replace HO_10 := Aside0.mk (Kd.R_elder' (rU HO_10.out) (Kd.R_base ho0) hb); replace HB := bH (lU) hb; (try clear hb); (try clear ho0)))
             (try simp only [Act.put, List.setIfInBounds_toArray, List.set_cons_zero, List.set_cons_succ])
             go_cut [110] (fun v110 wc => ∃ (kq : Nat) (x110_72 : Bool), v110 = .bool x110_72 ∧ Aside0 (laws_FnExactStaleBetween.j2 kq t335 t334 x110_72 = some r) ∧ Aside0 (kq ≤ kj43) ∧ Aside0 (Kd.R Kd.string 9 wc w.heap.size (fun _ => True) (.slice Ao74 t316.length co74) t335) ∧ Aside0 (Below w.heap.size w wc))
             case first =>
              have H := HC73.out
              clear HC73
              replace H := Option.bind_eq_some_iff.mp H
              obtain ⟨t347, A820, H⟩ := H
              replace H : (if t347 = true then (laws_FnExactStaleBetween.j2 kj43 t335 t334 (t344 != t307)) else (laws_FnExactStaleBetween.j2 kj43 t335 t334 true)) = some r := H
              have A82 := Aside0.mk A820
              clear A820
              by_cases c83 : t347 = true
              ·subst c83
               have H1 : (laws_FnExactStaleBetween.j2 kj43 t335 t334 (t344 != t307)) = some r := by rw [if_pos rfl] at H; exact H
               clear H
               have H := H1
               clear H1
               have H' := Aside0.mk H
               clear H
               obtain ⟨Ao84, co84, eo84⟩ := Kd.R_slice HO346.out
               subst eo84
               obtain ⟨Ao85, co85, eo85⟩ := Kd.R_slice HO_6.out
               subst eo85
               go_wp2_with (first | ((with_reducible refine gate_callee (f := 8) rfl ?_); refine goesL_ (some 104) rfl rfl Try.func8 (by kernel_rfl) rfl #[.slice Ao84 t343.length co84, .slice Ao85 t306.length co85] rfl aE ?_; (with_reducible refine (laws_eqStringS.calls kj43 _ _ t343 _ _ t306 true _ ?side1 ?side2 ?side3 ?side4 A82.out).mono ?_); (case side1 => exact cU (Kd.R_reads' HO346.out).2.2); (case side2 => exact (Kd.R_reads' HO346.out).2.1); (case side3 => exact cU (Kd.R_reads' HO_6.out).2.2); (case side4 => exact (Kd.R_reads' HO_6.out).2.1); rintro e w' ⟨rfl, ⟨nd, rfl⟩⟩; refine ⟨_, rfl, ?_⟩))
               go_meet
               case rel => exact ⟨_, ((t344 != t307)), tE, H', ⟨by have := HJ15.out; have := HJ43.out; first | omega | exact Nat.le_refl _⟩, ⟨by (with_reducible repeat (first | apply Kd.R_alloc | apply Kd.R_drewN | apply Kd.R_drew)); exact Kd.R_mono HO_10.out (fun _ hk => trivial)⟩, ⟨by repeat (first | (with_reducible first | exact HB.out | apply below_alloc | apply pw_below_drewN | apply below_drew1) | exact HB.out)⟩⟩
              ·replace c83 := Bool.eq_false_iff.mpr c83
               subst c83
               have H1 : (laws_FnExactStaleBetween.j2 kj43 t335 t334 true) = some r := by rw [if_neg (show ¬ (false = true) by decide)] at H; exact H
               clear H
               have H := H1
               clear H1
               have H' := Aside0.mk H
               clear H
               obtain ⟨Ao86, co86, eo86⟩ := Kd.R_slice HO346.out
               subst eo86
               obtain ⟨Ao87, co87, eo87⟩ := Kd.R_slice HO_6.out
               subst eo87
               go_wp2_with (first | ((with_reducible refine gate_callee (f := 8) rfl ?_); refine goesL_ (some 104) rfl rfl Try.func8 (by kernel_rfl) rfl #[.slice Ao86 t343.length co86, .slice Ao87 t306.length co87] rfl aE ?_; (with_reducible refine (laws_eqStringS.calls kj43 _ _ t343 _ _ t306 false _ ?side1 ?side2 ?side3 ?side4 A82.out).mono ?_); (case side1 => exact cU (Kd.R_reads' HO346.out).2.2); (case side2 => exact (Kd.R_reads' HO346.out).2.1); (case side3 => exact cU (Kd.R_reads' HO_6.out).2.2); (case side4 => exact (Kd.R_reads' HO_6.out).2.1); rintro e w' ⟨rfl, ⟨nd, rfl⟩⟩; refine ⟨_, rfl, ?_⟩))
               go_meet
               case rel => exact ⟨_, (true), tE, H', ⟨by have := HJ15.out; have := HJ43.out; first | omega | exact Nat.le_refl _⟩, ⟨by (with_reducible repeat (first | apply Kd.R_alloc | apply Kd.R_drewN | apply Kd.R_drew)); exact Kd.R_mono HO_10.out (fun _ hk => trivial)⟩, ⟨by repeat (first | (with_reducible first | exact HB.out | apply below_alloc | apply pw_below_drewN | apply below_drew1) | exact HB.out)⟩⟩
             case rest =>
              clear HC73
              try clear c1
              try clear p2
              try clear c3
              try clear c4
              try clear c4b0
              try clear c5
              try clear c6
              try clear c7
              try clear c7b0
              try clear c8
              try clear c9
              try clear c10
              try clear c11
              try clear c12
              try clear c30
              try clear c35
              try clear c38
              try clear c41
              try clear c55
              try clear c55b0
              try clear c55b2
              try clear c57
              try clear c62
              try clear c65
              try clear c65b0
              try clear c69
              try clear c69b0
              try clear c69b1
              try clear c83
              try clear p2
              obtain ⟨kq, x110_72, rfl, HA, HJ72, HO_10, HB⟩ := hcut
              have hl10_72 := (Kd.R_reads' HO_10.out).1
              rw [hl10_72] at HO_10
              (try simp only [hl10_72])
              cases kq with
              | zero => exact absurd HA.out (by simp [laws_FnExactStaleBetween.j2])
              | succ kj72 =>
               have H := HA.out
               clear HA
               simp only [laws_FnExactStaleBetween.j2] at H
               by_cases c88 : x110_72 = true
               ·subst c88
                have H1 : (some false) = some r := by rw [if_pos rfl] at H; exact H
                clear H
                have H := H1
                clear H1
                obtain rfl := Option.some.inj H
                go_wp2
                go_ret
                exact ⟨eE, lU⟩
               ·replace c88 := Bool.eq_false_iff.mpr c88
                subst c88
                have H1 : ((laws_heldStringS.f kj72 t335 1).bind fun t348 => (if t348 < 0 then (some false) else (if t348 = t334 then (some true) else (some false)))) = some r := by rw [if_neg (show ¬ (false = true) by decide)] at H; exact H
                clear H
                have H := H1
                clear H1
                replace H := Option.bind_eq_some_iff.mp H
                obtain ⟨t348, A890, H⟩ := H
                replace H : (if t348 < 0 then (some false) else (if t348 = t334 then (some true) else (some false))) = some r := H
                have A89 := Aside0.mk A890
                clear A890
                by_cases c90 : t348 < 0
                ·rw [if_pos c90] at H
                 have c90b0 : decide (t348 < 0) = true := decide_eq_true c90
                 clear c90
                 obtain rfl := Option.some.inj H
                 go_wp2_with (first | ((with_reducible refine gate_callee (f := 12) rfl ?_); refine goesL_ (some 113) rfl rfl Try.func12 (by kernel_rfl) rfl #[.slice Ao74 t335.length co74, .int .i64 1] rfl aE ?_; (with_reducible refine (laws_heldStringS.calls kj72 _ _ t335 1 t348 _ ?side1 ?side2 A89.out).mono ?_); (case side1 => exact cU (Kd.R_reads' HO_10.out).2.2); (case side2 => exact (Kd.R_reads' HO_10.out).2.1); rintro e w91 ⟨rfl, hb⟩; refine ⟨_, rfl, ?_⟩; replace HO_10 := Aside0.mk (Kd.R_below (rU HO_10.out) hb); replace HB := bH (lU) hb; (try clear hb)))
                 go_ret
                 exact ⟨eE, lU⟩
                ·rw [if_neg c90] at H
                 have c90b0 : decide (t348 < 0) = false := decide_eq_false c90
                 clear c90
                 by_cases c92 : t348 = t334
                 ·rw [if_pos c92] at H
                  have c92b0 : (t348 == t334) = true := beq_iff_eq.mpr c92
                  have c92b1 : (t348 != t334) = false := bne_eq_false_iff_eq.mpr c92
                  clear c92
                  obtain rfl := Option.some.inj H
                  go_wp2_with (first | ((with_reducible refine gate_callee (f := 12) rfl ?_); refine goesL_ (some 113) rfl rfl Try.func12 (by kernel_rfl) rfl #[.slice Ao74 t335.length co74, .int .i64 1] rfl aE ?_; (with_reducible refine (laws_heldStringS.calls kj72 _ _ t335 1 t348 _ ?side1 ?side2 A89.out).mono ?_); (case side1 => exact cU (Kd.R_reads' HO_10.out).2.2); (case side2 => exact (Kd.R_reads' HO_10.out).2.1); rintro e w93 ⟨rfl, hb⟩; refine ⟨_, rfl, ?_⟩; replace HO_10 := Aside0.mk (Kd.R_below (rU HO_10.out) hb); replace HB := bH (lU) hb; (try clear hb)))
                  go_ret
                  exact ⟨eE, lU⟩
                 ·rw [if_neg c92] at H
                  have c92b0 : (t348 == t334) = false := beq_eq_false_iff_ne.mpr c92
                  have c92b1 : (t348 != t334) = true := bne_iff_ne.mpr c92
                  obtain rfl := Option.some.inj H
                  go_wp2_with (first | ((with_reducible refine gate_callee (f := 12) rfl ?_); refine goesL_ (some 113) rfl rfl Try.func12 (by kernel_rfl) rfl #[.slice Ao74 t335.length co74, .int .i64 1] rfl aE ?_; (with_reducible refine (laws_heldStringS.calls kj72 _ _ t335 1 t348 _ ?side1 ?side2 A89.out).mono ?_); (case side1 => exact cU (Kd.R_reads' HO_10.out).2.2); (case side2 => exact (Kd.R_reads' HO_10.out).2.1); rintro e w94 ⟨rfl, hb⟩; refine ⟨_, rfl, ?_⟩; replace HO_10 := Aside0.mk (Kd.R_below (rU HO_10.out) hb); replace HB := bH (lU) hb; (try clear hb)))
                  go_ret
                  exact ⟨eE, lU⟩
            ·rw [if_neg c69] at H
             have c69b0 : (t336 == t334) = false := beq_eq_false_iff_ne.mpr c69
             have c69b1 : (t336 != t334) = true := bne_iff_ne.mpr c69
             obtain rfl := Option.some.inj H
             obtain ⟨Ao95, co95, eo95⟩ := Kd.R_slice HO_10.out
             subst eo95
             go_wp2_with (first | ((with_reducible refine gate_callee (f := 11) rfl ?_); refine goesL_ (some 85) rfl rfl Try.func11 (by kernel_rfl) rfl #[.slice Ao95 t316.length co95, .int .i64 1] rfl aE ?_; (with_reducible refine (laws_markStringS.calls kj43 (fun k_ => some k_ = (.slice Ao95 t316.length co95 : Value).ownBlock) (.slice Ao95 t316.length co95) t316 1 t334 t335 w _ ?side1 ?side2 A63.out).mono ?_); (case side1 => repeat (first | (with_reducible first | exact HB.out | apply below_alloc | apply pw_below_drewN | apply below_drew1) | exact HB.out)); (case side2 => exact Kd.R_tight rfl HO_10.out); rintro e w96 ⟨rfl, hy0, hb, hkp⟩; refine ⟨_, rfl, ?_⟩; replace HO_6 := Aside0.mk (Kd.R_mono (ok' := fun k_ => some k_ ≠ (.slice Ao95 t316.length co95 : Value).ownBlock) (Kd.R_keptB (HO_6.out) hkp (fun k_ hk_ hs_ => (hk_) hs_)) (fun k_ hk_ => hk_.1)); replace HO_10 := Aside0.mk (Kd.R_reok rfl hy0 (fun k_ e_ => HO_10.out.1 k_ e_)); replace HB := Aside0.mk hb; (try clear hb); (try clear hkp); (try clear hg_); (try clear hp_); (try clear hy0)) | ((with_reducible refine gate_callee (f := 12) rfl ?_); refine goesL_ (some 88) rfl rfl Try.func12 (by kernel_rfl) rfl #[.slice Ao95 t335.length co95, .int .i64 1] rfl (by (try simp only [List.map_toArray, List.map_cons, List.map_nil]); first | done | (rw [show t335.length = t316.length from (Kd.R_reads' HO_10.out).1.symm] <;> rfl) | rfl | (simp only [List.length_drop, List.length_take]; rfl)) ?_; (with_reducible refine (laws_heldStringS.calls kj43 _ _ t335 1 t336 _ ?side1 ?side2 A64.out).mono ?_); (case side1 => exact cU (Kd.R_reads' HO_10.out).2.2); (case side2 => rw [show t335.length = t316.length from (Kd.R_reads' HO_10.out).1.symm]; exact (Kd.R_reads' HO_10.out).2.1); rintro e w97 ⟨rfl, hb⟩; refine ⟨_, rfl, ?_⟩; replace HO_6 := Aside0.mk (Kd.R_below (rU HO_6.out) hb); replace HO_10 := Aside0.mk (Kd.R_below (rU HO_10.out) hb); replace HB := bH (lU) hb; (try clear hb)))
             go_ret
             exact ⟨eE, lU⟩
       ·replace c41 := Bool.eq_false_iff.mpr c41
        subst c41
        have H1 : (some false) = some r := by rw [if_neg (show ¬ (false = true) by decide)] at H; exact H
        clear H
        have H := H1
        clear H1
        obtain rfl := Option.some.inj H
        go_wp2_with (first | ((with_reducible refine gate_callee (f := 6) rfl ?_); refine goesL_ (some 56) rfl rfl Try.func6 (by kernel_rfl) rfl #[.slice A0 l0.length c0] rfl aE ?_; (with_reducible refine (laws_toAssetS.calls kj15 _ _ l0 t321 _ ?side1 ?side2 A36.out).mono ?_); (case side1 => exact cU (Kd.C_below HR0.out HB.out)); (case side2 => exact HC0.out); rintro e w98 ⟨v322, rfl, ho0, hb⟩; refine ⟨_, rfl, ?_⟩; have HO323 := Aside0.mk (Kd.S_lower (Kd.S_new' (Kd.S_new' (Kd.S_new' (Kd.S_new' ho0 (Kd.R_lt (rU HO_6.out))) (Kd.S_lt (by (with_reducible repeat (first | apply Kd.S_alloc | apply Kd.S_drewN | apply Kd.S_drew)); exact HO_8.out))) (Kd.S_lt (by (with_reducible repeat (first | apply Kd.S_alloc | apply Kd.S_drewN | apply Kd.S_drew)); exact HO_9.out))) (Kd.R_lt (rU HO_10.out))) (below_size (lU))); replace HO_6 := Aside0.mk (Kd.R_below (rU HO_6.out) hb); replace HO_8 := Aside0.mk (Kd.S_elder' (by (with_reducible repeat (first | apply Kd.S_alloc | apply Kd.S_drewN | apply Kd.S_drew)); exact HO_8.out) (Kd.S_base ho0) hb); replace HO_9 := Aside0.mk (Kd.S_elder' (by (with_reducible repeat (first | apply Kd.S_alloc | apply Kd.S_drewN | apply Kd.S_drew)); exact HO_9.out) (Kd.S_base ho0) hb); replace HO_10 := Aside0.mk (Kd.R_below (rU HO_10.out) hb); replace HB := bH (lU) hb; (try clear hb); (try clear ho0); obtain ⟨Ao99, co99, eo99⟩ := Kd.S_slice HO323.out; subst eo99) | ((with_reducible refine gate_callee (f := 9) rfl ?_); refine goesL_ (some 57) rfl rfl Try.func9 (by kernel_rfl) rfl #[.slice Ao26 t310.length co26, .slice Ao99 t321.length co99] rfl aE ?_; (with_reducible refine (laws_eqAssetS.calls kj15 _ _ t310 _ _ t321 true _ ?side1 ?side2 ?side3 ?side4 A37.out).mono ?_); (case side1 => exact cU (Kd.S_reads' HO_8.out).2.2); (case side2 => exact (Kd.S_reads' HO_8.out).2.1); (case side3 => exact cU (Kd.S_reads' HO323.out).2.2); (case side4 => exact (Kd.S_reads' HO323.out).2.1); rintro e w100 ⟨rfl, hb⟩; refine ⟨_, rfl, ?_⟩; replace HO_6 := Aside0.mk (Kd.R_below (rU HO_6.out) hb); replace HO_8 := Aside0.mk (Kd.S_below (by (with_reducible repeat (first | apply Kd.S_alloc | apply Kd.S_drewN | apply Kd.S_drew)); exact HO_8.out) hb); replace HO_9 := Aside0.mk (Kd.S_below (by (with_reducible repeat (first | apply Kd.S_alloc | apply Kd.S_drewN | apply Kd.S_drew)); exact HO_9.out) hb); replace HO_10 := Aside0.mk (Kd.R_below (rU HO_10.out) hb); replace HO323 := Aside0.mk (Kd.S_below (by (with_reducible repeat (first | apply Kd.S_alloc | apply Kd.S_drewN | apply Kd.S_drew)); exact HO323.out) hb); replace HB := bH (lU) hb; (try clear hb)) | ((with_reducible refine gate_callee (f := 6) rfl ?_); refine goesL_ (some 61) rfl rfl Try.func6 (by kernel_rfl) rfl #[.slice A1 l1.length c1] rfl aE ?_; (with_reducible refine (laws_toAssetS.calls kj15 _ _ l1 t325 _ ?side1 ?side2 A39.out).mono ?_); (case side1 => exact cU (Kd.C_below HR1.out HB.out)); (case side2 => exact HC1.out); rintro e w101 ⟨v326, rfl, ho0, hb⟩; refine ⟨_, rfl, ?_⟩; have HO327 := Aside0.mk (Kd.S_lower (Kd.S_new' (Kd.S_new' (Kd.S_new' (Kd.S_new' (Kd.S_new' ho0 (Kd.R_lt (rU HO_6.out))) (Kd.S_lt (by (with_reducible repeat (first | apply Kd.S_alloc | apply Kd.S_drewN | apply Kd.S_drew)); exact HO_8.out))) (Kd.S_lt (by (with_reducible repeat (first | apply Kd.S_alloc | apply Kd.S_drewN | apply Kd.S_drew)); exact HO_9.out))) (Kd.R_lt (rU HO_10.out))) (Kd.S_lt (by (with_reducible repeat (first | apply Kd.S_alloc | apply Kd.S_drewN | apply Kd.S_drew)); exact HO323.out))) (below_size (lU))); replace HO_6 := Aside0.mk (Kd.R_below (rU HO_6.out) hb); replace HO_8 := Aside0.mk (Kd.S_elder' (by (with_reducible repeat (first | apply Kd.S_alloc | apply Kd.S_drewN | apply Kd.S_drew)); exact HO_8.out) (Kd.S_base ho0) hb); replace HO_9 := Aside0.mk (Kd.S_elder' (by (with_reducible repeat (first | apply Kd.S_alloc | apply Kd.S_drewN | apply Kd.S_drew)); exact HO_9.out) (Kd.S_base ho0) hb); replace HO_10 := Aside0.mk (Kd.R_below (rU HO_10.out) hb); replace HO323 := Aside0.mk (Kd.S_elder' (by (with_reducible repeat (first | apply Kd.S_alloc | apply Kd.S_drewN | apply Kd.S_drew)); exact HO323.out) (Kd.S_base ho0) hb); replace HB := bH (lU) hb; (try clear hb); (try clear ho0); obtain ⟨Ao102, co102, eo102⟩ := Kd.S_slice HO327.out; subst eo102) | ((with_reducible refine gate_callee (f := 9) rfl ?_); refine goesL_ (some 62) rfl rfl Try.func9 (by kernel_rfl) rfl #[.slice Ao27 t313.length co27, .slice Ao102 t325.length co102] rfl aE ?_; (with_reducible refine (laws_eqAssetS.calls kj15 _ _ t313 _ _ t325 false _ ?side1 ?side2 ?side3 ?side4 A40.out).mono ?_); (case side1 => exact cU (Kd.S_reads' HO_9.out).2.2); (case side2 => exact (Kd.S_reads' HO_9.out).2.1); (case side3 => exact cU (Kd.S_reads' HO327.out).2.2); (case side4 => exact (Kd.S_reads' HO327.out).2.1); rintro e w103 ⟨rfl, hb⟩; refine ⟨_, rfl, ?_⟩; replace HO_6 := Aside0.mk (Kd.R_below (rU HO_6.out) hb); replace HO_8 := Aside0.mk (Kd.S_below (by (with_reducible repeat (first | apply Kd.S_alloc | apply Kd.S_drewN | apply Kd.S_drew)); exact HO_8.out) hb); replace HO_9 := Aside0.mk (Kd.S_below (by (with_reducible repeat (first | apply Kd.S_alloc | apply Kd.S_drewN | apply Kd.S_drew)); exact HO_9.out) hb); replace HO_10 := Aside0.mk (Kd.R_below (rU HO_10.out) hb); replace HO323 := Aside0.mk (Kd.S_below (by (with_reducible repeat (first | apply Kd.S_alloc | apply Kd.S_drewN | apply Kd.S_drew)); exact HO323.out) hb); replace HO327 := Aside0.mk (Kd.S_below (by (with_reducible repeat (first | apply Kd.S_alloc | apply Kd.S_drewN | apply Kd.S_drew)); exact HO327.out) hb); replace HB := bH (lU) hb; (try clear hb)))
        go_ret
        exact ⟨eE, lU⟩
      ·replace c38 := Bool.eq_false_iff.mpr c38
       subst c38
       have H1 : (some false) = some r := by rw [if_neg (show ¬ (false = true) by decide)] at H; exact H
       clear H
       have H := H1
       clear H1
       obtain rfl := Option.some.inj H
       go_wp2_with (first | ((with_reducible refine gate_callee (f := 6) rfl ?_); refine goesL_ (some 56) rfl rfl Try.func6 (by kernel_rfl) rfl #[.slice A0 l0.length c0] rfl aE ?_; (with_reducible refine (laws_toAssetS.calls kj15 _ _ l0 t321 _ ?side1 ?side2 A36.out).mono ?_); (case side1 => exact cU (Kd.C_below HR0.out HB.out)); (case side2 => exact HC0.out); rintro e w104 ⟨v322, rfl, ho0, hb⟩; refine ⟨_, rfl, ?_⟩; have HO323 := Aside0.mk (Kd.S_lower (Kd.S_new' (Kd.S_new' (Kd.S_new' (Kd.S_new' ho0 (Kd.R_lt (rU HO_6.out))) (Kd.S_lt (by (with_reducible repeat (first | apply Kd.S_alloc | apply Kd.S_drewN | apply Kd.S_drew)); exact HO_8.out))) (Kd.S_lt (by (with_reducible repeat (first | apply Kd.S_alloc | apply Kd.S_drewN | apply Kd.S_drew)); exact HO_9.out))) (Kd.R_lt (rU HO_10.out))) (below_size (lU))); replace HO_6 := Aside0.mk (Kd.R_below (rU HO_6.out) hb); replace HO_8 := Aside0.mk (Kd.S_elder' (by (with_reducible repeat (first | apply Kd.S_alloc | apply Kd.S_drewN | apply Kd.S_drew)); exact HO_8.out) (Kd.S_base ho0) hb); replace HO_9 := Aside0.mk (Kd.S_elder' (by (with_reducible repeat (first | apply Kd.S_alloc | apply Kd.S_drewN | apply Kd.S_drew)); exact HO_9.out) (Kd.S_base ho0) hb); replace HO_10 := Aside0.mk (Kd.R_below (rU HO_10.out) hb); replace HB := bH (lU) hb; (try clear hb); (try clear ho0); obtain ⟨Ao105, co105, eo105⟩ := Kd.S_slice HO323.out; subst eo105) | ((with_reducible refine gate_callee (f := 9) rfl ?_); refine goesL_ (some 57) rfl rfl Try.func9 (by kernel_rfl) rfl #[.slice Ao26 t310.length co26, .slice Ao105 t321.length co105] rfl aE ?_; (with_reducible refine (laws_eqAssetS.calls kj15 _ _ t310 _ _ t321 false _ ?side1 ?side2 ?side3 ?side4 A37.out).mono ?_); (case side1 => exact cU (Kd.S_reads' HO_8.out).2.2); (case side2 => exact (Kd.S_reads' HO_8.out).2.1); (case side3 => exact cU (Kd.S_reads' HO323.out).2.2); (case side4 => exact (Kd.S_reads' HO323.out).2.1); rintro e w106 ⟨rfl, hb⟩; refine ⟨_, rfl, ?_⟩; replace HO_6 := Aside0.mk (Kd.R_below (rU HO_6.out) hb); replace HO_8 := Aside0.mk (Kd.S_below (by (with_reducible repeat (first | apply Kd.S_alloc | apply Kd.S_drewN | apply Kd.S_drew)); exact HO_8.out) hb); replace HO_9 := Aside0.mk (Kd.S_below (by (with_reducible repeat (first | apply Kd.S_alloc | apply Kd.S_drewN | apply Kd.S_drew)); exact HO_9.out) hb); replace HO_10 := Aside0.mk (Kd.R_below (rU HO_10.out) hb); replace HO323 := Aside0.mk (Kd.S_below (by (with_reducible repeat (first | apply Kd.S_alloc | apply Kd.S_drewN | apply Kd.S_drew)); exact HO323.out) hb); replace HB := bH (lU) hb; (try clear hb)))
       go_ret
       exact ⟨eE, lU⟩
end Go.Proofs.Ytehkpnnidbghhab.PFnExactStaleBetween
namespace Go.Proofs.YtehkpnnidbghhabO
open Go.ChangeShapes Go.WideShapes Go.Proofs.YtehkpnnidbghhabW.PrintWords Go.RowKit
def InU8 (n : Int) : Prop := 0 ≤ n ∧ n ≤ 255
def Opens {α : Type} (P : Program) (t : TypeId) (d : Kd α) (g : α → Prop) : Prop :=
  ∀ {H : Type} (enc : TypeId × Value → H) (w : World) (fuel : Nat) (cs : List Value) (y : DataW H) (ps : List MemPlace),
    DataW.trod enc P w 0 (fun _ => true) true fuel t cs = some (y, ps) → (∀ n ∈ y.weights P t, n ≤ reachBytes) → ∃ x, d.K w x cs ∧ g x
theorem Opens.imp {α : Type} {P : Program} {t : TypeId} {d : Kd α} {g g' : α → Prop} (h : Opens P t d g) (k : ∀ x, g x → g' x) : Opens P t d g' := by
  intro H enc w fuel cs y ps ht hw
  obtain ⟨x, hx, hg⟩ := h enc w fuel cs y ps ht hw
  exact ⟨x, hx, k x hg⟩
theorem opens_int {P : Program} {t : TypeId} {k : IntKind} (ht : P.underlying t = some (.int k)) : Opens P t (Kd.int k) (fun n => (Lit.int k n).wf = true) := by
  intro H enc w fuel cs y ps h _
  obtain ⟨n, rfl, _, hw⟩ := DataW.trod_int ht h
  exact ⟨n, rfl, hw⟩
theorem wf_u8 {n : Int} (h : (Lit.int .u8 n).wf = true) : InU8 n := bounds_u8 h
theorem opens_u8 {P : Program} {t : TypeId} (ht : P.underlying t = some (.int .u8)) : Opens P t (Kd.int .u8) InU8 := Opens.imp (opens_int ht) fun _ h => wf_u8 h
theorem opens_string {P : Program} {t : TypeId} (ht : P.underlying t = some .string) : Opens P t Kd.string (fun s => s.size ≤ 140737488351232) := by
  intro H enc w fuel cs y ps h hw
  obtain ⟨s, rfl, hx, _⟩ := DataW.trod_string ht h
  obtain ⟨rfl, _⟩ := Prod.mk.inj hx
  refine ⟨s, rfl, ?_⟩
  have := hw s.data.toList.length (by simp [DataW.weights])
  rw [Array.length_toList] at this
  exact this
theorem exists_list {α : Type} (p : Nat → α → Prop) : ∀ n : Nat, (∀ i, i < n → ∃ x, p i x) → ∃ xs : List α, xs.length = n ∧ ∀ i x, xs[i]? = some x → p i x
  | 0, _ => ⟨[], rfl, fun i x h => by simp at h⟩
  | n + 1, h => by
    obtain ⟨xs, hl, hx⟩ := exists_list p n (fun i hi => h i (by omega))
    obtain ⟨x, hp⟩ := h n (by omega)
    refine ⟨xs ++ [x], by simp [hl], fun i y hy => ?_⟩
    rcases Nat.lt_or_ge i xs.length with hi | hi
    · rw [List.getElem?_append_left hi] at hy
      exact hx i y hy
    · have : i = n := by
        have := (List.getElem?_eq_some_iff.1 hy).1
        rw [List.length_append, List.length_singleton] at this
        omega
      subst this
      rw [List.getElem?_append_right hi] at hy
      rw [hl] at hy
      simp at hy
      subst hy
      exact hp
theorem add_add (ad : Addr) (i j : Nat) : (ad.add i).add j = ad.add (i + j) := by
  unfold Addr.add
  by_cases h1 : i = 0 <;> by_cases h2 : j = 0 <;> simp [h1, h2, Nat.add_assoc]
theorem weightsAll_mem {H : Type} {P : Program} {e : TypeId} : ∀ {l : List (DataW H)} {d : DataW H}, d ∈ l → ∀ n ∈ d.weights P e, n ∈ DataW.weightsAll P e l
  | [], d, h, _, _ => by simp at h
  | x :: r, d, h, n, hn => by
    simp only [DataW.weightsAll, List.mem_append]
    rcases List.mem_cons.1 h with rfl | h
    · exact .inl hn
    · exact .inr (weightsAll_mem h n hn)
theorem opens_slice {α : Type} {P : Program} {t e : TypeId} {d : Kd α} {g : α → Prop} {B : Nat} (ht : P.underlying t = some (.slice e)) (hs : P.cellsOf e = d.sz) (hB : P.bytesOf e = B) (h : Opens P e d g) :
    Opens P t (Kd.slice e d) (fun xs => xs.length * B ≤ 140737488351232 ∧ ∀ x ∈ xs, g x) := by
  intro H enc w fuel cs y ps hy hw
  rcases DataW.trod_slice ht hy with ⟨rfl, _⟩ | ⟨a, len, cap, elems, rest, n, rfl, rfl, hx, _, hlc, hcm, hel, hget, _, _⟩
  · exact ⟨[], ⟨none, 0, rfl, Nat.le_refl _, Kd.C_nil d w⟩, by simp⟩
  · obtain ⟨rfl, _⟩ := Prod.mk.inj hx
    simp only [DataW.weights, ht] at hw
    have hlen : len * B ≤ 140737488351232 := by
      have := hw _ List.mem_cons_self
      simp only [List.length_map, hB] at this
      have h2 : len * B ≤ (elems.length + rest.length) * B := Nat.mul_le_mul_right _ (by omega)
      exact Nat.le_trans h2 this
    have key : ∀ i, i < len → ∃ x, (∃ c, c.length = d.sz ∧ d.K w x c ∧ ∀ j u, c[j]? = some u → w.cell? (a.add (i * d.sz + j)) = some u) ∧ g x := by
      intro i hi
      have hg := hget i hi
      rw [List.getElem?_eq_getElem (by omega), Option.bind_eq_some_iff] at hg
      obtain ⟨c, hc, hd⟩ := hg
      obtain ⟨_, hcl, hcell⟩ := World.cells?_some hc
      obtain ⟨x, hK, hgx⟩ := h enc w n c _ _ hd (fun m hm => hw m (List.mem_cons_of_mem _ (List.mem_append_left _ (weightsAll_mem (List.mem_map_of_mem (List.getElem_mem _)) m hm))))
      refine ⟨x, ⟨c, hcl.trans hs, hK, fun j u hj => ?_⟩, hgx⟩
      have hjl : j < P.cellsOf e := by
        have := (List.getElem?_eq_some_iff.1 hj).1
        omega
      have := hcell j hjl
      rw [add_add, hj, hs] at this
      exact this
    obtain ⟨xs, hxl, hxs⟩ := exists_list _ len key
    refine ⟨xs, ⟨some a, cap, by rw [hxl], by omega, hxl ▸ ⟨hxl, by simp only [maxLen] at hcm; omega, fun _ => ⟨a, rfl, fun j p hp => (hxs j p hp).1⟩⟩⟩, by rw [hxl]; exact hlen, fun x hx => ?_⟩
    obtain ⟨i, hi, rfl⟩ := List.getElem_of_mem hx
    exact (hxs i _ (List.getElem?_eq_getElem hi)).2
theorem opens_iso {α β : Type} {P : Program} {t : TypeId} {d : Kd α} {g : α → Prop} (f : β → α) (inv : α → β) (hi : ∀ x, f (inv x) = x) (h : Opens P t d g) : Opens P t (Kd.iso d f) (fun x => g (f x)) := by
  intro H enc w fuel cs y ps hy hw
  obtain ⟨x, hK, hg⟩ := h enc w fuel cs y ps hy hw
  refine ⟨inv x, ?_, ?_⟩
  · show d.K w (f (inv x)) cs
    rw [hi]; exact hK
  · show g (f (inv x))
    rw [hi]; exact hg
def OpensL {α : Type} (P : Program) (fs : List Field) (off : Nat) (d : Kd α) (g : α → Prop) : Prop :=
  ∀ {H : Type} (enc : TypeId × Value → H) (w : World) (n : Nat) (cs : List Value) (ys : List (DataW H × List MemPlace)), ys.length = fs.length →
    (∀ (i : Nat) (f : Field), fs[i]? = some f → DataW.trod enc P w 0 (fun _ => true) true n f.type ((cs.drop f.offset).take (P.cellsOf f.type)) = ys[i]?) →
    (∀ m ∈ DataW.weightsEach P (fs.map (·.type)) (ys.map (·.1)), m ≤ reachBytes) → ∃ x, d.K w x ((cs.drop off).take d.sz) ∧ g x
theorem opensL_one {α : Type} {P : Program} {f : Field} {off : Nat} {d : Kd α} {g : α → Prop} (ho : f.offset = off) (hs : P.cellsOf f.type = d.sz) (h : Opens P f.type d g) : OpensL P [f] off d g := by
  intro H enc w n cs ys hl hf hw
  match ys, hl with
  | [y], _ =>
    have h0 := hf 0 f rfl
    rw [ho, hs] at h0
    exact h enc w n _ y.1 y.2 h0 (fun m hm => hw m (by simp only [List.map_cons, DataW.weightsEach, List.mem_append]; exact .inl hm))
theorem opensL_cons {α β : Type} {P : Program} {f : Field} {fs : List Field} {off : Nat} {a : Kd α} {b : Kd β} {ga : α → Prop} {gb : β → Prop} (ho : f.offset = off) (hs : P.cellsOf f.type = a.sz) (h : Opens P f.type a ga) (hr : OpensL P fs (off + a.sz) b gb) :
    OpensL P (f :: fs) off (Kd.pair a b) (fun x => ga x.1 ∧ gb x.2) := by
  intro H enc w n cs ys hl hf hw
  match ys, hl with
  | y :: ys, hl =>
    have h0 := hf 0 f rfl
    rw [ho, hs] at h0
    obtain ⟨x, hx, hgx⟩ := h enc w n _ y.1 y.2 h0 (fun m hm => hw m (by simp only [List.map_cons, DataW.weightsEach, List.mem_append]; exact .inl hm))
    obtain ⟨x', hx', hgx'⟩ := hr enc w n cs ys (by simpa using hl) (fun i f' hf' => by have := hf (i + 1) f' (by simpa using hf'); simpa using this) (fun m hm => hw m (by simp only [List.map_cons, DataW.weightsEach, List.mem_append]; exact .inr hm))
    refine ⟨(x, x'), ⟨_, _, ?_, hx, hx'⟩, hgx, hgx'⟩
    show (cs.drop off).take (a.sz + b.sz) = _
    rw [List.take_add, List.drop_drop]
theorem opens_struct {α : Type} {P : Program} {t : TypeId} {fs : Array Field} {d : Kd α} {g : α → Prop} (ht : P.underlying t = some (.struct fs)) (hs : P.cellsOf t = d.sz) (h : OpensL P fs.toList 0 d g) : Opens P t d g := by
  intro H enc w fuel cs y ps hy hw
  obtain ⟨xs, n, rfl, hx, hl, hxl, hget⟩ := DataW.trod_struct ht hy
  obtain ⟨rfl, _⟩ := Prod.mk.inj hx
  simp only [DataW.weights, ht] at hw
  obtain ⟨x, hK, hg⟩ := h enc w n cs xs (by simpa using hxl) (fun i f hf => hget i f (by simpa using hf)) (by simpa using hw)
  rw [List.drop_zero, List.take_of_length_le (by omega)] at hK
  exact ⟨x, hK, hg⟩
theorem weights_of {H : Type} {P : Program} {ts : List TypeId} {ds : List (DataW H)} {j : Nat} {t : TypeId} {d : DataW H} (hsz : (DataW.weightsEach P ts ds).all (· ≤ reachBytes) = true) (ht : ts[j]? = some t) (hd : ds[j]? = some d) : ∀ n ∈ d.weights P t, n ≤ reachBytes := by
  intro n hn
  have := List.all_eq_true.1 hsz n (DataW.weights_mem_each ht hd n hn)
  simpa using this
theorem open_slice {α H : Type} {enc : TypeId × Value → H} {P : Program} {W : World} {t e : TypeId} {d : Kd α} {g : List α → Prop} {a : Option Addr} {len cap : Nat} {y : DataW H} {ps : List MemPlace} (h : Opens P t (Kd.slice e d) g)
    (hy : DataW.Trod enc P W 0 (fun _ => true) true t (.slice a len cap) y ps) (hw : ∀ n ∈ y.weights P t, n ≤ reachBytes) : ∃ xs : List α, len = xs.length ∧ xs.length ≤ cap ∧ d.C W a xs.length xs ∧ g xs := by
  obtain ⟨fuel, hf⟩ := hy
  obtain ⟨xs, ⟨A, c, he, hl, hC⟩, hg⟩ := h enc W fuel _ y ps hf hw
  have he' : Value.slice a len cap = .slice A xs.length c := by simpa [Value.cells] using he
  injection he' with h1 h2 h3
  subst h1 h2 h3
  exact ⟨xs, rfl, hl, hC, hg⟩
end Go.Proofs.YtehkpnnidbghhabO
namespace Go.Proofs.Ytehkpnnidbghhab.OFnExactStaleBetween
open Go.RowKit Go.Proofs.Ytehkpnnidbghhab.PFnExactStaleBetween Go.Proofs.YtehkpnnidbghhabW.PrintWords Go.Proofs.YtehkpnnidbghhabO
def Ok37 (x : S37) : Prop := (x.f0.size ≤ 140737488351232) ∧ (x.f1.length * 16 ≤ 140737488351232 ∧ ∀ y ∈ x.f1, y.size ≤ 140737488351232) ∧ (x.f2.length * 1 ≤ 140737488351232 ∧ ∀ y ∈ x.f2, InU8 y)
theorem opens37 : Opens Try.prog 37 k37 Ok37 :=
  Opens.imp (opens_iso _ (fun x => (⟨x.1, x.2.1, x.2.2⟩ : S37)) (fun _ => rfl) (opens_struct Try.underlying37 (by kernel_rfl) (opensL_cons rfl (by kernel_rfl) (opens_string Try.underlying9) (opensL_cons rfl (by kernel_rfl) (opens_slice Try.underlying24 (by kernel_rfl) (B := 16) (by kernel_rfl) (opens_string Try.underlying9)) (opensL_one rfl (by kernel_rfl) (opens_slice Try.underlying35 (by kernel_rfl) (B := 1) (by kernel_rfl) (opens_u8 Try.underlying5))))))) fun x h => by
    obtain ⟨h0, h1, h2⟩ := h
    exact ⟨h0, h1, h2⟩
end Go.Proofs.Ytehkpnnidbghhab.OFnExactStaleBetween
namespace Go.Proofs.YtehkpnnidbghhabO
open Go.RowKit Go.Proofs.YtehkpnnidbghhabW.PrintWords Go.Proofs.YtehkpnnidbghhabW.PrintLast Go.Proofs.YtehkpnnidbghhabW.PrintMore
theorem w64 {n : Int} (h : -9223372036854775808 ≤ n) (k : n ≤ 9223372036854775807) : wrap64 n = n := by unfold wrap64; omega
theorem w64s (i : Nat) (h : i < 4611686018427387904) : wrap64 ((i : Int) + 1) = ((i + 1 : Nat) : Int) := by unfold wrap64; omega
theorem ev_some {α : Type} {x r : α} (h : x = r) : Ev (fun _ => some x) r := ⟨0, fun _ _ => by rw [h]⟩
theorem ev_pos {α : Type} {c : Prop} [Decidable c] {f g : Nat → Option α} {r : α} (h : c) (k : Ev f r) : Ev (fun n => if c then f n else g n) r := by
  obtain ⟨K, hK⟩ := k
  exact ⟨K, fun n hn => (if_pos h).trans (hK n hn)⟩
theorem ev_neg {α : Type} {c : Prop} [Decidable c] {f g : Nat → Option α} {r : α} (h : ¬ c) (k : Ev g r) : Ev (fun n => if c then f n else g n) r := by
  obtain ⟨K, hK⟩ := k
  exact ⟨K, fun n hn => (if_neg h).trans (hK n hn)⟩
theorem ev_ite {α : Type} {c : Prop} [Decidable c] {f g : Nat → Option α} {r : α} (h : c → Ev f r) (k : ¬ c → Ev g r) : Ev (fun n => if c then f n else g n) r := by
  by_cases hc : c
  · exact ev_pos hc (h hc)
  · exact ev_neg hc (k hc)
theorem ev_bindc {α β : Type} {x : Option α} {f : Nat → α → Option β} {a : α} {r : β} (h : x = some a) (k : Ev (fun n => f n a) r) : Ev (fun n => x.bind (f n)) r := by
  subst h; exact k
theorem ev_unique {α : Type} {f : Nat → Option α} {a b : α} (h : Ev f a) (k : Ev f b) : a = b := by
  obtain ⟨K, hK⟩ := h
  obtain ⟨K', hK'⟩ := k
  have h1 := hK (max K K') (Nat.le_max_left _ _)
  have h2 := hK' (max K K') (Nat.le_max_right _ _)
  rw [h1] at h2
  exact Option.some.inj h2
theorem ev_for {σ ρ : Type} (n : Nat) (L : Nat → Nat → σ → Option ρ) (I : Nat → σ → Prop) (Q : ρ → Prop)
    (hend : ∀ s, I n s → ∃ r, Ev (fun k => L k n s) r ∧ Q r)
    (hstep : ∀ i s, i < n → I i s → (∃ r, Ev (fun k => L k i s) r ∧ Q r) ∨ ∃ s', I (i + 1) s' ∧ ∀ r, Ev (fun k => L k (i + 1) s') r → Ev (fun k => L k i s) r) :
    ∀ i s, i ≤ n → I i s → ∃ r, Ev (fun k => L k i s) r ∧ Q r := by
  have key : ∀ d i s, i + d = n → I i s → ∃ r, Ev (fun k => L k i s) r ∧ Q r := by
    intro d
    induction d with
    | zero => intro i s hi h; obtain rfl : i = n := by omega
              exact hend s h
    | succ d ih =>
      intro i s hi h
      rcases hstep i s (by omega) h with h' | ⟨s', hI, hr⟩
      · exact h'
      · obtain ⟨r, hr', hQ⟩ := ih (i + 1) s' (by omega) hI
        exact ⟨r, hr r hr', hQ⟩
  intro i s hi h
  exact key (n - i) i s (by omega) h
theorem ev_for1 {σ ρ : Type} (n : Nat) (L : Nat → Nat → σ → Option ρ) (I : Nat → σ → Prop) (a : ρ)
    (hend : ∀ s, I n s → Ev (fun k => L k n s) a)
    (hstep : ∀ i s, i < n → I i s → Ev (fun k => L k i s) a ∨ ∃ s', I (i + 1) s' ∧ ∀ r, Ev (fun k => L k (i + 1) s') r → Ev (fun k => L k i s) r) :
    ∀ i s, i ≤ n → I i s → Ev (fun k => L k i s) a := by
  intro i s hi h
  obtain ⟨r, hr, rfl⟩ := ev_for n L I (fun r => r = a) (fun s hs => ⟨a, hend s hs, rfl⟩) (fun i s hi hs => (hstep i s hi hs).imp (fun h => ⟨a, h, rfl⟩) id) i s hi h
  exact hr
theorem rd_get {xs : List Int} {i : Nat} (h : i < xs.length) : rd xs (i : Int) = xs[i] := by simp [rd, List.getD_eq_getElem?_getD, h]
theorem rdOf_get {α : Type} {d : α} {xs : List α} {i : Nat} (h : i < xs.length) : rdOf d xs (i : Int) = xs[i] := by simp [rdOf, List.getD_eq_getElem?_getD, h]
theorem getD_get {α : Type} {d : α} {xs : List α} {i : Nat} (h : i < xs.length) : xs.getD (i : Int).toNat d = xs[i] := by simp [List.getD_eq_getElem?_getD, h]
theorem ev_copy {α β : Type} (L : Nat → List α → List β → Int → Option (List β)) (e : Nat → List α → Int → Option β) (g : α → β)
    (hL : ∀ k xs ys i, L (k + 1) xs ys i = if i < (xs.length : Int) then (if 0 ≤ i then (if i < (ys.length : Int) then ((e k xs i).bind fun v => L k xs (ys.set (i : Int).toNat v) (wrap64 (i + 1))) else none) else none) else some ys)
    (xs : List α) (hx : xs.length < 4611686018427387904) (he : ∀ i : Nat, ∀ h : i < xs.length, Ev (fun k => e k xs (i : Int)) (g xs[i])) (ys : List β) (hy : ys.length = xs.length) :
    Ev (fun k => L k xs ys 0) (xs.map g) := by
  refine ev_for1 xs.length (fun k i ys => L k xs ys (i : Int)) (fun i ys => ys.length = xs.length ∧ ∀ j, j < i → ys[j]? = (xs.map g)[j]?) (xs.map g) ?_ ?_ 0 ys (Nat.zero_le _) ⟨hy, fun j hj => by omega⟩
  · intro ys ⟨hl, h⟩
    refine Ev.step (fun k => hL k xs ys _) (ev_neg (by omega) (ev_some ?_))
    apply List.ext_getElem?
    intro j
    rcases Nat.lt_or_ge j xs.length with hj | hj
    · exact h j hj
    · rw [List.getElem?_eq_none (by omega), List.getElem?_eq_none (by simpa using hj)]
  · intro i ys hi ⟨hl, h⟩
    refine .inr ⟨ys.set i (g xs[i]), ⟨by simpa using hl, fun j hj => ?_⟩, fun r hr => ?_⟩
    · rcases Nat.lt_or_ge j i with hji | hji
      · rw [List.getElem?_set_ne (by omega)]
        exact h j hji
      · obtain rfl : j = i := by omega
        rw [List.getElem?_set_self (by omega), List.getElem?_map, List.getElem?_eq_getElem hi]
        rfl
    · refine Ev.step (fun k => hL k xs ys _) (ev_pos (by omega) (ev_pos (by omega) (ev_pos (by omega) (Ev.bind (he i hi) ?_))))
      rw [w64s i (by omega)]
      exact hr
theorem ev_alike {α β : Type} (L : Nat → List α → List β → Int → Option Bool) (e : Nat → List α → List β → Int → Option Bool) (g : α → β → Bool)
    (hL : ∀ k xs ys i, L (k + 1) xs ys i = if i < (xs.length : Int) then (if 0 ≤ i then (if i < (ys.length : Int) then ((e k xs ys i).bind fun v => if v = true then L k xs ys (wrap64 (i + 1)) else some false) else none) else none) else some true)
    (xs : List α) (ys : List β) (hx : xs.length < 4611686018427387904) (hy : ys.length = xs.length) (he : ∀ i : Nat, ∀ (h : i < xs.length) (h' : i < ys.length), Ev (fun k => e k xs ys (i : Int)) (g xs[i] ys[i]))
    (b : Bool) (hb : b = true ↔ ∀ i : Nat, ∀ (h : i < xs.length) (h' : i < ys.length), g xs[i] ys[i] = true) :
    Ev (fun k => L k xs ys 0) b := by
  refine ev_for1 xs.length (fun k i (_ : Unit) => L k xs ys (i : Int)) (fun i _ => ∀ j, j < i → ∀ (h : j < xs.length) (h' : j < ys.length), g xs[j] ys[j] = true) b ?_ ?_ 0 () (Nat.zero_le _) (fun j hj => by omega)
  · intro _ h
    refine Ev.step (fun k => hL k xs ys _) (ev_neg (by omega) (ev_some ?_))
    exact (hb.2 fun i hi hi' => h i hi hi hi').symm
  · intro i _ hi h
    have hi' : i < ys.length := by omega
    by_cases hg : g xs[i] ys[i] = true
    · refine .inr ⟨(), fun j hj h1 h2 => ?_, fun r hr => ?_⟩
      · rcases Nat.lt_or_ge j i with hji | hji
        · exact h j hji h1 h2
        · obtain rfl : j = i := by omega
          exact hg
      · refine Ev.step (fun k => hL k xs ys _) (ev_pos (by omega) (ev_pos (by omega) (ev_pos (by omega) (Ev.bind (he i hi hi') (ev_pos hg ?_)))))
        rw [w64s i (by omega)]
        exact hr
    · refine .inl (Ev.step (fun k => hL k xs ys _) (ev_pos (by omega) (ev_pos (by omega) (ev_pos (by omega) (Ev.bind (he i hi hi') (ev_neg hg (ev_some ?_)))))))
      cases b with
      | false => rfl
      | true => exact absurd (hb.1 rfl i hi hi') hg
theorem ev_alike_self {α : Type} (L : Nat → List α → List α → Int → Option Bool) (e : Nat → List α → List α → Int → Option Bool)
    (hL : ∀ k xs ys i, L (k + 1) xs ys i = if i < (xs.length : Int) then (if 0 ≤ i then (if i < (ys.length : Int) then ((e k xs ys i).bind fun v => if v = true then L k xs ys (wrap64 (i + 1)) else some false) else none) else none) else some true)
    (xs : List α) (hx : xs.length < 4611686018427387904) (he : ∀ i : Nat, ∀ (_ : i < xs.length), Ev (fun k => e k xs xs (i : Int)) true) :
    Ev (fun k => L k xs xs 0) true :=
  ev_alike L e (fun _ _ => true) hL xs xs hx rfl (fun i h _ => he i h) true ⟨fun _ _ _ _ => rfl, fun _ => rfl⟩
theorem bool_of (P : Prop) : ∃ b : Bool, b = true ↔ P := ⟨@decide P (Classical.propDecidable P), by simp⟩
theorem bool_false {P : Prop} {b : Bool} (h : b = true ↔ P) (k : ¬ P) : b = false := by
  cases b with
  | false => rfl
  | true => exact absurd (h.1 rfl) k
theorem ev_all (n : Nat) (L : Nat → Nat → Option Bool) (ok : Nat → Prop) (e b : Bool) (hb : b = true ↔ e = true ∧ ∀ i, i < n → ok i) (hend : Ev (fun k => L k n) e)
    (hyes : ∀ i, i < n → (∀ j, j < i → ok j) → ok i → ∀ r, Ev (fun k => L k (i + 1)) r → Ev (fun k => L k i) r) (hno : ∀ i, i < n → (∀ j, j < i → ok j) → ¬ ok i → Ev (fun k => L k i) false) : Ev (fun k => L k 0) b := by
  refine ev_for1 n (fun k i (_ : Unit) => L k i) (fun i _ => ∀ j, j < i → ok j) b ?_ ?_ 0 () (Nat.zero_le _) (fun j hj => by omega)
  · intro _ h
    have : b = e := by
      cases e with
      | false => exact bool_false hb (fun h => by simp at h)
      | true => exact hb.2 ⟨rfl, h⟩
    rw [this]
    exact hend
  · intro i _ hi h
    by_cases ho : ok i
    · refine .inr ⟨(), fun j hj => ?_, hyes i hi h ho⟩
      rcases Nat.lt_or_ge j i with h1 | h1
      · exact h j h1
      · obtain rfl : j = i := by omega
        exact ho
    · have : b = false := bool_false hb (fun h => ho (h.2 i hi))
      rw [this]
      exact .inl (hno i hi h ho)
theorem wrap_u64 {n : Int} (h0 : 0 ≤ n) (h1 : n ≤ 18446744073709551615) : IntKind.u64.wrap n = n := by
  have e : IntKind.u64.wrap n = n % 18446744073709551616 := by simp only [IntKind.wrap, IntKind.bits, IntKind.signed]; rfl
  rw [e]; omega
def Chain {α : Type} (E : α → Int → Int → Prop) : List α → Int → Int → Prop
  | [], c, d => c = d
  | x :: r, c, d => ∃ m, E x c m ∧ Chain E r m d
theorem Chain.snoc {α : Type} {E : α → Int → Int → Prop} : ∀ {l : List α} {c m d : Int} {x : α}, Chain E l c m → E x m d → Chain E (l ++ [x]) c d
  | [], _, _, _, _, h, k => by cases h; exact ⟨_, k, rfl⟩
  | _ :: _, _, _, _, _, ⟨q, h1, h2⟩, k => ⟨q, h1, Chain.snoc h2 k⟩
theorem Chain.le {α : Type} {E : α → Int → Int → Prop} (hm : ∀ x c d, E x c d → c ≤ d) : ∀ {l : List α} {c d : Int}, Chain E l c d → c ≤ d
  | [], _, _, h => Int.le_of_eq h
  | _ :: _, _, _, ⟨_, h1, h2⟩ => Int.le_trans (hm _ _ _ h1) (Chain.le hm h2)
theorem ev_mark {α : Type} (L : Nat → List α → Int → Nat → Option (Int × List α)) (E : α → Int → Int → Prop) (G : α → Prop) (W : Int) (hW : 0 ≤ W) (hW' : W ≤ 1099511627776)
    (hend : ∀ zs c, Ev (fun k => L k zs c zs.length) (c, zs))
    (hstep : ∀ zs c i, ∀ hi : i < zs.length, i < 1048576 → G zs[i] → 0 ≤ c → c ≤ 2305843009213693952 → ∃ x' c', E x' c c' ∧ c ≤ c' ∧ c' ≤ c + W ∧ ∀ r, Ev (fun k => L k (zs.set i x') c' (i + 1)) r → Ev (fun k => L k zs c i) r)
    (xs : List α) (hG : ∀ x ∈ xs, G x) (hl : xs.length ≤ 1048576) (c : Int) (hc0 : 0 ≤ c) (hc1 : c ≤ 1152921504606846976) :
    ∃ ys d, Chain E ys c d ∧ c ≤ d ∧ d ≤ c + W * xs.length ∧ ys.length = xs.length ∧ Ev (fun k => L k xs c 0) (d, ys) := by
  have key : ∀ n i : Nat, ∀ zs : List α, ∀ m : Int, i + n = xs.length → zs.length = xs.length → zs.drop i = xs.drop i → Chain E (zs.take i) c m → c ≤ m → m ≤ c + W * i →
      ∃ ys d, Chain E ys c d ∧ c ≤ d ∧ d ≤ c + W * xs.length ∧ ys.length = xs.length ∧ Ev (fun k => L k zs m i) (d, ys) := by
    intro n
    induction n with
    | zero =>
      intro i zs m hi hz hd hch h1 h2
      obtain rfl : i = zs.length := by omega
      rw [List.take_length] at hch
      rw [← hz]
      exact ⟨zs, m, hch, h1, h2, rfl, hend zs m⟩
    | succ n ih =>
      intro i zs m hi hz hd hch h1 h2
      have hlt : i < zs.length := by omega
      have hx : i < xs.length := by omega
      have hget : zs[i] = xs[i] := by
        have e1 := List.drop_eq_getElem_cons hlt
        have e2 := List.drop_eq_getElem_cons hx
        rw [hd, e2] at e1
        exact (List.cons.inj e1).1.symm
      have hWi : W * (i : Int) ≤ 1099511627776 * 1048576 := Int.mul_le_mul hW' (by omega) (by omega) (by omega)
      obtain ⟨x', c', hE, hc, hcW, hr⟩ := hstep zs m i hlt (by omega) (by rw [hget]; exact hG _ (List.getElem_mem hx)) (by omega) (by omega)
      obtain ⟨ys, d, g1, g2, g3, g4, g5⟩ := ih (i + 1) (zs.set i x') c' (by omega) (by simpa using hz) (by
          rw [List.drop_set_of_lt (by omega)]
          have e1 := List.drop_eq_getElem_cons hlt
          have e2 := List.drop_eq_getElem_cons hx
          rw [hd, e2] at e1
          exact (List.cons.inj e1).2.symm) (by
          rw [List.take_succ_eq_append_getElem (by simpa using hlt), List.take_set_of_le (Nat.le_refl i), List.getElem_set_self]
          exact Chain.snoc hch hE) (by omega) (by
          have : W * ((i + 1 : Nat) : Int) = W * i + W := by rw [Int.natCast_add, Int.mul_add]; simp
          omega)
      exact ⟨ys, d, g1, g2, g3, g4, hr _ g5⟩
  have := key xs.length 0 xs c (by omega) rfl rfl (by simp [Chain]) (Int.le_refl _) (by simp)
  exact this
theorem ev_held {α : Type} (H : Nat → List α → Int → Nat → Option Int) (E : α → Int → Int → Prop) (hm : ∀ x c d, E x c d → c ≤ d)
    (hend : ∀ ys c, Ev (fun k => H k ys c ys.length) c)
    (hstep : ∀ ys c c' i, ∀ hi : i < ys.length, i < 1048576 → E ys[i] c c' → 0 ≤ c → c' ≤ 2305843009213693952 → ∀ r, Ev (fun k => H k ys c' (i + 1)) r → Ev (fun k => H k ys c i) r)
    (ys : List α) (hl : ys.length ≤ 1048576) (c d : Int) (hc0 : 0 ≤ c) (hd : d ≤ 2305843009213693952) (h : Chain E ys c d) : Ev (fun k => H k ys c 0) d := by
  have key : ∀ n i : Nat, ∀ m : Int, i + n = ys.length → 0 ≤ m → Chain E (ys.drop i) m d → Ev (fun k => H k ys m i) d := by
    intro n
    induction n with
    | zero =>
      intro i m hi h0 hch
      obtain rfl : i = ys.length := by omega
      rw [List.drop_length] at hch
      obtain rfl : m = d := hch
      exact hend ys m
    | succ n ih =>
      intro i m hi h0 hch
      have hlt : i < ys.length := by omega
      rw [List.drop_eq_getElem_cons hlt] at hch
      obtain ⟨m', hE, hch⟩ := hch
      have h1 := hm _ _ _ hE
      exact hstep ys m m' i hlt (by omega) hE h0 (by have := Chain.le hm hch; omega) d (ih (i + 1) m' (by omega) (by omega) hch)
  exact key ys.length 0 c (by omega) hc0 h
theorem ev_index {α : Type} (L : Nat → List α → Int → Int → Option Int) (p : Nat → List α → Int → Option Bool)
    (hL : ∀ k xs n i, L (k + 1) xs n i = if i < n then (if 0 ≤ i then (if i < (xs.length : Int) then ((p k xs i).bind fun t => if t = true then some i else L k xs n (wrap64 (i + 1))) else none) else none) else some (-1))
    (xs : List α) (hx : xs.length < 4611686018427387904) (P : Nat → Bool) (he : ∀ i : Nat, i < xs.length → Ev (fun k => p k xs (i : Int)) (P i)) :
    ∃ r, Ev (fun k => L k xs (xs.length : Int) 0) r ∧ ((r = -1 ∧ ∀ i, i < xs.length → P i = false) ∨ ∃ i : Nat, i < xs.length ∧ r = (i : Int) ∧ P i = true ∧ ∀ j, j < i → P j = false) := by
  refine ev_for xs.length (fun k i (_ : Unit) => L k xs (xs.length : Int) (i : Int)) (fun i _ => ∀ j, j < i → P j = false) (fun r => (r = -1 ∧ ∀ i, i < xs.length → P i = false) ∨ ∃ i : Nat, i < xs.length ∧ r = (i : Int) ∧ P i = true ∧ ∀ j, j < i → P j = false) ?_ ?_ 0 () (Nat.zero_le _) (fun j hj => by omega)
  · intro _ h
    exact ⟨-1, Ev.step (fun k => hL k xs _ _) (ev_neg (by omega) (ev_some rfl)), .inl ⟨rfl, h⟩⟩
  · intro i _ hi h
    cases hP : P i with
    | true =>
      refine .inl ⟨(i : Int), Ev.step (fun k => hL k xs _ _) (ev_pos (by omega) (ev_pos (by omega) (ev_pos (by omega) (Ev.bind (he i hi) (ev_pos hP (ev_some rfl)))))), .inr ⟨i, hi, rfl, hP, h⟩⟩
    | false =>
      refine .inr ⟨(), fun j hj => ?_, fun r hr => Ev.step (fun k => hL k xs _ _) (ev_pos (by omega) (ev_pos (by omega) (ev_pos (by omega) (Ev.bind (he i hi) (ev_neg (by rw [hP]; decide) ?_)))))⟩
      · rcases Nat.lt_or_ge j i with h1 | h1
        · exact h j h1
        · obtain rfl : j = i := by omega
          exact hP
      · rw [w64s i (by omega)]
        exact hr
theorem ev_contains {α : Type} (L : Nat → List α → Int → Int → Option Int) (p : Nat → List α → Int → Option Bool)
    (hL : ∀ k xs n i, L (k + 1) xs n i = if i < n then (if 0 ≤ i then (if i < (xs.length : Int) then ((p k xs i).bind fun t => if t = true then some i else L k xs n (wrap64 (i + 1))) else none) else none) else some (-1))
    (xs : List α) (hx : xs.length < 4611686018427387904) (P : Nat → Bool) (he : ∀ i : Nat, i < xs.length → Ev (fun k => p k xs (i : Int)) (P i)) (b : Bool) (hb : b = true ↔ ∃ i, i < xs.length ∧ P i = true) :
    Ev (fun k => (L k xs (xs.length : Int) 0).bind fun t => some (decide (t ≥ 0))) b := by
  obtain ⟨r, hr, h⟩ := ev_index L p hL xs hx P he
  refine Ev.bind hr (ev_some ?_)
  rw [Bool.eq_iff_iff, decide_eq_true_eq, hb]
  rcases h with ⟨rfl, h⟩ | ⟨i, hi, rfl, hP, _⟩
  · constructor
    · intro h'; omega
    · rintro ⟨i, hi, hP⟩; rw [h i hi] at hP; cases hP
  · exact ⟨fun _ => ⟨i, hi, hP⟩, fun _ => by omega⟩
theorem exev_bind {α β : Type} {g : Nat → Option α} {f : Nat → α → Option β} {a : α} {Q : β → Prop} (h : Ev g a) (k : ∃ r, Ev (fun n => f n a) r ∧ Q r) : ∃ r, Ev (fun n => (g n).bind (f n)) r ∧ Q r := by
  obtain ⟨r, hr, hq⟩ := k
  exact ⟨r, Ev.bind h hr, hq⟩
theorem exev_pos {α : Type} {c : Prop} [Decidable c] {f g : Nat → Option α} {Q : α → Prop} (h : c) (k : ∃ r, Ev f r ∧ Q r) : ∃ r, Ev (fun n => if c then f n else g n) r ∧ Q r := by
  obtain ⟨r, hr, hq⟩ := k
  exact ⟨r, ev_pos h hr, hq⟩
theorem exev_neg {α : Type} {c : Prop} [Decidable c] {f g : Nat → Option α} {Q : α → Prop} (h : ¬ c) (k : ∃ r, Ev g r ∧ Q r) : ∃ r, Ev (fun n => if c then f n else g n) r ∧ Q r := by
  obtain ⟨r, hr, hq⟩ := k
  exact ⟨r, ev_neg h hr, hq⟩
theorem exev_ite {α : Type} {c : Prop} [Decidable c] {f g : Nat → Option α} {Q : α → Prop} (h : c → ∃ r, Ev f r ∧ Q r) (k : ¬ c → ∃ r, Ev g r ∧ Q r) : ∃ r, Ev (fun n => if c then f n else g n) r ∧ Q r := by
  by_cases hc : c
  · exact exev_pos hc (h hc)
  · exact exev_neg hc (k hc)
theorem exev_some {α : Type} {x : α} {Q : α → Prop} (h : Q x) : ∃ r, Ev (fun _ => some x) r ∧ Q r := ⟨x, ev_some rfl, h⟩
theorem ev_copy2 {α β τ : Type} (L : Nat → List α → List β → Int → Option (List β)) (e : Nat → List α → Int → Option τ) (mk : τ → β) (g : α → β)
    (hL : ∀ k xs ys i, L (k + 1) xs ys i = if i < (xs.length : Int) then (if 0 ≤ i then ((e k xs i).bind fun v => if i < (ys.length : Int) then L k xs (ys.set (i : Int).toNat (mk v)) (wrap64 (i + 1)) else none) else none) else some ys)
    (xs : List α) (hx : xs.length < 4611686018427387904) (he : ∀ i : Nat, ∀ h : i < xs.length, ∃ t, Ev (fun k => e k xs (i : Int)) t ∧ mk t = g xs[i]) (ys : List β) (hy : ys.length = xs.length) :
    Ev (fun k => L k xs ys 0) (xs.map g) := by
  refine ev_for1 xs.length (fun k i ys => L k xs ys (i : Int)) (fun i ys => ys.length = xs.length ∧ ∀ j, j < i → ys[j]? = (xs.map g)[j]?) (xs.map g) ?_ ?_ 0 ys (Nat.zero_le _) ⟨hy, fun j hj => by omega⟩
  · intro ys ⟨hl, h⟩
    refine Ev.step (fun k => hL k xs ys _) (ev_neg (by omega) (ev_some ?_))
    apply List.ext_getElem?
    intro j
    rcases Nat.lt_or_ge j xs.length with hj | hj
    · exact h j hj
    · rw [List.getElem?_eq_none (by omega), List.getElem?_eq_none (by simpa using hj)]
  · intro i ys hi ⟨hl, h⟩
    obtain ⟨t, ht, hmk⟩ := he i hi
    refine .inr ⟨ys.set i (g xs[i]), ⟨by simpa using hl, fun j hj => ?_⟩, fun r hr => ?_⟩
    · rcases Nat.lt_or_ge j i with hji | hji
      · rw [List.getElem?_set_ne (by omega)]
        exact h j hji
      · obtain rfl : j = i := by omega
        rw [List.getElem?_set_self (by omega), List.getElem?_map, List.getElem?_eq_getElem hi]
        rfl
    · refine Ev.step (fun k => hL k xs ys _) (ev_pos (by omega) (ev_pos (by omega) (Ev.bind ht (ev_pos (by omega) ?_))))
      rw [w64s i (by omega), hmk]
      exact hr
theorem ev_size {α : Type} (L : Nat → List α → Int → Int → Option Int) (e : Nat → List α → Int → Int → Option Int) (C : α → Prop)
    (hL : ∀ k xs c i, L (k + 1) xs c i = if i < (xs.length : Int) then (if 0 ≤ i then ((e k xs c i).bind fun t => if t < 0 then some (-1) else L k xs t (wrap64 (i + 1))) else none) else some c)
    (xs : List α) (hx : xs.length < 4611686018427387904) (left : Int) (h0 : 0 ≤ left)
    (he : ∀ i : Nat, ∀ h : i < xs.length, ∀ c, 0 ≤ c → c ≤ left → ∃ r, Ev (fun k => e k xs c (i : Int)) r ∧ (r < 0 ∨ 0 ≤ r ∧ r ≤ c ∧ C xs[i])) :
    ∃ r, Ev (fun k => L k xs left 0) r ∧ (r < 0 ∨ 0 ≤ r ∧ r ≤ left ∧ ∀ x ∈ xs, C x) := by
  refine ev_for xs.length (fun k i c => L k xs c (i : Int)) (fun i c => 0 ≤ c ∧ c ≤ left ∧ ∀ j, ∀ h : j < xs.length, j < i → C xs[j]) (fun r => r < 0 ∨ 0 ≤ r ∧ r ≤ left ∧ ∀ x ∈ xs, C x) ?_ ?_ 0 left (Nat.zero_le _) ⟨h0, Int.le_refl _, fun j _ hj => by omega⟩
  · intro c ⟨hc0, hc1, h⟩
    refine ⟨c, Ev.step (fun k => hL k xs c _) (ev_neg (by omega) (ev_some rfl)), .inr ⟨hc0, hc1, fun x hx => ?_⟩⟩
    obtain ⟨j, hj, rfl⟩ := List.getElem_of_mem hx
    exact h j hj hj
  · intro i c hi ⟨hc0, hc1, h⟩
    obtain ⟨r, hr, hq⟩ := he i hi c hc0 hc1
    rcases hq with hq | ⟨q0, q1, q2⟩
    · exact .inl ⟨-1, Ev.step (fun k => hL k xs c _) (ev_pos (by omega) (ev_pos (by omega) (Ev.bind hr (ev_pos hq (ev_some rfl))))), .inl (by omega)⟩
    · refine .inr ⟨r, ⟨q0, by omega, fun j hj hji => ?_⟩, fun r' hr' => Ev.step (fun k => hL k xs c _) (ev_pos (by omega) (ev_pos (by omega) (Ev.bind hr (ev_neg (by omega) ?_))))⟩
      · rcases Nat.lt_or_ge j i with h1 | h1
        · exact h j hj h1
        · obtain rfl : j = i := by omega
          exact q2
      · rw [w64s i (by omega)]
        exact hr'
end Go.Proofs.YtehkpnnidbghhabO
namespace Go.Proofs.Ytehkpnnidbghhab.Pure
open Go.RowKit Go Go.Proofs.Ytehkpnnidbghhab.PFnExactStaleBetween Go.Proofs.Ytehkpnnidbghhab.OFnExactStaleBetween Go.Proofs.YtehkpnnidbghhabW.PrintWords Go.Proofs.YtehkpnnidbghhabW.PrintLast Go.Proofs.YtehkpnnidbghhabW.PrintMore Go.Proofs.YtehkpnnidbghhabO
set_option linter.unusedVariables false
set_option linter.unusedSimpArgs false
theorem st_spec_l21At_l0 {r : (Int)} {x1 : ByteArray} {x7 : List (S41)} {x8 : Int} {x9 : Int} (h : Ev (fun k => if x9 < x8 then (if 0 ≤ x9 then (if x9 < (x7.length : Int) then (if ((rd_T41 x7 x9).f0).toList = x1.toList then (some x9) else (spec_l21At.l0 k x1 x7 x8 (wrap64 (x9 + 1)))) else (none)) else (none)) else (some (-1))) r) : Ev (fun k => spec_l21At.l0 k x1 x7 x8 x9) r := Ev.step (fun k => by rw [spec_l21At.l0]) h
theorem st_laws_markText_l0 {r : (ByteArray)} {x0 : Int} {x3 : ByteArray} (h : Ev (fun k => if x0 > 0 then ((some (([(wrap64 (48 + (Int.tmod x0 10))) % 256] : List Int) : List Int)).bind fun y280 => (if (strOfNums y280).size + x3.size ≤ 9223372036854775807 then (laws_markText.l0 k (wrap64 (Int.tdiv x0 10)) ((strOfNums y280) ++ x3)) else (none))) else (if 1 + x3.size ≤ 9223372036854775807 then (some ((⟨#[109]⟩ : ByteArray) ++ x3)) else (none))) r) : Ev (fun k => laws_markText.l0 k x0 x3) r := Ev.step (fun k => by rw [laws_markText.l0]) h
theorem st_laws_markStringS_l0 {r : (Int × List ByteArray)} {x0 : List ByteArray} {x1 : Int} {x5 : Int} (h : Ev (fun k => if x5 < (x0.length : Int) then ((laws_markText.f k x1).bind fun t283 => (if 0 ≤ x5 then (laws_markStringS.l0 k (x0.set (x5 : Int).toNat t283) (wrap64 (x1 + 1)) (wrap64 (x5 + 1))) else (none))) else (some (x1, x0))) r) : Ev (fun k => laws_markStringS.l0 k x0 x1 x5) r := Ev.step (fun k => by rw [laws_markStringS.l0]) h
theorem st_laws_markAssetS_l0 {r : (Int × (List (S41)))} {x0 : List (S41)} {x1 : Int} {x5 : Int} (h : Ev (fun k => if x5 < (x0.length : Int) then ((laws_markText.f k x1).bind fun t286 => (if 0 ≤ x5 then ((some (x0.set (x5 : Int).toNat (⟨t286, (rd_T41 x0 x5).f1, (rd_T41 x0 x5).f2⟩ : S41) : List (S41))).bind fun y287 => ((laws_markStringS.f k ((rd_T41 y287 x5).f1) (wrap64 (x1 + 1))).bind fun bt289 => ((some (y287.set (x5 : Int).toNat (⟨(rd_T41 y287 x5).f0, bt289.2, (rd_T41 y287 x5).f2⟩ : S41) : List (S41))).bind fun y291 => ((laws_markByteS.f k ((rd_T41 y291 x5).f2) bt289.1).bind fun bt293 => (laws_markAssetS.l0 k (y291.set (x5 : Int).toNat (⟨(rd_T41 y291 x5).f0, (rd_T41 y291 x5).f1, bt293.2⟩ : S41)) bt293.1 (wrap64 (x5 + 1))))))) else (none))) else (some (x1, x0))) r) : Ev (fun k => laws_markAssetS.l0 k x0 x1 x5) r := Ev.step (fun k => by rw [laws_markAssetS.l0]) h
theorem st_laws_heldStringS_l0 {r : (Int)} {x0 : List ByteArray} {x1 : Int} {x5 : Int} (h : Ev (fun k => if x5 < (x0.length : Int) then (if 0 ≤ x5 then ((laws_markText.f k x1).bind fun t297 => (if (rdOf ByteArray.empty x0 x5).toList = t297.toList then (laws_heldStringS.l0 k x0 (wrap64 (x1 + 1)) (wrap64 (x5 + 1))) else (some (-1)))) else (none)) else (some x1)) r) : Ev (fun k => laws_heldStringS.l0 k x0 x1 x5) r := Ev.step (fun k => by rw [laws_heldStringS.l0]) h
theorem st_laws_FnExactStaleBetween_j0 {r : (Bool)} {x0 : List (S37)} {x1 : List (S37)} {x6 : List ByteArray} {x7 : Bool} {x8 : List (S41)} {x9 : List (S41)} {x10 : List ByteArray} {x11 : Bool} {x53 : Bool} (h : Ev (fun k => if x53 = true then (some false) else ((laws_toAssetS.f k x0).bind fun t321 => ((laws_eqAssetS.f k x8 t321).bind fun t324 => (if t324 = true then ((laws_toAssetS.f k x1).bind fun t325 => ((laws_eqAssetS.f k x9 t325).bind fun t328 => (if t328 = true then ((laws_markAssetS.f k x8 1).bind fun bt329 => ((laws_markAssetS.f k x9 bt329.1).bind fun bt331 => (if bt331.1 < 0 then (laws_FnExactStaleBetween.j1 k x0 x1 x6 x7 x10 true) else ((laws_eqStringS.f k x10 x6).bind fun t333 => (if t333 = true then (laws_FnExactStaleBetween.j1 k x0 x1 x6 x7 x10 (x11 != x7)) else (laws_FnExactStaleBetween.j1 k x0 x1 x6 x7 x10 true)))))) else (some false)))) else (some false))))) r) : Ev (fun k => laws_FnExactStaleBetween.j0 k x0 x1 x6 x7 x8 x9 x10 x11 x53) r := Ev.step (fun k => by rw [laws_FnExactStaleBetween.j0]) h
theorem st_laws_FnExactStaleBetween_j1 {r : (Bool)} {x0 : List (S37)} {x1 : List (S37)} {x6 : List ByteArray} {x7 : Bool} {x10 : List ByteArray} {x82 : Bool} (h : Ev (fun k => if x82 = true then (some false) else ((laws_markStringS.f k x10 1).bind fun bt334 => ((laws_heldStringS.f k bt334.2 1).bind fun t336 => (if t336 < 0 then (some false) else (if t336 = bt334.1 then ((laws_toAssetS.f k x0).bind fun t337 => ((laws_toAssetS.f k x1).bind fun t340 => ((impl_StaleBetween.f k t337 t340).bind fun bt343 => ((laws_eqStringS.f k bt343.1 x6).bind fun t347 => (if t347 = true then (laws_FnExactStaleBetween.j2 k bt334.2 bt334.1 (bt343.2 != x7)) else (laws_FnExactStaleBetween.j2 k bt334.2 bt334.1 true)))))) else (some false)))))) r) : Ev (fun k => laws_FnExactStaleBetween.j1 k x0 x1 x6 x7 x10 x82) r := Ev.step (fun k => by rw [laws_FnExactStaleBetween.j1]) h
theorem st_laws_FnExactStaleBetween_j2 {r : (Bool)} {x10 : List ByteArray} {x13 : Int} {x110 : Bool} (h : Ev (fun k => if x110 = true then (some false) else ((laws_heldStringS.f k x10 1).bind fun t348 => (if t348 < 0 then (some false) else (if t348 = x13 then (some true) else (some false))))) r) : Ev (fun k => laws_FnExactStaleBetween.j2 k x10 x13 x110) r := Ev.step (fun k => by rw [laws_FnExactStaleBetween.j2]) h
theorem st_spec_GoodName_j0 {r : (Bool)} {x0 : ByteArray} {x16 : Bool} (h : Ev (fun k => if x16 = true then (some false) else (spec_GoodName.l0 k x0 0)) r) : Ev (fun k => spec_GoodName.j0 k x0 x16) r := Ev.step (fun k => by rw [spec_GoodName.j0]) h
theorem st_spec_GoodName_l0 {r : (Bool)} {x0 : ByteArray} {x3 : Int} (h : Ev (fun k => if x3 < (x0.size : Int) then (if 0 ≤ x3 then ((spec_l1Letter.f (bt x0 x3)).bind fun t110 => (if t110 = true then (spec_GoodName.l0 k x0 (wrap64 (x3 + 1))) else ((spec_l1Digit.f (bt x0 x3)).bind fun t111 => (if t111 = true then (spec_GoodName.l0 k x0 (wrap64 (x3 + 1))) else (some false))))) else (none)) else (some true)) r) : Ev (fun k => spec_GoodName.l0 k x0 x3) r := Ev.step (fun k => by rw [spec_GoodName.l0]) h
theorem st_spec_l3Names_l0 {r : (Bool)} {x0 : List ByteArray} {x11 : List ByteArray} {x12 : Int} {x13 : Int} (h : Ev (fun k => if x13 < x12 then (if 0 ≤ x13 then (if x13 < (x11.length : Int) then ((spec_GoodName.f k (rdOf ByteArray.empty x11 x13)).bind fun t113 => (if t113 = true then (if x13 > 0 then (if 0 ≤ (wrap64 (x13 - 1)) then (if (wrap64 (x13 - 1)) < (x0.length : Int) then (if ((Op.bytesLess ((rdOf ByteArray.empty x0 (wrap64 (x13 - 1))).toList) ((rdOf ByteArray.empty x11 x13).toList)) = true) then (spec_l3Names.l0 k x0 x11 x12 (wrap64 (x13 + 1))) else (some false)) else (none)) else (none)) else (spec_l3Names.l0 k x0 x11 x12 (wrap64 (x13 + 1)))) else (some false))) else (none)) else (none)) else (some true)) r) : Ev (fun k => spec_l3Names.l0 k x0 x11 x12 x13) r := Ev.step (fun k => by rw [spec_l3Names.l0]) h
theorem st_spec_l1Has_l0 {r : (Bool)} {x1 : ByteArray} {x7 : List ByteArray} {x8 : Int} {x9 : Int} (h : Ev (fun k => if x9 < x8 then (if 0 ≤ x9 then (if x9 < (x7.length : Int) then (if (rdOf ByteArray.empty x7 x9).toList = x1.toList then (some true) else (spec_l1Has.l0 k x1 x7 x8 (wrap64 (x9 + 1)))) else (none)) else (none)) else (some false)) r) : Ev (fun k => spec_l1Has.l0 k x1 x7 x8 x9) r := Ev.step (fun k => by rw [spec_l1Has.l0]) h
theorem st_spec_l21Order_l0 {r : (List ByteArray)} {x0 : List (S41)} {x3 : List ByteArray} (h : Ev (fun k => spec_l21Order.l1 k x0 x3 false x0 (x0.length : Int) 0) r) : Ev (fun k => spec_l21Order.l0 k x0 x3) r := Ev.step (fun k => by rw [spec_l21Order.l0]) h
theorem st_spec_l21Order_l1 {r : (List ByteArray)} {x0 : List (S41)} {x3 : List ByteArray} {x4 : Bool} {x10 : List (S41)} {x11 : Int} {x12 : Int} (h : Ev (fun k => if x12 < x11 then (if 0 ≤ x12 then (if x12 < (x10.length : Int) then ((spec_l1Has.f k x3 ((rd_T41 x10 x12).f0)).bind fun t118 => (spec_l21Order.l2 k x0 x3 x4 (!t118) x10 x11 x12 ((rd_T41 x10 x12).f1) (((rd_T41 x10 x12).f1).length : Int) 0 ((rd_T41 x10 x12).f0) ((rd_T41 x10 x12).f1) ((rd_T41 x10 x12).f2))) else (none)) else (none)) else (if x4 = true then (spec_l21Order.l0 k x0 x3) else (some x3))) r) : Ev (fun k => spec_l21Order.l1 k x0 x3 x4 x10 x11 x12) r := Ev.step (fun k => by rw [spec_l21Order.l1]) h
theorem st_spec_l21Order_l2 {r : (List ByteArray)} {x0 : List (S41)} {x3 : List ByteArray} {x4 : Bool} {x7 : Bool} {x10 : List (S41)} {x11 : Int} {x12 : Int} {x22 : List ByteArray} {x23 : Int} {x24 : Int} {x118000 : ByteArray} {x118001 : List ByteArray} {x118002 : List Int} (h : Ev (fun k => if x24 < x23 then (if 0 ≤ x24 then (if x24 < (x22.length : Int) then (if x7 = true then ((spec_l1Has.f k x3 (rdOf ByteArray.empty x22 x24)).bind fun t120 => (spec_l21Order.l2 k x0 x3 x4 t120 x10 x11 x12 x22 x23 (wrap64 (x24 + 1)) x118000 x118001 x118002)) else (spec_l21Order.l2 k x0 x3 x4 false x10 x11 x12 x22 x23 (wrap64 (x24 + 1)) x118000 x118001 x118002)) else (none)) else (none)) else (if x7 = true then (if x3.length < 8796093022208 then (spec_l21Order.l0 k x0 (x3 ++ [x118000])) else (none)) else (spec_l21Order.l1 k x0 x3 x4 x10 x11 (wrap64 (x12 + 1))))) r) : Ev (fun k => spec_l21Order.l2 k x0 x3 x4 x7 x10 x11 x12 x22 x23 x24 x118000 x118001 x118002) r := Ev.step (fun k => by rw [spec_l21Order.l2]) h
theorem st_spec_GoodAssets_l0 {r : (Bool)} {x0 : List (S41)} {x10 : List (S41)} {x11 : Int} {x12 : Int} (h : Ev (fun k => if x12 < x11 then (if 0 ≤ x12 then (if x12 < (x10.length : Int) then ((spec_GoodName.f k ((rd_T41 x10 x12).f0)).bind fun t129 => (if t129 = true then (if x12 > 0 then (if 0 ≤ (wrap64 (x12 - 1)) then (if (wrap64 (x12 - 1)) < (x0.length : Int) then (if ((Op.bytesLess (((rd_T41 x0 (wrap64 (x12 - 1))).f0).toList) (((rd_T41 x10 x12).f0).toList)) = true) then ((spec_l3Names.f k ((rd_T41 x10 x12).f1) 10).bind fun t131 => (if t131 = true then (spec_GoodAssets.j1 k x0 x10 x11 x12 (decide ((((rd_T41 x10 x12).f2).length : Int) > 400)) ((rd_T41 x10 x12).f0) ((rd_T41 x10 x12).f1) ((rd_T41 x10 x12).f2)) else (spec_GoodAssets.j1 k x0 x10 x11 x12 true ((rd_T41 x10 x12).f0) ((rd_T41 x10 x12).f1) ((rd_T41 x10 x12).f2)))) else (spec_GoodAssets.j1 k x0 x10 x11 x12 true ((rd_T41 x10 x12).f0) ((rd_T41 x10 x12).f1) ((rd_T41 x10 x12).f2))) else (none)) else (none)) else ((spec_l3Names.f k ((rd_T41 x10 x12).f1) 10).bind fun t132 => (if t132 = true then (spec_GoodAssets.j1 k x0 x10 x11 x12 (decide ((((rd_T41 x10 x12).f2).length : Int) > 400)) ((rd_T41 x10 x12).f0) ((rd_T41 x10 x12).f1) ((rd_T41 x10 x12).f2)) else (spec_GoodAssets.j1 k x0 x10 x11 x12 true ((rd_T41 x10 x12).f0) ((rd_T41 x10 x12).f1) ((rd_T41 x10 x12).f2))))) else (spec_GoodAssets.j1 k x0 x10 x11 x12 true ((rd_T41 x10 x12).f0) ((rd_T41 x10 x12).f1) ((rd_T41 x10 x12).f2)))) else (none)) else (none)) else ((spec_l21Order.f k x0).bind fun t124 => (some ((t124.length : Int) == (x0.length : Int))))) r) : Ev (fun k => spec_GoodAssets.l0 k x0 x10 x11 x12) r := Ev.step (fun k => by rw [spec_GoodAssets.l0]) h
theorem st_spec_GoodAssets_j1 {r : (Bool)} {x0 : List (S41)} {x10 : List (S41)} {x11 : Int} {x12 : Int} {x47 : Bool} {x129000 : ByteArray} {x129001 : List ByteArray} {x129002 : List Int} (h : Ev (fun k => if x47 = true then (some false) else (spec_GoodAssets.l1 k x0 x10 x11 x12 x129001 (x129001.length : Int) 0)) r) : Ev (fun k => spec_GoodAssets.j1 k x0 x10 x11 x12 x47 x129000 x129001 x129002) r := Ev.step (fun k => by rw [spec_GoodAssets.j1]) h
theorem st_spec_GoodAssets_l1 {r : (Bool)} {x0 : List (S41)} {x10 : List (S41)} {x11 : Int} {x12 : Int} {x49 : List ByteArray} {x50 : Int} {x51 : Int} (h : Ev (fun k => if x51 < x50 then (if 0 ≤ x51 then (if x51 < (x49.length : Int) then ((spec_l21At.f k x0 (rdOf ByteArray.empty x49 x51)).bind fun t134 => (if t134 < 0 then (some false) else (spec_GoodAssets.l1 k x0 x10 x11 x12 x49 x50 (wrap64 (x51 + 1))))) else (none)) else (none)) else (spec_GoodAssets.l0 k x0 x10 x11 (wrap64 (x12 + 1)))) r) : Ev (fun k => spec_GoodAssets.l1 k x0 x10 x11 x12 x49 x50 x51) r := Ev.step (fun k => by rw [spec_GoodAssets.l1]) h
theorem st_spec_l21Stamps_l0 {r : (List Int)} {x0 : List (S41)} {x3 : List Int} {x15 : List ByteArray} {x16 : Int} {x17 : Int} (h : Ev (fun k => if x17 < x16 then (if 0 ≤ x17 then (if x17 < (x15.length : Int) then ((spec_l21At.f k x0 (rdOf ByteArray.empty x15 x17)).bind fun t143 => (if ([] : List Int).length + (rdOf ByteArray.empty x15 x17).size < 140737488355328 then ((some (([] : List Int) ++ bytesOf (rdOf ByteArray.empty x15 x17) : List Int)).bind fun y144 => (if y144.length < 140737488355328 then ((some (y144 ++ [0] : List Int)).bind fun y147 => (if 0 ≤ t143 then (if t143 < (x0.length : Int) then (if y147.length + ((rd_T41 x0 t143).f2).length < 140737488355328 then ((some (y147 ++ ((rd_T41 x0 t143).f2) : List Int)).bind fun y151 => (if y151.length < 140737488355328 then (spec_l21Stamps.l1 k x0 x3 t143 (y151 ++ [0]) x15 x16 x17 ((rd_T41 x0 t143).f1) (((rd_T41 x0 t143).f1).length : Int) 0) else (none))) else (none)) else (none)) else (none))) else (none))) else (none))) else (none)) else (none)) else (some x3)) r) : Ev (fun k => spec_l21Stamps.l0 k x0 x3 x15 x16 x17) r := Ev.step (fun k => by rw [spec_l21Stamps.l0]) h
theorem st_spec_l21Stamps_l1 {r : (List Int)} {x0 : List (S41)} {x3 : List Int} {x6 : Int} {x7 : List Int} {x15 : List ByteArray} {x16 : Int} {x17 : Int} {x44 : List ByteArray} {x45 : Int} {x46 : Int} (h : Ev (fun k => if x46 < x45 then (if 0 ≤ x46 then (if x46 < (x44.length : Int) then ((spec_l21At.f k x0 (rdOf ByteArray.empty x44 x46)).bind fun t159 => (if 0 ≤ t159 then (if t159 < (x3.length : Int) then ((some (([((rd x3 t159) / 16777216) % 256, ((rd x3 t159) / 65536) % 256, ((rd x3 t159) / 256) % 256, (rd x3 t159) % 256] : List Int) : List Int)).bind fun y161 => (if x7.length + y161.length < 140737488355328 then (spec_l21Stamps.l1 k x0 x3 x6 (x7 ++ y161) x15 x16 x17 x44 x45 (wrap64 (x46 + 1))) else (none))) else (none)) else (none))) else (none)) else (none)) else ((spec_l21Digest.f k x7).bind fun t167 => (if 0 ≤ x6 then (if x6 < (x3.length : Int) then (spec_l21Stamps.l0 k x0 (x3.set (x6 : Int).toNat t167) x15 x16 (wrap64 (x17 + 1))) else (none)) else (none)))) r) : Ev (fun k => spec_l21Stamps.l1 k x0 x3 x6 x7 x15 x16 x17 x44 x45 x46) r := Ev.step (fun k => by rw [spec_l21Stamps.l1]) h
theorem st_spec_StaleBetween_j0 {r : (List ByteArray × Bool)} {x0 : List (S41)} {x1 : List (S41)} {x19 : Bool} (h : Ev (fun k => if x19 = true then (some (([] : List ByteArray), false)) else ((spec_l21Stamps.f k x0).bind fun t171 => ((spec_l21Stamps.f k x1).bind fun t174 => (spec_StaleBetween.l0 k x0 t171 t174 ([] : List ByteArray) x1 (x1.length : Int) 0)))) r) : Ev (fun k => spec_StaleBetween.j0 k x0 x1 x19) r := Ev.step (fun k => by rw [spec_StaleBetween.j0]) h
theorem st_spec_StaleBetween_l0 {r : (List ByteArray × Bool)} {x0 : List (S41)} {x6 : List Int} {x7 : List Int} {x8 : List ByteArray} {x24 : List (S41)} {x25 : Int} {x26 : Int} (h : Ev (fun k => if x26 < x25 then (if 0 ≤ x26 then (if x26 < (x24.length : Int) then ((spec_l21At.f k x0 ((rd_T41 x24 x26).f0)).bind fun t179 => (if t179 < 0 then (if x8.length < 8796093022208 then (spec_StaleBetween.l0 k x0 x6 x7 (x8 ++ [(rd_T41 x24 x26).f0]) x24 x25 (wrap64 (x26 + 1))) else (none)) else (if 0 ≤ t179 then (if t179 < (x6.length : Int) then (if x26 < (x7.length : Int) then (if (rd x6 t179) = (rd x7 x26) then (spec_StaleBetween.l0 k x0 x6 x7 x8 x24 x25 (wrap64 (x26 + 1))) else (if x8.length < 8796093022208 then (spec_StaleBetween.l0 k x0 x6 x7 (x8 ++ [(rd_T41 x24 x26).f0]) x24 x25 (wrap64 (x26 + 1))) else (none))) else (none)) else (none)) else (none)))) else (none)) else (none)) else (some (x8, true))) r) : Ev (fun k => spec_StaleBetween.l0 k x0 x6 x7 x8 x24 x25 x26) r := Ev.step (fun k => by rw [spec_StaleBetween.l0]) h
theorem st_impl_GoodName_l0 {r : (Bool)} {x0 : ByteArray} {x5 : Int} {x6 : Int} (h : Ev (fun k => if x6 < x5 then (if 0 ≤ x6 then (if x6 < (x0.size : Int) then ((impl_isLetter.f (bt x0 x6)).bind fun t220 => (if t220 = true then (impl_GoodName.l0 k x0 x5 (wrap64 (x6 + 1))) else (if (bt x0 x6) = 95 then (impl_GoodName.l0 k x0 x5 (wrap64 (x6 + 1))) else (if x6 = 0 then (some false) else ((impl_isDigit.f (bt x0 x6)).bind fun t221 => (if t221 = true then (impl_GoodName.l0 k x0 x5 (wrap64 (x6 + 1))) else (some false))))))) else (none)) else (none)) else ((impl_inRange.f (x0.size : Int) 1 20).bind fun t219 => (some t219))) r) : Ev (fun k => impl_GoodName.l0 k x0 x5 x6) r := Ev.step (fun k => by rw [impl_GoodName.l0]) h
theorem st_impl_areNames_l0 {r : (Bool)} {x0 : List ByteArray} {x5 : List ByteArray} {x6 : Int} {x7 : Int} (h : Ev (fun k => if x7 < x6 then (if 0 ≤ x7 then (if x7 < (x5.length : Int) then ((impl_GoodName.f k (rdOf ByteArray.empty x5 x7)).bind fun t223 => (if t223 = true then (if x7 > 0 then (if 0 ≤ (wrap64 (x7 - 1)) then (if (wrap64 (x7 - 1)) < (x0.length : Int) then (if ((Op.bytesLess ((rdOf ByteArray.empty x0 (wrap64 (x7 - 1))).toList) ((rdOf ByteArray.empty x5 x7).toList)) = true) then (impl_areNames.l0 k x0 x5 x6 (wrap64 (x7 + 1))) else (some false)) else (none)) else (none)) else (impl_areNames.l0 k x0 x5 x6 (wrap64 (x7 + 1)))) else (some false))) else (none)) else (none)) else (some true)) r) : Ev (fun k => impl_areNames.l0 k x0 x5 x6 x7) r := Ev.step (fun k => by rw [impl_areNames.l0]) h
theorem st_slices_Index_string_string_l0 {r : (Int)} {x0 : List ByteArray} {x1 : ByteArray} {x7 : Int} {x8 : Int} (h : Ev (fun k => if x8 < x7 then (if 0 ≤ x8 then (if x8 < (x0.length : Int) then (if x1.toList = (rdOf ByteArray.empty x0 x8).toList then (some x8) else (slices_Index_string_string.l0 k x0 x1 x7 (wrap64 (x8 + 1)))) else (none)) else (none)) else (some (-1))) r) : Ev (fun k => slices_Index_string_string.l0 k x0 x1 x7 x8) r := Ev.step (fun k => by rw [slices_Index_string_string.l0]) h
theorem st_impl_makeOrder_l0 {r : (List ByteArray)} {x0 : List (S41)} {x246000 : List ByteArray} (h : Ev (fun k => (slices_IndexFunc_w50.f k x0 x246000).bind fun t246 => (if t246 < 0 then (some x246000) else (if 0 ≤ t246 then (if t246 < (x0.length : Int) then (if x246000.length < 8796093022208 then (impl_makeOrder.l0 k x0 (x246000 ++ [(rd_T41 x0 t246).f0])) else (none)) else (none)) else (none)))) r) : Ev (fun k => impl_makeOrder.l0 k x0 x246000) r := Ev.step (fun k => by rw [impl_makeOrder.l0]) h
theorem st_impl_GoodAssets_l0 {r : (Bool)} {x5 : List (S41)} {x6 : Int} {x7 : Int} {x255000 : List (S41)} (h : Ev (fun k => if x7 < x6 then (if 0 ≤ x7 then (if x7 < (x5.length : Int) then ((impl_GoodName.f k ((rd_T41 x5 x7).f0)).bind fun t260 => (if t260 = true then (if x7 > 0 then (if 0 ≤ (wrap64 (x7 - 1)) then (if (wrap64 (x7 - 1)) < (x255000.length : Int) then (if ((Op.bytesLess (((rd_T41 x255000 (wrap64 (x7 - 1))).f0).toList) (((rd_T41 x5 x7).f0).toList)) = true) then ((impl_areNames.f k ((rd_T41 x5 x7).f1)).bind fun t262 => (if t262 = true then (if (((rd_T41 x5 x7).f1).length : Int) > 10 then (impl_GoodAssets.j1 k x5 x6 x7 true x255000 ((rd_T41 x5 x7).f0) ((rd_T41 x5 x7).f1) ((rd_T41 x5 x7).f2)) else (impl_GoodAssets.j1 k x5 x6 x7 (decide ((((rd_T41 x5 x7).f2).length : Int) > 400)) x255000 ((rd_T41 x5 x7).f0) ((rd_T41 x5 x7).f1) ((rd_T41 x5 x7).f2))) else (impl_GoodAssets.j1 k x5 x6 x7 true x255000 ((rd_T41 x5 x7).f0) ((rd_T41 x5 x7).f1) ((rd_T41 x5 x7).f2)))) else (impl_GoodAssets.j1 k x5 x6 x7 true x255000 ((rd_T41 x5 x7).f0) ((rd_T41 x5 x7).f1) ((rd_T41 x5 x7).f2))) else (none)) else (none)) else ((impl_areNames.f k ((rd_T41 x5 x7).f1)).bind fun t263 => (if t263 = true then (if (((rd_T41 x5 x7).f1).length : Int) > 10 then (impl_GoodAssets.j1 k x5 x6 x7 true x255000 ((rd_T41 x5 x7).f0) ((rd_T41 x5 x7).f1) ((rd_T41 x5 x7).f2)) else (impl_GoodAssets.j1 k x5 x6 x7 (decide ((((rd_T41 x5 x7).f2).length : Int) > 400)) x255000 ((rd_T41 x5 x7).f0) ((rd_T41 x5 x7).f1) ((rd_T41 x5 x7).f2))) else (impl_GoodAssets.j1 k x5 x6 x7 true x255000 ((rd_T41 x5 x7).f0) ((rd_T41 x5 x7).f1) ((rd_T41 x5 x7).f2))))) else (impl_GoodAssets.j1 k x5 x6 x7 true x255000 ((rd_T41 x5 x7).f0) ((rd_T41 x5 x7).f1) ((rd_T41 x5 x7).f2)))) else (none)) else (none)) else (if (x255000.length : Int) ≤ 30 then ((impl_makeOrder.f k x255000).bind fun t255 => (some ((t255.length : Int) == (x255000.length : Int)))) else (some false))) r) : Ev (fun k => impl_GoodAssets.l0 k x5 x6 x7 x255000) r := Ev.step (fun k => by rw [impl_GoodAssets.l0]) h
theorem st_impl_GoodAssets_j1 {r : (Bool)} {x5 : List (S41)} {x6 : Int} {x7 : Int} {x48 : Bool} {x255000 : List (S41)} {x260000 : ByteArray} {x260001 : List ByteArray} {x260002 : List Int} (h : Ev (fun k => if x48 = true then (some false) else ((slices_ContainsFunc_w34.f k x260001 x255000).bind fun t264 => (if t264 = true then (some false) else (impl_GoodAssets.l0 k x5 x6 (wrap64 (x7 + 1)) x255000)))) r) : Ev (fun k => impl_GoodAssets.j1 k x5 x6 x7 x48 x255000 x260000 x260001 x260002) r := Ev.step (fun k => by rw [impl_GoodAssets.j1]) h
theorem inr_some (a b c : Int) : impl_inRange.f a b c = some (decide (b ≤ a ∧ a ≤ c)) := by
 unfold impl_inRange.f
 split <;> simp_all <;> omega
def nameChar (c : Int) : Bool := decide (97 ≤ c ∧ c ≤ 122) || decide (65 ≤ c ∧ c ≤ 90) || decide (c = 95)
def digitChar (c : Int) : Bool := decide (48 ≤ c ∧ c ≤ 57)
def CharOk (s : ByteArray) (i : Nat) : Prop := nameChar (bt s (i : Int)) = true ∨ 0 < i ∧ digitChar (bt s (i : Int)) = true
def NameOk (s : ByteArray) : Prop := (1 ≤ s.size ∧ s.size ≤ 20) ∧ ∀ i, i < s.size → CharOk s i
theorem letter_spec (c : Int) : spec_l1Letter.f c = some (nameChar c) := by
 unfold spec_l1Letter.f nameChar
 repeat' split
 all_goals (congr 1; rw [Bool.eq_iff_iff]; simp; try omega)
theorem digit_spec (c : Int) : spec_l1Digit.f c = some (digitChar c) := by
 unfold spec_l1Digit.f digitChar
 repeat' split
 all_goals (congr 1; rw [Bool.eq_iff_iff]; simp; try omega)
theorem digit_impl (c : Int) : impl_isDigit.f c = some (digitChar c) := by
 unfold impl_isDigit.f digitChar
 repeat' split
 all_goals (congr 1; rw [Bool.eq_iff_iff]; simp; try omega)
theorem letter_impl (c : Int) : ∃ b, impl_isLetter.f c = some b ∧ (nameChar c = true ↔ b = true ∨ c = 95) := by
 unfold impl_isLetter.f nameChar
 repeat' split
 all_goals (refine ⟨_, rfl, ?_⟩; simp; try omega)
theorem name_impl (s : ByteArray) (hs : s.size ≤ 140737488351232) (b : Bool) (hb : b = true ↔ NameOk s) : Ev (fun k => impl_GoodName.f k s) b := by
 refine ev_all s.size (fun k i => impl_GoodName.l0 k s (s.size : Int) (i : Int)) (CharOk s) (decide (1 ≤ (s.size : Int) ∧ (s.size : Int) ≤ 20)) b ?_ ?_ ?_ ?_
 ·rw [hb]; unfold NameOk; simp; omega
 ·exact st_impl_GoodName_l0 (ev_neg (by omega) (ev_bindc (inr_some _ _ _) (ev_some rfl)))
 ·intro i hi _ ho r hr
  refine st_impl_GoodName_l0 (ev_pos (by omega) (ev_pos (by omega) (ev_pos (by omega) ?_)))
  obtain ⟨q, hq, hn⟩ := letter_impl (bt s (i : Int))
  rw [w64s i (by omega)]
  refine ev_bindc hq (ev_ite (fun _ => hr) fun h1 => ev_ite (fun _ => hr) fun h2 => ?_)
  rcases ho with ho | ⟨ho, hd⟩
  ·rcases hn.1 ho with h | h
   ·exact absurd h h1
   ·exact absurd h h2
  ·exact ev_neg (by omega) (ev_bindc (digit_impl _) (ev_pos hd hr))
 ·intro i hi _ ho
  refine st_impl_GoodName_l0 (ev_pos (by omega) (ev_pos (by omega) (ev_pos (by omega) ?_)))
  obtain ⟨q, hq, hn⟩ := letter_impl (bt s (i : Int))
  refine ev_bindc hq (ev_ite (fun h => absurd (.inl (hn.2 (.inl h))) ho) fun h1 => ev_ite (fun h => absurd (.inl (hn.2 (.inr h))) ho) fun h2 => ev_ite (fun _ => ev_some rfl) fun h3 => ?_)
  exact ev_bindc (digit_impl _) (ev_neg (fun h => ho (.inr ⟨by omega, h⟩)) (ev_some rfl))
theorem name_spec (s : ByteArray) (b : Bool) (hb : b = true ↔ NameOk s) : Ev (fun k => spec_GoodName.f k s) b := by
 have j0t : Ev (fun k => spec_GoodName.j0 k s true) false := st_spec_GoodName_j0 (ev_pos rfl (ev_some rfl))
 by_cases h1 : (s.size : Int) < 1
 ·rw [bool_false hb (fun h => by have := h.1; omega)]
  exact ev_pos h1 j0t
 ·by_cases h2 : (s.size : Int) > 20
  ·rw [bool_false hb (fun h => by have := h.1; omega)]
   exact ev_neg h1 (ev_pos h2 j0t)
  ·refine ev_neg h1 (ev_neg h2 (ev_pos (by omega) (ev_bindc (digit_spec _) ?_)))
   cases hd : digitChar (bt s 0) with
   | true =>
    rw [bool_false hb (fun h => by
     have h0 : CharOk s 0 := h.2 0 (by omega)
     rcases h0 with h0 | h0
     ·have h0 : nameChar (bt s 0) = true := h0
      generalize bt s 0 = c at hd h0
      simp [nameChar, digitChar] at hd h0; omega
     ·omega)]
    exact j0t
   | false =>
    refine st_spec_GoodName_j0 (ev_neg (by decide) ?_)
    refine ev_all s.size (fun k i => spec_GoodName.l0 k s (i : Int)) (CharOk s) true b ?_ ?_ ?_ ?_
    ·rw [hb]; unfold NameOk; constructor
     ·exact fun h => ⟨rfl, h.2⟩
     ·exact fun h => ⟨by omega, h.2⟩
    ·exact st_spec_GoodName_l0 (ev_neg (by omega) (ev_some rfl))
    ·intro i hi _ ho r hr
     refine st_spec_GoodName_l0 (ev_pos (by omega) (ev_pos (by omega) (ev_bindc (letter_spec _) (ev_ite (fun _ => by rw [w64s i (by omega)]; exact hr) fun hl => ev_bindc (digit_spec _) ?_))))
     rcases ho with ho | ⟨_, ho⟩
     ·exact absurd ho hl
     ·refine ev_pos ho ?_
      rw [w64s i (by omega)]; exact hr
    ·intro i hi _ ho
     refine st_spec_GoodName_l0 (ev_pos (by omega) (ev_pos (by omega) (ev_bindc (letter_spec _) (ev_neg (fun h => ho (.inl h)) (ev_bindc (digit_spec _) (ev_neg (fun h => ho ?_) (ev_some rfl)))))))
     rcases Nat.eq_zero_or_pos i with rfl | hp
     ·have h' : digitChar (bt s 0) = true := h
      rw [hd] at h'; cases h'
     ·exact .inr ⟨hp, h⟩
theorem szStringS_some (xs : List ByteArray) (g : xs.length * 16 ≤ 140737488351232 ∧ ∀ y ∈ xs, y.size ≤ 140737488351232) (left : Int) (h0 : 0 ≤ left) (h1 : left ≤ 1048576) : ∃ r, Ev (fun k => laws_szStringS.f k xs left) r ∧ (r < 0 ∨ 0 ≤ r ∧ r ≤ left ∧ (xs.length ≤ 1048576 ∧ ∀ y ∈ xs, y.size ≤ 1048576)) := by
 have g1 := g.1
 unfold laws_szStringS.f
 rw [w64 (n := left - (xs.length : Int)) (by omega) (by omega)]
 refine exev_ite (fun _ => exev_some (.inl (by omega))) fun hc => ?_
 have he : ∀ i : Nat, ∀ hi : i < xs.length, ∀ c : Int, 0 ≤ c → c ≤ left - (xs.length : Int) → ∃ r, Ev (fun k => some (wrap64 (c - ((rdOf ByteArray.empty xs (i : Int)).size : Int)))) r ∧ (r < 0 ∨ 0 ≤ r ∧ r ≤ c ∧ xs[i].size ≤ 1048576) := by
  intro i hi c h0 h1
  have e : rdOf ByteArray.empty xs (i : Int) = xs[i] := rdOf_get hi
  have gx := g.2 _ (List.getElem_mem hi)
  have ew : wrap64 (c - (xs[i].size : Int)) = c - (xs[i].size : Int) := w64 (by omega) (by omega)
  rw [e, ew]
  exact ⟨_, ev_some rfl, by by_cases hn : c - (xs[i].size : Int) < 0; exact .inl hn; exact .inr ⟨by omega, by omega, by omega⟩⟩
 obtain ⟨r, hr, hq⟩ := ev_size laws_szStringS.l0 (fun _ xs c i => some (wrap64 (c - ((rdOf ByteArray.empty xs i).size : Int)))) (fun y => y.size ≤ 1048576) (fun _ _ _ _ => rfl) xs (by omega) (left - (xs.length : Int)) (by omega) he
 refine ⟨r, hr, ?_⟩
 rcases hq with hq | ⟨q0, q1, q2⟩
 ·exact .inl hq
 ·exact .inr ⟨q0, by omega, by omega, q2⟩
theorem szByteS_some (xs : List Int) (g : xs.length * 1 ≤ 140737488351232 ∧ ∀ y ∈ xs, InU8 y) (left : Int) (h0 : 0 ≤ left) (h1 : left ≤ 1048576) : ∃ r, Ev (fun _ => laws_szByteS.f xs left) r ∧ (r < 0 ∨ 0 ≤ r ∧ r ≤ left ∧ xs.length ≤ 1048576) := by
 have g1 := g.1
 unfold laws_szByteS.f
 rw [w64 (n := left - (xs.length : Int)) (by omega) (by omega)]
 refine exev_ite (fun _ => exev_some (.inl (by omega))) fun hc => ?_
 exact exev_some (.inr ⟨by omega, by omega, by omega⟩)
def Fit37 (x : S37) : Prop := (x.f0.size ≤ 1048576) ∧ ((x.f1.length ≤ 1048576 ∧ ∀ y ∈ x.f1, y.size ≤ 1048576)) ∧ (x.f2.length ≤ 1048576)
theorem szAsset_some (a0 : ByteArray) (l1 : List ByteArray) (l2 : List Int) (ga0 : a0.size ≤ 140737488351232) (gl1 : l1.length * 16 ≤ 140737488351232 ∧ ∀ y ∈ l1, y.size ≤ 140737488351232) (gl2 : l2.length * 1 ≤ 140737488351232 ∧ ∀ y ∈ l2, InU8 y) (left : Int) (h0 : 0 ≤ left) (h1 : left ≤ 1048576) : ∃ r, Ev (fun k => laws_szAsset.f k a0 l1 l2 left) r ∧ (r < 0 ∨ 0 ≤ r ∧ r ≤ left ∧ (a0.size ≤ 1048576) ∧ ((l1.length ≤ 1048576 ∧ ∀ y ∈ l1, y.size ≤ 1048576)) ∧ (l2.length ≤ 1048576)) := by
 unfold laws_szAsset.f
 have e0 : wrap64 (left - (a0.size : Int)) = left - (a0.size : Int) := w64 (by omega) (by omega)
 rw [e0]
 refine exev_ite (fun _ => exev_some (.inl (by omega))) fun c0 => ?_
 obtain ⟨r1, hr1, hq1⟩ := szStringS_some l1 gl1 ((left - (a0.size : Int))) (by omega) (by omega)
 refine exev_bind hr1 (exev_ite (fun _ => exev_some (.inl (by omega))) fun c1 => ?_)
 rcases hq1 with hq1 | ⟨u1, v1, w1⟩
 ·omega
 obtain ⟨r2, hr2, hq2⟩ := szByteS_some l2 gl2 (r1) (by omega) (by omega)
 refine exev_bind hr2 (exev_ite (fun _ => exev_some (.inl (by omega))) fun c2 => ?_)
 rcases hq2 with hq2 | ⟨u2, v2, w2⟩
 ·omega
 exact exev_some (.inr ⟨by omega, by omega, (by omega), w1, w2⟩)
theorem szAssetS_some (xs : List S37) (g : xs.length * 64 ≤ 140737488351232 ∧ ∀ y ∈ xs, Ok37 y) (left : Int) (h0 : 0 ≤ left) (h1 : left ≤ 1048576) : ∃ r, Ev (fun k => laws_szAssetS.f k xs left) r ∧ (r < 0 ∨ 0 ≤ r ∧ r ≤ left ∧ (xs.length ≤ 1048576 ∧ ∀ y ∈ xs, Fit37 y)) := by
 have g1 := g.1
 unfold laws_szAssetS.f
 rw [w64 (n := left - (xs.length : Int)) (by omega) (by omega)]
 refine exev_ite (fun _ => exev_some (.inl (by omega))) fun hc => ?_
 have he : ∀ i : Nat, ∀ hi : i < xs.length, ∀ c : Int, 0 ≤ c → c ≤ left - (xs.length : Int) → ∃ r, Ev (fun k => laws_szAsset.f k ((rd_T37 xs (i : Int)).f0) ((rd_T37 xs (i : Int)).f1) ((rd_T37 xs (i : Int)).f2) c) r ∧ (r < 0 ∨ 0 ≤ r ∧ r ≤ c ∧ Fit37 xs[i]) := by
  intro i hi c h0 h1
  have e : rd_T37 xs (i : Int) = xs[i] := getD_get hi
  rw [e]
  have gx := g.2 _ (List.getElem_mem hi)
  obtain ⟨r, hr, hq⟩ := szAsset_some _ _ _ (gx.1) (gx.2.1) (gx.2.2) c h0 (by omega)
  exact ⟨r, hr, hq⟩
 obtain ⟨r, hr, hq⟩ := ev_size laws_szAssetS.l0 (fun k xs c i => laws_szAsset.f k ((rd_T37 xs i).f0) ((rd_T37 xs i).f1) ((rd_T37 xs i).f2) c) (fun y => Fit37 y) (fun _ _ _ _ => rfl) xs (by omega) (left - (xs.length : Int)) (by omega) he
 refine ⟨r, hr, ?_⟩
 rcases hq with hq | ⟨q0, q1, q2⟩
 ·exact .inl hq
 ·exact .inr ⟨q0, by omega, by omega, q2⟩
theorem toStringS_ev (xs : List ByteArray) (h : (xs.length ≤ 1048576 ∧ ∀ y ∈ xs, y.size ≤ 1048576)) : Ev (fun k => laws_toStringS.f k xs) xs := by
 refine ev_pos (by omega) (ev_pos (by omega) ?_)
 have := ev_copy laws_toStringS.l0 (fun _ xs i => some (rdOf ByteArray.empty xs i)) id (fun _ _ _ _ => rfl) xs (by omega) (fun i hi => ev_some (rdOf_get hi)) (List.replicate (((xs.length : Int) : Int).toNat) (⟨#[]⟩ : ByteArray)) (by simp)
 rwa [List.map_id] at this
theorem toByteS_ev (xs : List Int) (h : xs.length ≤ 1048576) : Ev (fun k => laws_toByteS.f k xs) xs := by
 refine ev_pos (by omega) (ev_pos (by omega) ?_)
 have := ev_copy laws_toByteS.l0 (fun _ xs i => some (rd xs i)) id (fun _ _ _ _ => rfl) xs (by omega) (fun i hi => ev_some (rd_get hi)) (List.replicate (((xs.length : Int) : Int).toNat) 0) (by simp)
 rwa [List.map_id] at this
def cv37 (x : S37) : S41 := ⟨x.f0, x.f1, x.f2⟩
def Fit41 (x : S41) : Prop := (x.f0.size ≤ 1048576) ∧ ((x.f1.length ≤ 1048576 ∧ ∀ y ∈ x.f1, y.size ≤ 1048576)) ∧ (x.f2.length ≤ 1048576)
theorem fit_cv37 {x : S37} (h : Fit37 x) : Fit41 (cv37 x) := by
 obtain ⟨h0, h1, h2⟩ := h
 exact ⟨h0, h1, h2⟩
theorem toAsset_ev (a0 : ByteArray) (l1 : List ByteArray) (l2 : List Int) (ha0 : a0.size ≤ 1048576) (hl1 : (l1.length ≤ 1048576 ∧ ∀ y ∈ l1, y.size ≤ 1048576)) (hl2 : l2.length ≤ 1048576) : Ev (fun k => laws_toAsset.f k a0 l1 l2) (a0, l1, l2) := by
 unfold laws_toAsset.f
 repeat (first | exact ev_some rfl | refine Ev.bind (toStringS_ev _ hl1) ?_ | refine Ev.bind (toByteS_ev _ hl2) ?_ | refine ev_bindc rfl ?_)
theorem toAssetS_ev (xs : List S37) (h : (xs.length ≤ 1048576 ∧ ∀ y ∈ xs, Fit37 y)) : Ev (fun k => laws_toAssetS.f k xs) (xs.map cv37) := by
 refine ev_pos (by omega) (ev_pos (by have := h.1; omega) ?_)
 refine ev_copy2 laws_toAssetS.l0 (fun k xs i => laws_toAsset.f k ((rd_T37 xs i).f0) ((rd_T37 xs i).f1) ((rd_T37 xs i).f2)) (fun t => (⟨t.1, t.2.1, t.2.2⟩ : S41)) cv37 (fun _ _ _ _ => rfl) xs (by have := h.1; omega) (fun i hi => ?_) _ (by simp)
 ·have e : rd_T37 xs (i : Int) = xs[i] := getD_get hi
  rw [e]
  obtain ⟨hf0, hf1, hf2⟩ := h.2 _ (List.getElem_mem hi)
  exact ⟨_, toAsset_ev _ _ _ hf0 hf1 hf2, rfl⟩
theorem eqStringS_ev (xs : List ByteArray) (h : (xs.length ≤ 1048576 ∧ ∀ y ∈ xs, y.size ≤ 1048576)) : Ev (fun k => laws_eqStringS.f k xs xs) true := by
 refine ev_pos rfl ?_
 refine ev_for1 xs.length (fun k i (_ : Unit) => laws_eqStringS.l0 k xs xs (i : Int)) (fun _ _ => True) true ?_ ?_ 0 () (Nat.zero_le _) trivial
 ·intro _ _
  exact Ev.step (fun _ => rfl) (ev_neg (by omega) (ev_some rfl))
 ·intro i _ hi _
  refine .inr ⟨(), trivial, fun r hr => Ev.step (fun _ => rfl) (ev_pos (by omega) (ev_pos (by omega) (ev_pos (by omega) ?_)))⟩
  rw [w64s i (by have := h.1; omega)]
  exact ev_pos rfl hr
theorem eqByteS_ev (xs : List Int) (h : xs.length ≤ 1048576) : Ev (fun k => laws_eqByteS.f k xs xs) true := by
 refine ev_pos rfl ?_
 refine ev_for1 xs.length (fun k i (_ : Unit) => laws_eqByteS.l0 k xs xs (i : Int)) (fun _ _ => True) true ?_ ?_ 0 () (Nat.zero_le _) trivial
 ·intro _ _
  exact Ev.step (fun _ => rfl) (ev_neg (by omega) (ev_some rfl))
 ·intro i _ hi _
  refine .inr ⟨(), trivial, fun r hr => Ev.step (fun _ => rfl) (ev_pos (by omega) (ev_pos (by omega) (ev_pos (by omega) ?_)))⟩
  rw [w64s i (by have := h; omega)]
  exact ev_pos rfl hr
theorem eqAsset_ev (a0 : ByteArray) (l1 : List ByteArray) (l2 : List Int) (ha0 : a0.size ≤ 1048576) (hl1 : (l1.length ≤ 1048576 ∧ ∀ y ∈ l1, y.size ≤ 1048576)) (hl2 : l2.length ≤ 1048576) : Ev (fun k => laws_eqAsset.f k a0 l1 l2 a0 l1 l2) true := by
 unfold laws_eqAsset.f
 repeat (first | exact ev_some rfl | refine Ev.bind (eqStringS_ev l1 hl1) ?_ | refine Ev.bind (eqByteS_ev l2 hl2) ?_ | refine ev_pos rfl ?_ | refine ev_neg (by simp) ?_)
theorem eqAssetS_ev (xs : List S41) (h : (xs.length ≤ 1048576 ∧ ∀ y ∈ xs, Fit41 y)) : Ev (fun k => laws_eqAssetS.f k xs xs) true := by
 refine ev_pos rfl (ev_alike_self laws_eqAssetS.l0 (fun k xs ys i => laws_eqAsset.f k ((rd_T41 xs i).f0) ((rd_T41 xs i).f1) ((rd_T41 xs i).f2) ((rd_T41 ys i).f0) ((rd_T41 ys i).f1) ((rd_T41 ys i).f2)) (fun _ _ _ _ => rfl) xs (by have := h.1; omega) (fun i hi => ?_))
 ·have e : rd_T41 xs (i : Int) = xs[i] := getD_get hi
  rw [e]
  obtain ⟨hf0, hf1, hf2⟩ := h.2 _ (List.getElem_mem hi)
  exact eqAsset_ev _ _ _ hf0 hf1 hf2
def MarkByteS (x : Int) (c d : Int) : Prop := x = (c) % 256 ∧ d = c + 1
theorem markByteS_ev (xs : List Int) (hl : xs.length ≤ 1048576) (c : Int) (hc0 : 0 ≤ c) (hc1 : c ≤ 1152921504606846976) :
  ∃ ys d, Chain MarkByteS ys c d ∧ c ≤ d ∧ d ≤ c + 1 * xs.length ∧ ys.length = xs.length ∧ Ev (fun k => laws_markByteS.f k xs c) (d, ys) := by
 refine ev_mark (fun k zs c i => laws_markByteS.l0 k zs c (i : Int)) MarkByteS (fun _ => True) 1 (by omega) (by omega) ?_ ?_ xs (fun _ _ => trivial) hl c hc0 hc1
 ·intro zs c
  exact Ev.step (fun _ => rfl) (ev_neg (by omega) (ev_some rfl))
 ·intro zs c i hi h20 _ h0 h1
  refine ⟨_, _, ⟨rfl, rfl⟩, by omega, by omega, fun r hr => Ev.step (fun _ => rfl) (ev_pos (by omega) (ev_pos (by omega) ?_))⟩
  simp only [Int.toNat_natCast, w64s i (by omega), w64 (n := c + 1) (by omega) (by omega)]
  exact hr
def NamesOk (l : List ByteArray) : Prop := ∀ i, i < l.length → NameOk (rdOf ByteArray.empty l (i : Int)) ∧ (0 < i → Op.bytesLess (rdOf ByteArray.empty l ((i : Int) - 1)).toList (rdOf ByteArray.empty l (i : Int)).toList = true)
theorem names_spec (l : List ByteArray) (hl : l.length ≤ 1048576) (b : Bool) (hb : b = true ↔ l.length ≤ 10 ∧ NamesOk l) : Ev (fun k => spec_l3Names.f k l 10) b := by
 refine ev_ite (fun h => ev_some (bool_false hb (fun h' => by have := h'.1; omega)).symm) fun h => ?_
 refine ev_all l.length (fun k i => spec_l3Names.l0 k l l (l.length : Int) (i : Int)) (fun i => NameOk (rdOf ByteArray.empty l (i : Int)) ∧ (0 < i → Op.bytesLess (rdOf ByteArray.empty l ((i : Int) - 1)).toList (rdOf ByteArray.empty l (i : Int)).toList = true)) true b ?_ ?_ ?_ ?_
 ·rw [hb]; unfold NamesOk; constructor
  ·exact fun h => ⟨rfl, h.2⟩
  ·exact fun h' => ⟨by omega, h'.2⟩
 ·exact st_spec_l3Names_l0 (ev_neg (by omega) (ev_some rfl))
 ·intro i hi _ ⟨h0, h1⟩ r hr
  refine st_spec_l3Names_l0 (ev_pos (by omega) (ev_pos (by omega) (ev_pos (by omega) (Ev.bind (name_spec _ true ⟨fun _ => h0, fun _ => rfl⟩) (ev_pos rfl ?_)))))
  rw [w64s i (by omega), w64 (n := (i : Int) - 1) (by omega) (by omega)]
  exact ev_ite (fun hp => ev_pos (by omega) (ev_pos (by omega) (ev_pos (h1 (by omega)) hr))) fun _ => hr
 ·intro i hi _ ho
  obtain ⟨c, hc⟩ := bool_of (NameOk (rdOf ByteArray.empty l (i : Int)))
  refine st_spec_l3Names_l0 (ev_pos (by omega) (ev_pos (by omega) (ev_pos (by omega) (Ev.bind (name_spec _ c hc) (ev_ite (fun h0 => ?_) fun _ => ev_some rfl)))))
  rw [w64 (n := (i : Int) - 1) (by omega) (by omega)]
  exact ev_ite (fun hp => ev_pos (by omega) (ev_pos (by omega) (ev_ite (fun h2 => absurd ⟨hc.1 h0, fun _ => h2⟩ ho) fun _ => ev_some rfl))) fun hp => absurd ⟨hc.1 h0, fun h => by omega⟩ ho
theorem names_impl (l : List ByteArray) (hx : l.length ≤ 1048576 ∧ ∀ y ∈ l, y.size ≤ 1048576) (b : Bool) (hb : b = true ↔ NamesOk l) : Ev (fun k => impl_areNames.f k l) b := by
 have hl := hx.1
 have hn : ∀ i : Nat, i < l.length → (rdOf ByteArray.empty l (i : Int)).size ≤ 140737488351232 := by
  intro i hi
  rw [rdOf_get hi]
  have := hx.2 _ (List.getElem_mem hi)
  omega
 refine ev_all l.length (fun k i => impl_areNames.l0 k l l (l.length : Int) (i : Int)) (fun i => NameOk (rdOf ByteArray.empty l (i : Int)) ∧ (0 < i → Op.bytesLess (rdOf ByteArray.empty l ((i : Int) - 1)).toList (rdOf ByteArray.empty l (i : Int)).toList = true)) true b ?_ ?_ ?_ ?_
 ·rw [hb]; unfold NamesOk; constructor
  ·exact fun h => ⟨rfl, h⟩
  ·exact fun h' => h'.2
 ·exact st_impl_areNames_l0 (ev_neg (by omega) (ev_some rfl))
 ·intro i hi _ ⟨h0, h1⟩ r hr
  refine st_impl_areNames_l0 (ev_pos (by omega) (ev_pos (by omega) (ev_pos (by omega) (Ev.bind (name_impl _ (hn i hi) true ⟨fun _ => h0, fun _ => rfl⟩) (ev_pos rfl ?_)))))
  rw [w64s i (by omega), w64 (n := (i : Int) - 1) (by omega) (by omega)]
  exact ev_ite (fun hp => ev_pos (by omega) (ev_pos (by omega) (ev_pos (h1 (by omega)) hr))) fun _ => hr
 ·intro i hi _ ho
  obtain ⟨c, hc⟩ := bool_of (NameOk (rdOf ByteArray.empty l (i : Int)))
  refine st_impl_areNames_l0 (ev_pos (by omega) (ev_pos (by omega) (ev_pos (by omega) (Ev.bind (name_impl _ (hn i hi) c hc) (ev_ite (fun h0 => ?_) fun _ => ev_some rfl)))))
  rw [w64 (n := (i : Int) - 1) (by omega) (by omega)]
  exact ev_ite (fun hp => ev_pos (by omega) (ev_pos (by omega) (ev_ite (fun h2 => absurd ⟨hc.1 h0, fun _ => h2⟩ ho) fun _ => ev_some rfl))) fun hp => absurd ⟨hc.1 h0, fun h => by omega⟩ ho
def hasB (l : List ByteArray) (s : ByteArray) : Bool := l.any fun y => y.toList == s.toList
theorem hasB_iff (l : List ByteArray) (s : ByteArray) : hasB l s = true ↔ ∃ j, j < l.length ∧ (rdOf ByteArray.empty l (j : Int)).toList = s.toList := by
 unfold hasB
 rw [List.any_eq_true]
 constructor
 ·rintro ⟨y, hy, h⟩
  obtain ⟨j, hj, rfl⟩ := List.getElem_of_mem hy
  exact ⟨j, hj, by rw [rdOf_get hj]; simpa using h⟩
 ·rintro ⟨j, hj, h⟩
  exact ⟨_, List.getElem_mem hj, by rw [rdOf_get hj] at h; simpa using h⟩
theorem hasB_snoc (l : List ByteArray) (x s : ByteArray) : hasB (l ++ [x]) s = (hasB l s || x.toList == s.toList) := by
 simp [hasB, List.any_append]
theorem has_spec (l : List ByteArray) (hl : l.length ≤ 1048576) (s : ByteArray) : Ev (fun k => spec_l1Has.f k l s) (hasB l s) := by
 refine ev_for1 l.length (fun k i (_ : Unit) => spec_l1Has.l0 k s l (l.length : Int) (i : Int)) (fun i _ => ∀ j, j < i → (rdOf ByteArray.empty l (j : Int)).toList ≠ s.toList) _ ?_ ?_ 0 () (Nat.zero_le _) (fun j hj => by omega)
 ·intro _ h
  refine st_spec_l1Has_l0 (ev_neg (by omega) (ev_some ?_))
  rw [eq_comm, ← Bool.not_eq_true, hasB_iff]
  rintro ⟨j, hj, e⟩
  exact h j hj e
 ·intro i _ hi h
  by_cases e : (rdOf ByteArray.empty l (i : Int)).toList = s.toList
  ·refine .inl (st_spec_l1Has_l0 (ev_pos (by omega) (ev_pos (by omega) (ev_pos (by omega) (ev_pos e (ev_some ?_))))))
   rw [eq_comm, hasB_iff]
   exact ⟨i, hi, e⟩
  ·refine .inr ⟨(), fun j hj => ?_, fun r hr => st_spec_l1Has_l0 (ev_pos (by omega) (ev_pos (by omega) (ev_pos (by omega) (ev_neg e ?_))))⟩
   ·rcases Nat.lt_or_ge j i with h1 | h1
    ·exact h j h1
    ·obtain rfl : j = i := by omega
     exact e
   ·rw [w64s i (by omega)]; exact hr
theorem has_impl (l : List ByteArray) (hl : l.length ≤ 1048576) (s : ByteArray) : Ev (fun k => slices_Contains_string_string.f k l s) (hasB l s) := by
 have key : ∃ r, Ev (fun k => slices_Index_string_string.f k l s) r ∧ (0 ≤ r ↔ hasB l s = true) := by
  refine ev_for l.length (fun k i (_ : Unit) => slices_Index_string_string.l0 k l s (l.length : Int) (i : Int)) (fun i _ => ∀ j, j < i → (rdOf ByteArray.empty l (j : Int)).toList ≠ s.toList) _ ?_ ?_ 0 () (Nat.zero_le _) (fun j hj => by omega)
  ·intro _ h
   refine ⟨-1, st_slices_Index_string_string_l0 (ev_neg (by omega) (ev_some rfl)), ?_⟩
   rw [hasB_iff]
   exact ⟨fun h => by omega, fun ⟨j, hj, e⟩ => absurd e (h j hj)⟩
  ·intro i _ hi h
   by_cases e : s.toList = (rdOf ByteArray.empty l (i : Int)).toList
   ·refine .inl ⟨(i : Int), st_slices_Index_string_string_l0 (ev_pos (by omega) (ev_pos (by omega) (ev_pos (by omega) (ev_pos e (ev_some rfl))))), ?_⟩
    rw [hasB_iff]
    exact ⟨fun _ => ⟨i, hi, e.symm⟩, fun _ => by omega⟩
   ·refine .inr ⟨(), fun j hj => ?_, fun r hr => st_slices_Index_string_string_l0 (ev_pos (by omega) (ev_pos (by omega) (ev_pos (by omega) (ev_neg e ?_))))⟩
    ·rcases Nat.lt_or_ge j i with h1 | h1
     ·exact h j h1
     ·obtain rfl : j = i := by omega
      exact fun h => e h.symm
    ·rw [w64s i (by omega)]; exact hr
 obtain ⟨r, hr, h⟩ := key
 refine Ev.bind hr (ev_some ?_)
 rw [Bool.eq_iff_iff, decide_eq_true_eq]
 exact h
def Ready (out : List ByteArray) (a : S41) : Prop := ¬ hasB out a.f0 = true ∧ ∀ j, j < a.f1.length → hasB out (rdOf ByteArray.empty a.f1 (j : Int)) = true
def NeedsFit (l : List S41) : Prop := ∀ i : Nat, i < l.length → (rd_T41 l (i : Int)).f1.length ≤ 1048576
def cnt (l : List S41) (out : List ByteArray) : Nat → Nat
 | 0 => 0
 | i + 1 => cnt l out i + (if hasB out (rd_T41 l (i : Int)).f0 = true then 0 else 1)
theorem cnt_le (l : List S41) (out : List ByteArray) : ∀ n, cnt l out n ≤ n
 | 0 => Nat.le_refl _
 | n + 1 => by
  have := cnt_le l out n
  unfold cnt
  split <;> omega
theorem cnt_mono (l : List S41) (out out' : List ByteArray) (h : ∀ s, hasB out s = true → hasB out' s = true) : ∀ n, cnt l out' n ≤ cnt l out n
 | 0 => Nat.le_refl _
 | n + 1 => by
  have := cnt_mono l out out' h n
  unfold cnt
  by_cases h1 : hasB out (rd_T41 l (n : Int)).f0 = true
  ·rw [if_pos h1, if_pos (h _ h1)]; omega
  ·rw [if_neg h1]; split <;> omega
theorem cnt_lt (l : List S41) (out out' : List ByteArray) (h : ∀ s, hasB out s = true → hasB out' s = true) (i : Nat) (h0 : ¬ hasB out (rd_T41 l (i : Int)).f0 = true) (h1 : hasB out' (rd_T41 l (i : Int)).f0 = true) : ∀ n, i < n → cnt l out' n < cnt l out n
 | 0, hi => by omega
 | n + 1, hi => by
  unfold cnt
  by_cases e : i = n
  ·subst e
   have := cnt_mono l out out' h i
   rw [if_neg h0, if_pos h1]; omega
  ·have := cnt_lt l out out' h i h0 h1 n (by omega)
   by_cases h2 : hasB out (rd_T41 l (n : Int)).f0 = true
   ·rw [if_pos h2, if_pos (h _ h2)]; omega
   ·rw [if_neg h2]; split <;> omega
theorem ready_impl (out : List ByteArray) (ho : out.length ≤ 1048576) (a : S41) (ha : a.f1.length ≤ 1048576) (b : Bool) (hb : b = true ↔ Ready out a) : Ev (fun k => impl_makeOrder_1.f k a.f0 a.f1 a.f2 out) b := by
 unfold impl_makeOrder_1.f
 refine Ev.bind (has_impl out ho a.f0) (ev_ite (fun h0 => ev_some (bool_false hb (fun h => h.1 h0)).symm) fun h0 => ?_)
 refine Ev.bind (ev_contains (fun k xs n i => slices_IndexFunc_w52.l0 k xs n i out) (fun k xs i => impl_makeOrder_1_1.f k (rdOf ByteArray.empty xs i) out) (fun _ _ _ _ => rfl) a.f1 (by omega) (fun j => !hasB out (rdOf ByteArray.empty a.f1 (j : Int))) (fun j _ => Ev.bind (has_impl out ho _) (ev_some rfl)) (!b) ?_) (ev_some (by simp))
 cases b with
 | true =>
  have hr := hb.1 rfl
  simp only [Bool.not_true, Bool.not_eq_true', false_iff, not_exists, not_and, Bool.false_eq_true]
  intro j hj
  rw [hr.2 j hj]; decide
 | false =>
  simp only [Bool.not_false, true_iff]
  rcases Classical.em (∃ j, j < a.f1.length ∧ (!hasB out (rdOf ByteArray.empty a.f1 (j : Int))) = true) with h | h
  ·exact h
  ·refine absurd (hb.2 ⟨h0, fun j hj => ?_⟩) (by decide)
   cases e : hasB out (rdOf ByteArray.empty a.f1 (j : Int)) with
   | true => rfl
   | false => exact absurd ⟨j, hj, by rw [e]; rfl⟩ h
theorem inner_spec (l : List S41) (out : List ByteArray) (ho : out.length ≤ 1048576) (i : Nat) (hi : i < 1048576) (a : S41) (ha : a.f1.length ≤ 1048576) (r : List ByteArray)
  (hyes : Ready out a → Ev (fun k => spec_l21Order.l0 k l (out ++ [a.f0])) r) (hno : ¬ Ready out a → Ev (fun k => spec_l21Order.l1 k l out false l (l.length : Int) ((i + 1 : Nat) : Int)) r) :
  Ev (fun k => spec_l21Order.l2 k l out false (!hasB out a.f0) l (l.length : Int) (i : Int) a.f1 (a.f1.length : Int) 0 a.f0 a.f1 a.f2) r := by
 refine ev_for1 a.f1.length (fun k j (x : Bool) => spec_l21Order.l2 k l out false x l (l.length : Int) (i : Int) a.f1 (a.f1.length : Int) (j : Int) a.f0 a.f1 a.f2) (fun j x => x = true ↔ ¬ hasB out a.f0 = true ∧ ∀ q, q < j → hasB out (rdOf ByteArray.empty a.f1 (q : Int)) = true) r ?_ ?_ 0 _ (Nat.zero_le _) ?_
 ·intro x hx
  refine st_spec_l21Order_l2 (ev_neg (by omega) (ev_ite (fun h => ev_pos (by omega) (hyes (hx.1 h))) fun h => ?_))
  rw [w64s i (by omega)]
  exact hno fun h' => h (hx.2 h')
 ·intro j x hj hx
  cases x with
  | true =>
   refine .inr ⟨hasB out (rdOf ByteArray.empty a.f1 (j : Int)), ?_, fun r' hr' => st_spec_l21Order_l2 (ev_pos (by omega) (ev_pos (by omega) (ev_pos (by omega) (ev_pos rfl (Ev.bind (has_spec out ho _) ?_)))))⟩
   ·have hx := hx.1 rfl
    constructor
    ·intro h
     refine ⟨hx.1, fun q hq => ?_⟩
     rcases Nat.lt_or_ge q j with h1 | h1
     ·exact hx.2 q h1
     ·obtain rfl : q = j := by omega
      exact h
    ·exact fun h => h.2 j (by omega)
   ·rw [w64s j (by omega)]; exact hr'
  | false =>
   refine .inr ⟨false, ?_, fun r' hr' => st_spec_l21Order_l2 (ev_pos (by omega) (ev_pos (by omega) (ev_pos (by omega) (ev_neg (by decide) ?_))))⟩
   ·constructor
    ·intro h; cases h
    ·intro h; exact hx.2 ⟨h.1, fun q hq => h.2 q (by omega)⟩
   ·rw [w64s j (by omega)]; exact hr'
 ·constructor
  ·intro h; exact ⟨by simpa using h, fun q hq => by omega⟩
  ·intro h; simpa using h.1
theorem order_step (l : List S41) (hl : l.length ≤ 1048576) (hf : NeedsFit l) (out : List ByteArray) (ho : out.length + cnt l out l.length ≤ l.length)
  (next : ∀ i : Nat, i < l.length → Ready out (rd_T41 l (i : Int)) → (∀ j, j < i → ¬ Ready out (rd_T41 l (j : Int))) → ∃ res, Ev (fun k => spec_l21Order.l0 k l (out ++ [(rd_T41 l (i : Int)).f0])) res ∧ Ev (fun k => impl_makeOrder.l0 k l (out ++ [(rd_T41 l (i : Int)).f0])) res ∧ res.length + cnt l res l.length ≤ l.length) :
  ∃ res, Ev (fun k => spec_l21Order.l0 k l out) res ∧ Ev (fun k => impl_makeOrder.l0 k l out) res ∧ res.length + cnt l res l.length ≤ l.length := by
 obtain ⟨P, hP⟩ : ∃ P : Nat → Bool, ∀ i : Nat, P i = true ↔ Ready out (rd_T41 l (i : Int)) := ⟨fun i => Classical.choose (bool_of (Ready out (rd_T41 l (i : Int)))), fun i => Classical.choose_spec (bool_of (Ready out (rd_T41 l (i : Int))))⟩
 have hno : ∀ i, P i = false → ¬ Ready out (rd_T41 l (i : Int)) := fun i h h' => by rw [(hP i).2 h'] at h; cases h
 obtain ⟨r, hr, h⟩ := ev_index (fun k xs n i => slices_IndexFunc_w50.l0 k xs n i out) (fun k xs i => impl_makeOrder_1.f k (rd_T41 xs i).f0 (rd_T41 xs i).f1 (rd_T41 xs i).f2 out) (fun _ _ _ _ => rfl) l (by omega) P (fun i hi => ready_impl out (by omega) _ (hf i hi) _ (hP i))
 have skip : ∀ (j : Nat) (res : List ByteArray), j < l.length → ¬ Ready out (rd_T41 l (j : Int)) → Ev (fun k => spec_l21Order.l1 k l out false l (l.length : Int) ((j + 1 : Nat) : Int)) res → Ev (fun k => spec_l21Order.l1 k l out false l (l.length : Int) (j : Int)) res := fun j res hj hn he =>
  st_spec_l21Order_l1 (ev_pos (by omega) (ev_pos (by omega) (ev_pos (by omega) (Ev.bind (has_spec out (by omega) _) (inner_spec l out (by omega) j (by omega) _ (hf j hj) res (fun h => absurd h hn) fun _ => he)))))
 rcases h with ⟨rfl, h⟩ | ⟨i, hi, rfl, h1, h2⟩
 ·refine ⟨out, ?_, st_impl_makeOrder_l0 (Ev.bind hr (ev_pos (by omega) (ev_some rfl))), ho⟩
  refine st_spec_l21Order_l0 ?_
  refine ev_for1 l.length (fun k j (_ : Unit) => spec_l21Order.l1 k l out false l (l.length : Int) (j : Int)) (fun _ _ => True) out ?_ ?_ 0 () (Nat.zero_le _) trivial
  ·intro _ _
   exact st_spec_l21Order_l1 (ev_neg (by omega) (ev_neg (by decide) (ev_some rfl)))
  ·intro j _ hj _
   exact .inr ⟨(), trivial, fun res he => skip j res hj (hno j (h j hj)) he⟩
 ·have hy := (hP i).1 h1
  obtain ⟨res, r1, r2, r3⟩ := next i hi hy (fun j hj => hno j (h2 j hj))
  refine ⟨res, ?_, st_impl_makeOrder_l0 (Ev.bind hr (ev_neg (by omega) (ev_pos (by omega) (ev_pos (by omega) (ev_pos (by omega) r2))))), r3⟩
  refine st_spec_l21Order_l0 ?_
  refine ev_for1 l.length (fun k j (_ : Unit) => spec_l21Order.l1 k l out false l (l.length : Int) (j : Int)) (fun j _ => j ≤ i) res ?_ ?_ 0 () (Nat.zero_le _) (Nat.zero_le _)
  ·intro _ h; omega
  ·intro j _ hj hji
   by_cases e : j = i
   ·subst e
    exact .inl (st_spec_l21Order_l1 (ev_pos (by omega) (ev_pos (by omega) (ev_pos (by omega) (Ev.bind (has_spec out (by omega) _) (inner_spec l out (by omega) j (by omega) _ (hf j hj) res (fun _ => r1) fun h => absurd hy h))))))
   ·exact .inr ⟨(), by omega, fun res' he => skip j res' hj (hno j (h2 j (by omega))) he⟩
theorem order_same (l : List S41) (hl : l.length ≤ 1048576) (hf : NeedsFit l) : ∀ (d : Nat) (out : List ByteArray), cnt l out l.length ≤ d → out.length + cnt l out l.length ≤ l.length →
  ∃ res, Ev (fun k => spec_l21Order.l0 k l out) res ∧ Ev (fun k => impl_makeOrder.l0 k l out) res ∧ res.length + cnt l res l.length ≤ l.length := by
 intro d
 induction d with
 | zero =>
  intro out hd ho
  refine order_step l hl hf out (by omega) (fun i hi h0 h1 => ?_)
  have := cnt_lt l out (out ++ [(rd_T41 l (i : Int)).f0]) (fun s hs => by rw [hasB_snoc, hs]; rfl) i h0.1 (by rw [hasB_snoc]; simp) l.length hi
  omega
 | succ d ih =>
  intro out hd ho
  refine order_step l hl hf out (by omega) (fun i hi h0 h1 => ?_)
  have := cnt_lt l out (out ++ [(rd_T41 l (i : Int)).f0]) (fun s hs => by rw [hasB_snoc, hs]; rfl) i h0.1 (by rw [hasB_snoc]; simp) l.length hi
  exact ih _ (by omega) (by rw [List.length_append]; simp only [List.length_cons, List.length_nil]; omega)
def AtS (l : List S41) (s : ByteArray) : Prop := ∃ q, q < l.length ∧ (rd_T41 l (q : Int)).f0.toList = s.toList
theorem at_spec (l : List S41) (hl : l.length ≤ 1048576) (s : ByteArray) : ∃ r, Ev (fun k => spec_l21At.f k l s) r ∧ (r < 0 ↔ ¬ AtS l s) := by
 refine ev_for l.length (fun k i (_ : Unit) => spec_l21At.l0 k s l (l.length : Int) (i : Int)) (fun i _ => ∀ j, j < i → (rd_T41 l (j : Int)).f0.toList ≠ s.toList) (fun r => r < 0 ↔ ¬ AtS l s) ?_ ?_ 0 () (Nat.zero_le _) (fun j hj => by omega)
 ·intro _ h
  refine ⟨-1, st_spec_l21At_l0 (ev_neg (by omega) (ev_some rfl)), ?_⟩
  exact ⟨fun _ ⟨j, hj, e⟩ => h j hj e, fun _ => by omega⟩
 ·intro i _ hi h
  by_cases e : (rd_T41 l (i : Int)).f0.toList = s.toList
  ·refine .inl ⟨(i : Int), st_spec_l21At_l0 (ev_pos (by omega) (ev_pos (by omega) (ev_pos (by omega) (ev_pos e (ev_some rfl))))), ?_⟩
   exact ⟨fun h => by omega, fun h => absurd ⟨i, hi, e⟩ h⟩
  ·refine .inr ⟨(), fun j hj => ?_, fun r hr => st_spec_l21At_l0 (ev_pos (by omega) (ev_pos (by omega) (ev_pos (by omega) (ev_neg e ?_))))⟩
   ·rcases Nat.lt_or_ge j i with h1 | h1
    ·exact h j h1
    ·obtain rfl : j = i := by omega
     exact e
   ·rw [w64s i (by omega)]; exact hr
theorem at_impl (l : List S41) (hl : l.length ≤ 1048576) (s : ByteArray) : ∃ r, Ev (fun k => impl_assetAt.f k l s) r ∧ (r < 0 ↔ ¬ AtS l s) := by
 obtain ⟨r, hr, h⟩ := ev_index (fun k xs n i => slices_IndexFunc_w49.l0 k xs n i s) (fun _ xs i => impl_assetAt_1.f (rd_T41 xs i).f0 (rd_T41 xs i).f1 (rd_T41 xs i).f2 s) (fun _ _ _ _ => rfl) l (by omega) (fun i => (rd_T41 l (i : Int)).f0.toList == s.toList) (fun i _ => ev_some rfl)
 refine ⟨r, Ev.bind hr (ev_some rfl), ?_⟩
 rcases h with ⟨rfl, h⟩ | ⟨i, hi, rfl, h1, _⟩
 ·exact ⟨fun _ ⟨j, hj, e⟩ => by have := h j hj; rw [e] at this; simp at this, fun _ => by omega⟩
 ·exact ⟨fun h => by omega, fun h => absurd ⟨i, hi, by simpa using h1⟩ h⟩
def AssetOk (l : List S41) (i : Nat) : Prop :=
 NameOk (rd_T41 l i).f0 ∧ (0 < i → Op.bytesLess (rd_T41 l ((i : Int) - 1)).f0.toList (rd_T41 l i).f0.toList = true) ∧ ((rd_T41 l i).f1.length ≤ 10 ∧ NamesOk (rd_T41 l i).f1) ∧ (rd_T41 l i).f2.length ≤ 400 ∧ ∀ j, j < (rd_T41 l i).f1.length → AtS l (rdOf ByteArray.empty (rd_T41 l i).f1 (j : Int))
def AssetsOk (l : List S41) (res : List ByteArray) : Prop := l.length ≤ 30 ∧ (∀ i, i < l.length → AssetOk l i) ∧ res.length = l.length
theorem asset_spec (l : List S41) (hl : l.length ≤ 1048576) (hf : NeedsFit l) (i : Nat) (hi : i < l.length) (r : Bool) (hyes : AssetOk l i → Ev (fun k => spec_GoodAssets.l0 k l l (l.length : Int) ((i + 1 : Nat) : Int)) r) (hno : ¬ AssetOk l i → r = false) :
  Ev (fun k => spec_GoodAssets.l0 k l l (l.length : Int) (i : Int)) r := by
 have e : wrap64 ((i : Int) - 1) = (i : Int) - 1 := w64 (by omega) (by omega)
 have hfi := hf i hi
 obtain ⟨d, hd⟩ := bool_of (NameOk (rd_T41 l i).f0)
 have j1t : ¬ AssetOk l i → Ev (fun k => spec_GoodAssets.j1 k l l (l.length : Int) (i : Int) true (rd_T41 l i).f0 (rd_T41 l i).f1 (rd_T41 l i).f2) r := fun h => st_spec_GoodAssets_j1 (ev_pos rfl (ev_some (hno h).symm))
 refine st_spec_GoodAssets_l0 (ev_pos (by omega) (ev_pos (by omega) (ev_pos (by omega) (Ev.bind (name_spec _ d hd) (ev_ite (fun g0 => ?_) fun g0 => j1t fun h => g0 (hd.2 h.1))))))
 have g0 := hd.1 g0
 rw [e]
 have tail : (0 < i → Op.bytesLess (rd_T41 l ((i : Int) - 1)).f0.toList (rd_T41 l i).f0.toList = true) → Ev (fun k => (spec_l3Names.f k (rd_T41 l i).f1 10).bind fun t => if t = true then spec_GoodAssets.j1 k l l (l.length : Int) (i : Int) (decide (((rd_T41 l i).f2.length : Int) > 400)) (rd_T41 l i).f0 (rd_T41 l i).f1 (rd_T41 l i).f2 else spec_GoodAssets.j1 k l l (l.length : Int) (i : Int) true (rd_T41 l i).f0 (rd_T41 l i).f1 (rd_T41 l i).f2) r := by
  intro g1
  obtain ⟨c, hc⟩ := bool_of ((rd_T41 l i).f1.length ≤ 10 ∧ NamesOk (rd_T41 l i).f1)
  refine Ev.bind (names_spec _ hfi c hc) (ev_ite (fun g2 => ?_) fun g2 => j1t fun h => g2 (hc.2 h.2.2.1))
  have g2 := hc.1 g2
  refine st_spec_GoodAssets_j1 (ev_ite (fun g3 => ev_some (hno fun h => by have := h.2.2.2.1; have := of_decide_eq_true g3; omega).symm) fun g3 => ?_)
  have g3 : (rd_T41 l i).f2.length ≤ 400 := by
   rcases Nat.lt_or_ge 400 (rd_T41 l i).f2.length with h | h
   ·exact absurd (decide_eq_true (by omega)) g3
   ·exact h
  refine ev_for1 (rd_T41 l i).f1.length (fun k j (_ : Unit) => spec_GoodAssets.l1 k l l (l.length : Int) (i : Int) (rd_T41 l i).f1 ((rd_T41 l i).f1.length : Int) (j : Int)) (fun j _ => ∀ q, q < j → AtS l (rdOf ByteArray.empty (rd_T41 l i).f1 (q : Int))) r ?_ ?_ 0 () (Nat.zero_le _) (fun j hj => by omega)
  ·intro _ h
   refine st_spec_GoodAssets_l1 (ev_neg (by omega) ?_)
   rw [w64s i (by omega)]
   exact hyes ⟨g0, g1, g2, g3, h⟩
  ·intro j _ hj h
   obtain ⟨q, hq, hqs⟩ := at_spec l hl (rdOf ByteArray.empty (rd_T41 l i).f1 (j : Int))
   by_cases ha : AtS l (rdOf ByteArray.empty (rd_T41 l i).f1 (j : Int))
   ·refine .inr ⟨(), fun q' hq' => ?_, fun r' hr' => st_spec_GoodAssets_l1 (ev_pos (by omega) (ev_pos (by omega) (ev_pos (by omega) (Ev.bind hq (ev_neg (fun h' => hqs.1 h' ha) ?_)))))⟩
    ·rcases Nat.lt_or_ge q' j with h1 | h1
     ·exact h q' h1
     ·obtain rfl : q' = j := by omega
      exact ha
    ·rw [w64s j (by omega)]; exact hr'
   ·exact .inl (st_spec_GoodAssets_l1 (ev_pos (by omega) (ev_pos (by omega) (ev_pos (by omega) (Ev.bind hq (ev_pos (hqs.2 ha) (ev_some (hno fun h' => ha (h'.2.2.2.2 j hj)).symm)))))))
 exact ev_ite (fun hp => ev_pos (by omega) (ev_pos (by omega) (ev_ite (fun g1 => tail fun _ => g1) fun g1 => j1t fun h => g1 (h.2.1 (by omega))))) fun hp => tail (fun h => by omega)
theorem asset_impl (l : List S41) (hx : l.length ≤ 1048576 ∧ ∀ y ∈ l, Fit41 y) (i : Nat) (hi : i < l.length) (r : Bool) (hyes : AssetOk l i → Ev (fun k => impl_GoodAssets.l0 k l (l.length : Int) ((i + 1 : Nat) : Int) l) r) (hno : ¬ AssetOk l i → r = false) :
  Ev (fun k => impl_GoodAssets.l0 k l (l.length : Int) (i : Int) l) r := by
 have hl := hx.1
 have e : wrap64 ((i : Int) - 1) = (i : Int) - 1 := w64 (by omega) (by omega)
 have hfit : Fit41 (rd_T41 l (i : Int)) := by
  have e : rd_T41 l (i : Int) = l[i] := getD_get hi
  rw [e]
  exact hx.2 _ (List.getElem_mem hi)
 have hfi := hfit.2.1.1
 have hn0 := hfit.1
 obtain ⟨d, hd⟩ := bool_of (NameOk (rd_T41 l i).f0)
 have j1t : ¬ AssetOk l i → Ev (fun k => impl_GoodAssets.j1 k l (l.length : Int) (i : Int) true l (rd_T41 l i).f0 (rd_T41 l i).f1 (rd_T41 l i).f2) r := fun h => st_impl_GoodAssets_j1 (ev_pos rfl (ev_some (hno h).symm))
 refine st_impl_GoodAssets_l0 (ev_pos (by omega) (ev_pos (by omega) (ev_pos (by omega) (Ev.bind (name_impl _ (by omega) d hd) (ev_ite (fun g0 => ?_) fun g0 => j1t fun h => g0 (hd.2 h.1))))))
 have g0 := hd.1 g0
 rw [e]
 have tail : (0 < i → Op.bytesLess (rd_T41 l ((i : Int) - 1)).f0.toList (rd_T41 l i).f0.toList = true) → Ev (fun k => (impl_areNames.f k (rd_T41 l i).f1).bind fun t => if t = true then (if ((rd_T41 l i).f1.length : Int) > 10 then impl_GoodAssets.j1 k l (l.length : Int) (i : Int) true l (rd_T41 l i).f0 (rd_T41 l i).f1 (rd_T41 l i).f2 else impl_GoodAssets.j1 k l (l.length : Int) (i : Int) (decide (((rd_T41 l i).f2.length : Int) > 400)) l (rd_T41 l i).f0 (rd_T41 l i).f1 (rd_T41 l i).f2) else impl_GoodAssets.j1 k l (l.length : Int) (i : Int) true l (rd_T41 l i).f0 (rd_T41 l i).f1 (rd_T41 l i).f2) r := by
  intro g1
  obtain ⟨c, hc⟩ := bool_of (NamesOk (rd_T41 l i).f1)
  refine Ev.bind (names_impl _ hfit.2.1 c hc) (ev_ite (fun g2 => ?_) fun g2 => j1t fun h => g2 (hc.2 h.2.2.1.2))
  have g2 := hc.1 g2
  refine ev_ite (fun g4 => j1t fun h => by have := h.2.2.1.1; omega) fun g4 => ?_
  refine st_impl_GoodAssets_j1 (ev_ite (fun g3 => ev_some (hno fun h => by have := h.2.2.2.1; have := of_decide_eq_true g3; omega).symm) fun g3 => ?_)
  have g3 : (rd_T41 l i).f2.length ≤ 400 := by
   rcases Nat.lt_or_ge 400 (rd_T41 l i).f2.length with h | h
   ·exact absurd (decide_eq_true (by omega)) g3
   ·exact h
  obtain ⟨P, hP⟩ : ∃ P : Nat → Bool, ∀ j : Nat, P j = true ↔ ¬ AtS l (rdOf ByteArray.empty (rd_T41 l i).f1 (j : Int)) := ⟨fun j => Classical.choose (bool_of (¬ AtS l (rdOf ByteArray.empty (rd_T41 l i).f1 (j : Int)))), fun j => Classical.choose_spec (bool_of (¬ AtS l (rdOf ByteArray.empty (rd_T41 l i).f1 (j : Int))))⟩
  obtain ⟨b, hb⟩ := bool_of (∃ j, j < (rd_T41 l i).f1.length ∧ P j = true)
  refine Ev.bind (ev_contains (fun k xs n i => slices_IndexFunc_w34.l0 k xs n i l) (fun k xs i => impl_GoodAssets_1.f k (rdOf ByteArray.empty xs i) l) (fun _ _ _ _ => rfl) _ (by omega) P (fun j _ => ?_) b hb) (ev_ite (fun g5 => ev_some (hno fun h => ?_).symm) fun g5 => ?_)
  ·obtain ⟨q, hq, hqs⟩ := at_impl l hl (rdOf ByteArray.empty (rd_T41 l i).f1 (j : Int))
   refine Ev.bind hq (ev_some ?_)
   rw [Bool.eq_iff_iff, decide_eq_true_eq, hqs, hP]
  ·obtain ⟨j, hj, hp⟩ := hb.1 g5
   exact (hP j).1 hp (h.2.2.2.2 j hj)
  ·rw [w64s i (by omega)]
   refine hyes ⟨g0, g1, ⟨by omega, g2⟩, g3, fun j hj => ?_⟩
   rcases Classical.em (AtS l (rdOf ByteArray.empty (rd_T41 l i).f1 (j : Int))) with h | h
   ·exact h
   ·exact absurd (hb.2 ⟨j, hj, (hP j).2 h⟩) g5
 exact ev_ite (fun hp => ev_pos (by omega) (ev_pos (by omega) (ev_ite (fun g1 => tail fun _ => g1) fun g1 => j1t fun h => g1 (h.2.1 (by omega))))) fun hp => tail (fun h => by omega)
theorem needs_fit (l : List S41) (hx : l.length ≤ 1048576 ∧ ∀ y ∈ l, Fit41 y) : NeedsFit l := by
 intro i hi
 have e : rd_T41 l (i : Int) = l[i] := getD_get hi
 rw [e]
 exact (hx.2 _ (List.getElem_mem hi)).2.1.1
theorem assets_same (l : List S41) (hx : l.length ≤ 1048576 ∧ ∀ y ∈ l, Fit41 y) :
  ∃ res b, Ev (fun k => spec_l21Order.f k l) res ∧ Ev (fun k => impl_makeOrder.f k l) res ∧ res.length ≤ l.length ∧ (b = true ↔ AssetsOk l res) ∧ Ev (fun k => spec_GoodAssets.f k l) b ∧ Ev (fun k => impl_GoodAssets.f k l) b := by
 have hl := hx.1
 have hf := needs_fit l hx
 obtain ⟨res, r1, r2, r3⟩ := order_same l hl hf (cnt l [] l.length) [] (Nat.le_refl _) (by have := cnt_le l [] l.length; simpa using this)
 obtain ⟨b, hb⟩ := bool_of (AssetsOk l res)
 have no : ∀ i, i < l.length → ¬ AssetOk l i → b = false := fun i hi h => bool_false hb fun h' => h (h'.2.1 i hi)
 refine ⟨res, b, r1, r2, by omega, hb, ?_, ?_⟩
 ·refine ev_ite (fun h => ev_some (bool_false hb (fun h' => by have := h'.1; omega)).symm) fun h => ?_
  refine ev_for1 l.length (fun k i (_ : Unit) => spec_GoodAssets.l0 k l l (l.length : Int) (i : Int)) (fun i _ => ∀ j, j < i → AssetOk l j) b ?_ ?_ 0 () (Nat.zero_le _) (fun j hj => by omega)
  ·intro _ hall
   refine st_spec_GoodAssets_l0 (ev_neg (by omega) (Ev.bind r1 (ev_some ?_)))
   rw [Bool.eq_iff_iff, hb, beq_iff_eq]
   exact ⟨fun h' => ⟨by omega, hall, by omega⟩, fun h' => by have := h'.2.2; omega⟩
  ·intro i _ hi hall
   by_cases ho : AssetOk l i
   ·refine .inr ⟨(), fun j hj => ?_, fun r hr => asset_spec l hl hf i hi r (fun _ => hr) (fun h' => absurd ho h')⟩
    rcases Nat.lt_or_ge j i with h1 | h1
    ·exact hall j h1
    ·obtain rfl : j = i := by omega
     exact ho
   ·exact .inl (asset_spec l hl hf i hi b (fun h' => absurd h' ho) (fun _ => no i hi ho))
 ·refine ev_for1 l.length (fun k i (_ : Unit) => impl_GoodAssets.l0 k l (l.length : Int) (i : Int) l) (fun i _ => ∀ j, j < i → AssetOk l j) b ?_ ?_ 0 () (Nat.zero_le _) (fun j hj => by omega)
  ·intro _ hall
   refine st_impl_GoodAssets_l0 (ev_neg (by omega) (ev_ite (fun h => Ev.bind r2 (ev_some ?_)) fun h => ev_some (bool_false hb (fun h' => by have := h'.1; omega)).symm))
   rw [Bool.eq_iff_iff, hb, beq_iff_eq]
   exact ⟨fun h' => ⟨by omega, hall, by omega⟩, fun h' => by have := h'.2.2; omega⟩
  ·intro i _ hi hall
   by_cases ho : AssetOk l i
   ·refine .inr ⟨(), fun j hj => ?_, fun r hr => asset_impl l hx i hi r (fun _ => hr) (fun h' => absurd ho h')⟩
    rcases Nat.lt_or_ge j i with h1 | h1
    ·exact hall j h1
    ·obtain rfl : j = i := by omega
     exact ho
   ·exact .inl (asset_impl l hx i hi b (fun h' => absurd h' ho) (fun _ => no i hi ho))
theorem xor_nat (k : IntKind) (j : Nat) (hj : j ≤ k.bits) (hk : ∀ n : Int, 0 ≤ n → n < 2 ^ j → k.wrap n = n) (a b : Nat) (ha : a < 2 ^ j) (hb : b < 2 ^ j) : Go.bits .xor k a b = ((a ^^^ b : Nat) : Int) := by
 have hp : 2 ^ j ≤ 2 ^ k.bits := Nat.pow_le_pow_right (by decide) hj
 have ha' : a % 2 ^ k.bits = a := Nat.mod_eq_of_lt (Nat.lt_of_lt_of_le ha hp)
 have hb' : b % 2 ^ k.bits = b := Nat.mod_eq_of_lt (Nat.lt_of_lt_of_le hb hp)
 simp only [Go.bits, BitVec.ofInt_natCast, BitVec.toNat_xor, BitVec.toNat_ofNat, ha', hb']
 exact hk _ (Int.natCast_nonneg _) (by exact_mod_cast Nat.xor_lt_two_pow ha hb)
theorem wraps_u32 (n : Int) (h0 : 0 ≤ n) (h1 : n < 2 ^ 32) : IntKind.u32.wrap n = n := by rw [IntKind.wrap_u32]; omega
theorem wraps_u64 (n : Int) (h0 : 0 ≤ n) (h1 : n < 2 ^ 32) : IntKind.u64.wrap n = n := wrap_u64 h0 (by omega)
def digestStep (s b : Int) : Int := (((s.toNat ^^^ b.toNat : Nat) : Int) * 16777619) % 4294967296
theorem step_range (s b : Int) : 0 ≤ digestStep s b ∧ digestStep s b < 4294967296 := by unfold digestStep; omega
theorem xor_lt (s b : Int) (h0 : 0 ≤ s) (h1 : s < 4294967296) (g0 : 0 ≤ b) (g1 : b < 256) : 0 ≤ ((s.toNat ^^^ b.toNat : Nat) : Int) ∧ ((s.toNat ^^^ b.toNat : Nat) : Int) < 4294967296 := by
 have := Nat.xor_lt_two_pow (n := 32) (show s.toNat < 2 ^ 32 by omega) (show b.toNat < 2 ^ 32 by omega)
 omega
theorem step_impl (s b : Int) (h0 : 0 ≤ s) (h1 : s < 4294967296) (g0 : 0 ≤ b) (g1 : b < 256) : ((Go.bits .xor .u32 s (b % 4294967296)) * 16777619) % 4294967296 = digestStep s b := by
 have e := xor_nat .u32 32 (by decide) wraps_u32 s.toNat b.toNat (by omega) (by omega)
 rw [Int.toNat_of_nonneg h0, Int.toNat_of_nonneg g0] at e
 rw [show b % 4294967296 = b by omega, e]
 rfl
theorem step_spec (s b : Int) (h0 : 0 ≤ s) (h1 : s < 4294967296) (g0 : 0 ≤ b) (g1 : b < 256) : Int.tmod (IntKind.u64.wrap ((Go.bits .xor .u64 s (IntKind.u64.wrap b)) * 16777619)) 4294967296 = digestStep s b := by
 have e := xor_nat .u64 32 (by decide) wraps_u64 s.toNat b.toNat (by omega) (by omega)
 rw [Int.toNat_of_nonneg h0, Int.toNat_of_nonneg g0] at e
 obtain ⟨x0, x1⟩ := xor_lt s b h0 h1 g0 g1
 rw [wrap_u64 g0 (by omega), e, wrap_u64 (by omega) (by omega), Int.tmod_eq_emod_of_nonneg (by omega)]
 rfl
theorem digest_impl (l : List Int) (hl : l.length ≤ 1048576) (hb : ∀ x ∈ l, 0 ≤ x ∧ x < 256) : Ev (fun k => impl_digest.f k l) (l.foldl digestStep 2166136261) := by
 refine ev_for1 l.length (fun k i (v : Int) => impl_digest.l0 k v l (l.length : Int) (i : Int)) (fun i v => v = (l.take i).foldl digestStep 2166136261 ∧ 0 ≤ v ∧ v < 4294967296) _ ?_ ?_ 0 2166136261 (Nat.zero_le _) ⟨rfl, by omega, by omega⟩
 ·rintro v ⟨rfl, _, _⟩
  exact Ev.step (fun _ => rfl) (ev_neg (by omega) (ev_some (by rw [List.take_length])))
 ·rintro i v hi ⟨hv, v0, v1⟩
  obtain ⟨b0, b1⟩ := hb _ (List.getElem_mem hi)
  obtain ⟨s0, s1⟩ := step_range v l[i]
  refine .inr ⟨digestStep v l[i], ⟨by rw [List.take_succ_eq_append_getElem hi, List.foldl_append, ← hv]; rfl, s0, s1⟩, fun r hr => Ev.step (fun _ => rfl) (ev_pos (by omega) (ev_pos (by omega) (ev_pos (by omega) ?_)))⟩
  rw [w64s i (by omega), rd_get hi, step_impl v l[i] v0 v1 b0 b1]
  exact hr
theorem digest_spec (l : List Int) (hl : l.length ≤ 1048576) (hb : ∀ x ∈ l, 0 ≤ x ∧ x < 256) : Ev (fun k => spec_l21Digest.f k l) (l.foldl digestStep 2166136261) := by
 refine ev_for1 l.length (fun k i (v : Int) => spec_l21Digest.l0 k v l (l.length : Int) (i : Int)) (fun i v => v = (l.take i).foldl digestStep 2166136261 ∧ 0 ≤ v ∧ v < 4294967296) _ ?_ ?_ 0 2166136261 (Nat.zero_le _) ⟨rfl, by omega, by omega⟩
 ·rintro v ⟨rfl, v0, v1⟩
  rw [List.take_length] at v0 v1
  exact Ev.step (fun _ => rfl) (ev_neg (by omega) (ev_some (by rw [List.take_length]; omega)))
 ·rintro i v hi ⟨hv, v0, v1⟩
  obtain ⟨b0, b1⟩ := hb _ (List.getElem_mem hi)
  obtain ⟨s0, s1⟩ := step_range v l[i]
  refine .inr ⟨digestStep v l[i], ⟨by rw [List.take_succ_eq_append_getElem hi, List.foldl_append, ← hv]; rfl, s0, s1⟩, fun r hr => Ev.step (fun _ => rfl) (ev_pos (by omega) (ev_pos (by omega) (ev_pos (by omega) ?_)))⟩
  rw [w64s i (by omega), rd_get hi, step_spec v l[i] v0 v1 b0 b1]
  exact hr
theorem toList_inj {a b : ByteArray} (h : a.toList = b.toList) : a = b := by
 rw [ByteArray.toList_eq, ByteArray.toList_eq] at h
 exact ByteArray.ext (Array.ext' h)
def FirstAt (l : List S41) (s : ByteArray) (i : Nat) : Prop := i < l.length ∧ (rd_T41 l (i : Int)).f0 = s ∧ ∀ j, j < i → (rd_T41 l (j : Int)).f0 ≠ s
theorem first_one {l : List S41} {s : ByteArray} {i j : Nat} (h : FirstAt l s i) (k : FirstAt l s j) : i = j := by
 rcases Nat.lt_or_ge i j with h1 | h1
 ·exact absurd h.2.1 (k.2.2 i h1)
 ·rcases Nat.lt_or_ge j i with h2 | h2
  ·exact absurd k.2.1 (h.2.2 j h2)
  ·omega
theorem first_of (l : List S41) (hl : l.length ≤ 1048576) (s : ByteArray) : (¬ AtS l s ∧ Ev (fun k => spec_l21At.f k l s) (-1) ∧ Ev (fun k => impl_assetAt.f k l s) (-1)) ∨ ∃ i, FirstAt l s i ∧ Ev (fun k => spec_l21At.f k l s) (i : Int) ∧ Ev (fun k => impl_assetAt.f k l s) (i : Int) := by
 obtain ⟨r, hr, h⟩ := ev_index (fun k xs n i => slices_IndexFunc_w49.l0 k xs n i s) (fun _ xs i => impl_assetAt_1.f (rd_T41 xs i).f0 (rd_T41 xs i).f1 (rd_T41 xs i).f2 s) (fun _ _ _ _ => rfl) l (by omega) (fun i => (rd_T41 l (i : Int)).f0.toList == s.toList) (fun i _ => ev_some rfl)
 have hi : Ev (fun k => impl_assetAt.f k l s) r := Ev.bind hr (ev_some rfl)
 have sp : ∀ (r : Int) (Q : Nat → Prop), (∀ j, j < l.length → Q j → (rd_T41 l (j : Int)).f0.toList ≠ s.toList) → ((r = -1 ∧ ∀ j, j < l.length → Q j) ∨ ∃ i : Nat, i < l.length ∧ r = (i : Int) ∧ (rd_T41 l (i : Int)).f0.toList = s.toList ∧ ∀ j, j < i → Q j) → Ev (fun k => spec_l21At.f k l s) r := by
  intro r Q hQ h
  refine ev_for1 l.length (fun k i (_ : Unit) => spec_l21At.l0 k s l (l.length : Int) (i : Int)) (fun i _ => r = -1 ∨ ∃ q : Nat, q < l.length ∧ r = (q : Int) ∧ i ≤ q) r ?_ ?_ 0 () (Nat.zero_le _) (h.elim (fun h => .inl h.1) (fun ⟨i, h1, h2, _⟩ => .inr ⟨i, h1, h2, by omega⟩))
  ·intro _ h'
   rcases h' with h' | ⟨q, h1, _, h2⟩
   ·exact st_spec_l21At_l0 (ev_neg (by omega) (ev_some h'.symm))
   ·omega
  ·intro i _ hi h'
   rcases h with ⟨h1, h2⟩ | ⟨q, h1, h2, h3, h4⟩
   ·refine .inr ⟨(), .inl h1, fun r' hr' => st_spec_l21At_l0 (ev_pos (by omega) (ev_pos (by omega) (ev_pos (by omega) (ev_neg (hQ i hi (h2 i hi)) ?_))))⟩
    rw [w64s i (by omega)]; exact hr'
   ·have hiq : i ≤ q := by
     rcases h' with h' | ⟨q', a1, a2, a3⟩
     ·omega
     ·omega
    by_cases e : i = q
    ·subst e
     exact .inl (st_spec_l21At_l0 (ev_pos (by omega) (ev_pos (by omega) (ev_pos (by omega) (ev_pos h3 (ev_some h2.symm))))))
    ·refine .inr ⟨(), .inr ⟨q, h1, h2, by omega⟩, fun r' hr' => st_spec_l21At_l0 (ev_pos (by omega) (ev_pos (by omega) (ev_pos (by omega) (ev_neg (hQ i hi (h4 i (by omega))) ?_))))⟩
     rw [w64s i (by omega)]; exact hr'
 have hQ : ∀ j, j < l.length → ((rd_T41 l (j : Int)).f0.toList == s.toList) = false → (rd_T41 l (j : Int)).f0.toList ≠ s.toList := fun j _ h => by simpa using h
 rcases h with ⟨rfl, h⟩ | ⟨i, hi1, rfl, h1, h2⟩
 ·exact .inl ⟨fun ⟨q, hq, e⟩ => hQ q hq (h q hq) e, sp (-1) _ hQ (.inl ⟨rfl, h⟩), hi⟩
 ·have e1 : (rd_T41 l (i : Int)).f0.toList = s.toList := by simpa using h1
  refine .inr ⟨i, ⟨hi1, toList_inj e1, fun j hj e => hQ j (by omega) (h2 j hj) (by rw [e])⟩, sp (i : Int) _ hQ (.inr ⟨i, hi1, rfl, e1, h2⟩), hi⟩
theorem get_put (m : List (ByteArray × Int)) (k : ByteArray) (v : Int) : ∀ s, Mp.get (Mp.put m k v) s = if k = s then some v else Mp.get m s := by
 intro s
 induction m with
 | nil => simp [Mp.put, Mp.get]
 | cons p r ih =>
  by_cases hp : p.1 = k
  ·by_cases hs : k = s
   ·simp [Mp.put, Mp.get, hp, hs]
   ·simp [Mp.put, Mp.get, hp, hs]
  ·simp only [Mp.put, if_neg hp, Mp.get, ih]
   by_cases hs : p.1 = s
   ·have : ¬ k = s := fun e => hp (by rw [hs, e])
    simp [hs, this]
   ·simp [hs]
def U32 (x : Int) : Prop := 0 ≤ x ∧ x < 4294967296
def Rel (l : List S41) (m : List (ByteArray × Int)) (out : List Int) : Prop := ∀ s i, FirstAt l s i → (Mp.get m s).getD 0 = rd out (i : Int) ∧ U32 (rd out (i : Int))
theorem rd_set (out : List Int) (i j : Nat) (v : Int) (hi : i < out.length) : rd (out.set i v) (j : Int) = if i = j then v else rd out (j : Int) := by
 by_cases h : i = j
 ·subst h
  rw [if_pos rfl]
  simp [rd, hi]
 ·rw [if_neg h]
  simp [rd, List.getD_eq_getElem?_getD, List.getElem?_set_ne h]
theorem rel_put {l : List S41} {m : List (ByteArray × Int)} {out : List Int} (h : Rel l m out) (ho : out.length = l.length) {s : ByteArray} {i : Nat} (hf : FirstAt l s i) (v : Int) (hv : U32 v) : Rel l (Mp.put m s v) (out.set i v) := by
 intro s' j hj
 have hi : i < out.length := by rw [ho]; exact hf.1
 rw [get_put, rd_set out i j v hi]
 by_cases e : s = s'
 ·subst e
  have := first_one hf hj
  rw [if_pos rfl, if_pos this]
  exact ⟨rfl, hv⟩
 ·have : i ≠ j := fun e' => e (by rw [← hf.2.1, e', hj.2.1])
  rw [if_neg e, if_neg this]
  exact h s' j hj
def Byte (x : Int) : Prop := 0 ≤ x ∧ x < 256
theorem fold_u32 (d : List Int) : ∀ s, U32 s → U32 (d.foldl digestStep s) := by
 induction d with
 | nil => exact fun s h => h
 | cons x r ih => exact fun s _ => ih _ (step_range s x)
theorem four_bytes (x : Int) : ∀ y ∈ ([(x / 16777216) % 256, (x / 65536) % 256, (x / 256) % 256, x % 256] : List Int), Byte y := by
 intro y hy
 unfold Byte
 simp at hy
 omega
theorem needs_loop (l : List S41) (hl : l.length ≤ 1048576) (m : List (ByteArray × Int)) (out : List Int) (ho : out.length = l.length) (hr : Rel l m out) (ns : List ByteArray) (hn : ns.length ≤ 10) (ha : ∀ j, j < ns.length → AtS l (rdOf ByteArray.empty ns (j : Int))) (x6 : Int) (nm : List ByteArray) (x16 x17 : Int) :
  ∀ (n j : Nat) (d : List Int), j + n = ns.length → d.length ≤ 1000 + 4 * j → (∀ x ∈ d, Byte x) → ∃ dd, impl_stamps.needs m (ns.drop j) d = some dd ∧ dd.length ≤ 2000 ∧ (∀ x ∈ dd, Byte x) ∧
   ∀ r, Ev (fun k => (spec_l21Digest.f k dd).bind fun t167 => (if 0 ≤ x6 then (if x6 < (out.length : Int) then (spec_l21Stamps.l0 k l (out.set (x6 : Int).toNat t167) nm x16 (wrap64 (x17 + 1))) else (none)) else (none))) r → Ev (fun k => spec_l21Stamps.l1 k l out x6 d nm x16 x17 ns (ns.length : Int) (j : Int)) r := by
 intro n
 induction n with
 | zero =>
  intro j d hj hd hb
  obtain rfl : j = ns.length := by omega
  rw [List.drop_length]
  exact ⟨d, rfl, by omega, hb, fun r hr' => st_spec_l21Stamps_l1 (ev_neg (by omega) hr')⟩
 | succ n ih =>
  intro j d hj hd hb
  have hjl : j < ns.length := by omega
  have hat := ha j hjl
  rcases first_of l hl (rdOf ByteArray.empty ns (j : Int)) with ⟨h, _⟩ | ⟨i, hf, hs, _⟩
  ·exact absurd hat h
  ·obtain ⟨hg, hu⟩ := hr _ i hf
   have hil := hf.1
   obtain ⟨q, hq⟩ : ∃ q, q = ([((rd out (i : Int)) / 16777216) % 256, ((rd out (i : Int)) / 65536) % 256, ((rd out (i : Int)) / 256) % 256, (rd out (i : Int)) % 256] : List Int) := ⟨_, rfl⟩
   have hql : q.length = 4 := by rw [hq]; rfl
   have hqb : ∀ x ∈ q, Byte x := by rw [hq]; exact four_bytes _
   obtain ⟨dd, e1, e2, e3, e4⟩ := ih (j + 1) (d ++ q) (by omega) (by rw [List.length_append, hql]; omega) (fun x hx => (List.mem_append.1 hx).elim (hb x) (hqb x))
   have e5 : rdOf ByteArray.empty ns (j : Int) = ns[j] := rdOf_get hjl
   refine ⟨dd, ?_, e2, e3, fun r hr' => ?_⟩
   ·rw [List.drop_eq_getElem_cons hjl, impl_stamps.needs, ← e5, hg]
    show (some _).bind _ = _
    rw [Option.bind_some, ← hq, if_pos (by rw [hql]; omega)]
    exact e1
   ·refine st_spec_l21Stamps_l1 (ev_pos (by omega) (ev_pos (by omega) (ev_pos (by omega) (Ev.bind hs (ev_pos (by omega) (ev_pos (by omega) (ev_bindc rfl ?_)))))))
    rw [← hq]
    refine ev_pos (by rw [hql]; omega) ?_
    rw [w64s j (by omega)]
    exact e4 r hr'
theorem stamps_loop (l : List S41) (hl : l.length ≤ 1048576) (ok : ∀ i, i < l.length → AssetOk l i) (hbd : ∀ i, i < l.length → ∀ x ∈ (rd_T41 l (i : Int)).f2, Byte x) (nm : List ByteArray) (hnl : nm.length ≤ 1048576) (hat : ∀ s ∈ nm, AtS l s) :
  ∀ (n i : Nat) (m : List (ByteArray × Int)) (out : List Int), i + n = nm.length → out.length = l.length → Rel l m out → ∃ m' out', Ev (fun k => impl_stamps.go k l (nm.drop i) m) m' ∧ Ev (fun k => spec_l21Stamps.l0 k l out nm (nm.length : Int) (i : Int)) out' ∧ Rel l m' out' ∧ out'.length = l.length := by
 intro n
 induction n with
 | zero =>
  intro i m out hi ho hr
  obtain rfl : i = nm.length := by omega
  rw [List.drop_length]
  exact ⟨m, out, ev_some rfl, st_spec_l21Stamps_l0 (ev_neg (by omega) (ev_some rfl)), hr, ho⟩
 | succ n ih =>
  intro i m out hi ho hr
  have hil : i < nm.length := by omega
  have hs := hat nm[i] (List.getElem_mem hil)
  have e0 : rdOf ByteArray.empty nm (i : Int) = nm[i] := rdOf_get hil
  rw [List.drop_eq_getElem_cons hil]
  obtain ⟨s, hsn⟩ : ∃ s, s = nm[i] := ⟨_, rfl⟩
  rw [← hsn] at hs e0 ⊢
  rcases first_of l hl s with ⟨h, _⟩ | ⟨q, hf, hq1, hq2⟩
  ·exact absurd hs h
  ·have hql := hf.1
   obtain ⟨g0, _, g2, g3, g4⟩ := ok q hql
   obtain ⟨a, ha⟩ : ∃ a, a = rd_T41 l (q : Int) := ⟨_, rfl⟩
   have hfs : a.f0 = s := by rw [ha]; exact hf.2.1
   have hb2 := hbd q hql
   rw [← ha] at g0 g2 g3 g4 hb2
   have hz := g0.1.2
   have hbl : (bytesOf a.f0).length = a.f0.size := bytesOf_length _
   obtain ⟨d0, hd0⟩ : ∃ d0, d0 = bytesOf a.f0 ++ [0] ++ a.f2 ++ [0] := ⟨_, rfl⟩
   have hd0l : d0.length = a.f0.size + a.f2.length + 2 := by rw [hd0]; simp [hbl]; omega
   have hd0b : ∀ x ∈ d0, Byte x := by
    intro x hx
    rw [hd0] at hx
    simp only [List.mem_append, List.mem_singleton] at hx
    unfold Byte
    rcases hx with ((hx | rfl) | hx) | rfl
    ·unfold bytesOf at hx
     obtain ⟨b, _, rfl⟩ := List.mem_map.1 hx
     have := UInt8.toNat_lt b
     omega
    ·omega
    ·exact hb2 x hx
    ·omega
   obtain ⟨dd, e1, e2, e3, e4⟩ := needs_loop l hl m out ho hr a.f1 g2.1 g4 (q : Int) nm (nm.length : Int) (i : Int) a.f1.length 0 d0 (by omega) (by omega) hd0b
   rw [List.drop_zero] at e1
   have hv := fold_u32 dd 2166136261 (by unfold U32; omega)
   have hdi := digest_impl dd (by omega) e3
   have hds := digest_spec dd (by omega) e3
   obtain ⟨v, hvv⟩ : ∃ v, v = dd.foldl digestStep 2166136261 := ⟨_, rfl⟩
   rw [← hvv] at hv hdi hds
   obtain ⟨m', out', r1, r2, r3, r4⟩ := ih (i + 1) (Mp.put m s v) (out.set q v) (by omega) (by rw [List.length_set]; exact ho) (rel_put hr ho hf v hv)
   refine ⟨m', out', ?_, ?_, r3, r4⟩
   ·refine Ev.bind hq2 (ev_pos ⟨by omega, by omega, by rw [← ha]; omega⟩ (ev_bindc (a := dd) ?_ (Ev.bind hdi r1)))
    rw [← ha, ← hd0]
    exact e1
   ·have hsz : (rdOf ByteArray.empty nm (i : Int)).size ≤ 20 := by rw [e0, ← hfs]; exact hz
    refine st_spec_l21Stamps_l0 (ev_pos (by omega) (ev_pos (by omega) (ev_pos (by omega) (Ev.bind (by rw [e0]; exact hq1) (ev_pos (by show 0 + _ < _; omega) (ev_bindc rfl ?_))))))
    have hb0 : (bytesOf (rdOf ByteArray.empty nm (i : Int))).length ≤ 20 := by rw [bytesOf_length]; exact hsz
    refine ev_pos (by rw [List.nil_append]; omega) (ev_bindc rfl (ev_pos (by omega) (ev_pos (by omega) (ev_pos (by rw [← ha]; simp only [List.length_append, List.nil_append, List.length_singleton]; omega) (ev_bindc rfl (ev_pos (by rw [← ha]; simp only [List.length_append, List.nil_append, List.length_singleton]; omega) ?_))))))
    rw [← ha, e0, List.nil_append, ← hfs, ← hd0]
    refine e4 _ (Ev.bind hds (ev_pos (by omega) (ev_pos (by omega) ?_)))
    rw [w64s i (by omega)]
    exact r2
theorem order_at (l : List S41) (res : List ByteArray) (h : Ev (fun k => impl_makeOrder.f k l) res) : ∀ y ∈ res, AtS l y := by
 have key : ∀ k out res, (∀ y ∈ out, AtS l y) → impl_makeOrder.l0 k l out = some res → ∀ y ∈ res, AtS l y := by
  intro k
  induction k with
  | zero => intro out res _ h; simp [impl_makeOrder.l0] at h
  | succ k ih =>
   intro out res ho h
   simp only [impl_makeOrder.l0] at h
   obtain ⟨t, _, h⟩ := Option.bind_eq_some_iff.mp h
   split at h
   ·obtain rfl := Option.some.inj h; exact ho
   ·split at h
    ·split at h
     ·rename_i h1 h2
      split at h
      ·refine ih _ _ (fun y hy => ?_) h
       rcases List.mem_append.1 hy with hy | hy
       ·exact ho y hy
       ·obtain rfl := List.mem_singleton.1 hy
        obtain ⟨i, rfl⟩ : ∃ i : Nat, t = (i : Int) := ⟨t.toNat, by omega⟩
        exact ⟨i, by omega, rfl⟩
      ·cases h
     ·cases h
    ·cases h
 obtain ⟨k, hk⟩ := h
 exact key k [] res (fun y hy => by cases hy) (hk k (Nat.le_refl _))
theorem rel_start (l : List S41) : Rel l [] (List.replicate l.length 0) := by
 intro s i hf
 have : rd (List.replicate l.length 0) (i : Int) = 0 := by
  rw [rd_get (by rw [List.length_replicate]; exact hf.1)]
  simp
 rw [this]
 exact ⟨rfl, by unfold U32; omega⟩
theorem stamps_same (l : List S41) (hl : l.length ≤ 1048576) (hbd : ∀ i, i < l.length → ∀ x ∈ (rd_T41 l (i : Int)).f2, Byte x) (res : List ByteArray) (r1 : Ev (fun k => spec_l21Order.f k l) res) (r2 : Ev (fun k => impl_makeOrder.f k l) res) (hres : res.length ≤ l.length) (ok : ∀ i, i < l.length → AssetOk l i) :
  ∃ m out, Ev (fun k => impl_stamps.f k l) m ∧ Ev (fun k => spec_l21Stamps.f k l) out ∧ Rel l m out ∧ out.length = l.length := by
 obtain ⟨m, out, h1, h2, h3, h4⟩ := stamps_loop l hl ok hbd res (by omega) (order_at l res r2) res.length 0 [] (List.replicate l.length 0) (by omega) (by simp) (rel_start l)
 rw [List.drop_zero] at h1
 have e : (((l.length : Nat) : Int)).toNat = l.length := rfl
 refine ⟨m, out, Ev.bind r2 h1, ?_, h3, h4⟩
 exact ev_pos (by omega) (ev_pos (by rw [e]; omega) (Ev.bind r1 h2))
theorem cmp_lt : ∀ (a b : List UInt8), Lib.compareBytes a b < 0 ↔ Op.bytesLess a b = true
 | [], [] => by simp [Lib.compareBytes, Op.bytesLess]
 | [], _ :: _ => by simp [Lib.compareBytes, Op.bytesLess]
 | _ :: _, [] => by simp [Lib.compareBytes, Op.bytesLess]
 | x :: a, y :: b => by
  have ih := cmp_lt a b
  unfold Lib.compareBytes Op.bytesLess
  by_cases h : x < y
  ·simp [h]
  ·by_cases h2 : y < x
   ·have : x ≠ y := fun e => by subst e; exact h h2
    simp [h, h2, this]
   ·have : x = y := UInt8.le_antisymm (UInt8.not_lt.1 h2) (UInt8.not_lt.1 h)
    subst this
    simpa [h] using ih
theorem cmp_next : ∀ (a b s : List UInt8), Op.bytesLess a b = true → 0 ≤ Lib.compareBytes a s → 0 < Lib.compareBytes b s
 | [], [], _, h, _ => by simp [Op.bytesLess] at h
 | [], _ :: _, [], _, _ => by simp [Lib.compareBytes]
 | [], _ :: _, _ :: _, _, h => by simp [Lib.compareBytes] at h
 | _ :: _, [], _, h, _ => by simp [Op.bytesLess] at h
 | _ :: _, _ :: _, [], _, _ => by simp [Lib.compareBytes]
 | x :: a, y :: b, z :: s, h, k => by
  have ih := cmp_next a b s
  unfold Op.bytesLess at h
  unfold Lib.compareBytes at k ⊢
  simp only [Bool.or_eq_true, decide_eq_true_eq, Bool.and_eq_true, beq_iff_eq] at h
  by_cases h1 : x < z
  ·simp [h1] at k
  ·have hzx : z ≤ x := UInt8.not_lt.1 h1
   rcases h with h | ⟨rfl, h⟩
   ·have hzy : z < y := UInt8.lt_of_le_of_lt hzx h
    have : ¬ y < z := fun h' => UInt8.lt_irrefl _ (UInt8.lt_trans hzy h')
    simp [hzy, this]
   ·simp only [h1, if_false] at k ⊢
    by_cases h2 : z < x
    ·simp [h2]
    ·simp only [h2, if_false] at k ⊢
     exact ih h k
theorem less_trans (a b c : List UInt8) (h : Op.bytesLess a b = true) (k : Op.bytesLess b c = true) : Op.bytesLess a c = true := by
 rcases Int.lt_or_le (Lib.compareBytes a c) 0 with g | g
 ·exact (cmp_lt a c).1 g
 ·have h1 := cmp_next a b c h g
  have h2 := (cmp_lt b c).2 k
  omega
theorem marktext_loop : ∀ (n : Nat) (s : ByteArray), n + s.size ≤ 2305843009213693952 → ∃ t, Ev (fun k => laws_markText.l0 k (n : Int) s) t := by
 intro n
 induction n using Nat.strongRecOn with
 | _ n ih =>
  intro s hs
  by_cases h : n = 0
  ·subst h
   exact ⟨_, st_laws_markText_l0 (ev_neg (by omega) (ev_pos (by omega) (ev_some rfl)))⟩
  ·have h1 : ∀ x : Int, (strOfNums [x]).size = 1 := fun x => by simp [strOfNums, ByteArray.size]
   obtain ⟨t, ht⟩ := ih (n / 10) (by omega) (strOfNums [(wrap64 (48 + (Int.tmod (n : Int) 10))) % 256] ++ s) (by rw [ByteArray.size_append, h1]; omega)
   refine ⟨t, st_laws_markText_l0 (ev_pos (by omega) (ev_bindc rfl (ev_pos (by rw [h1]; omega) ?_)))⟩
   rw [show wrap64 (Int.tdiv (n : Int) 10) = ((n / 10 : Nat) : Int) by rw [Int.tdiv_eq_ediv_of_nonneg (by omega), w64 (by omega) (by omega)]; omega]
   exact ht
theorem marktext_ev (c : Int) (h0 : 0 ≤ c) (h1 : c ≤ 2305843009213693952) : ∃ t, Ev (fun k => laws_markText.f k c) t := by
 unfold laws_markText.f
 by_cases h : c ≤ 0
 ·exact ⟨_, ev_pos h (ev_some rfl)⟩
 ·obtain ⟨t, ht⟩ := marktext_loop c.toNat (⟨#[]⟩ : ByteArray) (by simp [ByteArray.size]; omega)
  refine ⟨t, ev_neg h ?_⟩
  rw [Int.toNat_of_nonneg h0] at ht
  exact ht
def MarkStringS (x : ByteArray) (c d : Int) : Prop := Ev (fun k => laws_markText.f k c) x ∧ d = c + 1
theorem markStringS_ev (xs : List ByteArray) (hl : xs.length ≤ 1048576) (c : Int) (hc0 : 0 ≤ c) (hc1 : c ≤ 1152921504606846976) :
  ∃ ys d, Chain MarkStringS ys c d ∧ c ≤ d ∧ d ≤ c + 1 * xs.length ∧ ys.length = xs.length ∧ Ev (fun k => laws_markStringS.f k xs c) (d, ys) := by
 refine ev_mark (fun k zs c i => laws_markStringS.l0 k zs c (i : Int)) MarkStringS (fun _ => True) 1 (by omega) (by omega) ?_ ?_ xs (fun _ _ => trivial) hl c hc0 hc1
 ·intro zs c
  exact st_laws_markStringS_l0 (ev_neg (by omega) (ev_some rfl))
 ·intro zs c i hi h20 _ h0 h1
  obtain ⟨t, ht⟩ := marktext_ev c h0 h1
  refine ⟨t, _, ⟨ht, rfl⟩, by omega, by omega, fun r hr => st_laws_markStringS_l0 (ev_pos (by omega) (Ev.bind ht (ev_pos (by omega) ?_)))⟩
  simp only [Int.toNat_natCast, w64s i (by omega), w64 (n := c + 1) (by omega) (by omega)]
  exact hr
theorem heldStringS_ev (ys : List ByteArray) (hl : ys.length ≤ 1048576) (c d : Int) (hc0 : 0 ≤ c) (hd : d ≤ 2305843009213693952) (h : Chain MarkStringS ys c d) : Ev (fun k => laws_heldStringS.f k ys c) d := by
 refine ev_held (fun k ys c i => laws_heldStringS.l0 k ys c (i : Int)) MarkStringS (fun x c d h => by have := h.2; omega) ?_ ?_ ys hl c d hc0 hd h
 ·intro ys c
  exact st_laws_heldStringS_l0 (ev_neg (by omega) (ev_some rfl))
 ·intro ys c c' i hi h20 hE h0 h1 r hr
  obtain ⟨hE, rfl⟩ := hE
  refine st_laws_heldStringS_l0 (ev_pos (by omega) (ev_pos (by omega) (Ev.bind hE (ev_pos (by rw [rdOf_get hi]) ?_))))
  rw [w64s i (by omega), w64 (n := c + 1) (by omega) (by omega)]
  exact hr
theorem rd_set_self (l : List S41) (i : Nat) (v : S41) (h : i < l.length) : rd_T41 (l.set ((i : Int)).toNat v) (i : Int) = v := by
 simp [rd_T41, List.getD_eq_getElem?_getD, List.getElem?_set_self, h]
theorem markAssetS_at (l : List S41) (hx : l.length ≤ 1048576 ∧ ∀ y ∈ l, Fit41 y) (c0 : Int) (h00 : 0 ≤ c0) (h01 : c0 ≤ 4398046511104) : ∃ p, Ev (fun k => laws_markAssetS.f k l c0) p ∧ 0 ≤ p.1 ∧ p.1 ≤ c0 + 3298534883328 := by
 refine ev_for l.length (fun k i (s : List S41 × Int) => laws_markAssetS.l0 k s.1 s.2 (i : Int)) (fun i s => s.1.length = l.length ∧ (∀ j, i ≤ j → j < l.length → s.1[j]? = l[j]?) ∧ 0 ≤ s.2 ∧ s.2 ≤ c0 + 3145728 * (i : Int)) (fun p => 0 ≤ p.1 ∧ p.1 ≤ c0 + 3298534883328) ?_ ?_ 0 (l, c0) (Nat.zero_le _) ⟨rfl, fun _ _ _ => rfl, h00, by show c0 ≤ _; omega⟩
 ·rintro ⟨zs, c⟩ ⟨h1, _, h3, h4⟩
  have h4 : c ≤ c0 + 3145728 * (l.length : Int) := h4
  have hl := hx.1
  exact ⟨_, st_laws_markAssetS_l0 (ev_neg (by show ¬ (l.length : Int) < (zs.length : Int); have : zs.length = l.length := h1; omega) (ev_some rfl)), h3, by show c ≤ _; omega⟩
 ·rintro i ⟨zs, c⟩ hi ⟨h1, h2, h3, h4⟩
  have h1 : zs.length = l.length := h1
  have h3 : 0 ≤ c := h3
  have h4 : c ≤ c0 + 3145728 * (i : Int) := h4
  have hl := hx.1
  have hz : rd_T41 zs (i : Int) = l[i] := by
   have e : rd_T41 zs (i : Int) = zs[i] := getD_get (by omega)
   have h5 := h2 i (Nat.le_refl _) hi
   rw [List.getElem?_eq_getElem (by omega), List.getElem?_eq_getElem hi] at h5
   rw [e]; exact Option.some.inj h5
  have hf := hx.2 _ (List.getElem_mem hi)
  obtain ⟨t, ht⟩ := marktext_ev c h3 (by omega)
  obtain ⟨ys1, d1, _, g1, g2, g3, g4⟩ := markStringS_ev l[i].f1 hf.2.1.1 (c + 1) (by omega) (by omega)
  obtain ⟨ys2, d2, _, q1, q2, q3, q4⟩ := markByteS_ev l[i].f2 hf.2.2 d1 (by have := hf.2.1.1; omega) (by have := hf.2.1.1; omega)
  have f1 := hf.2.1.1
  have f2 := hf.2.2
  refine .inr ⟨(((zs.set ((i : Int)).toNat ⟨t, l[i].f1, l[i].f2⟩).set ((i : Int)).toNat ⟨t, ys1, l[i].f2⟩).set ((i : Int)).toNat ⟨t, ys1, ys2⟩, d2), ⟨by simp; exact h1, fun j hj hj2 => ?_, by show 0 ≤ d2; omega, by show d2 ≤ _; omega⟩, fun r hr => ?_⟩
  ·have hj' : i ≠ j := by omega
   simp only [Int.toNat_natCast]
   rw [List.getElem?_set_ne hj', List.getElem?_set_ne hj', List.getElem?_set_ne hj']
   exact h2 j (by omega) hj2
  ·refine st_laws_markAssetS_l0 (ev_pos (by omega) (Ev.bind ht (ev_pos (by omega) (ev_bindc rfl ?_))))
   rw [rd_set_self _ i _ (by omega), hz]
   have ew : wrap64 (c + 1) = c + 1 := w64 (by omega) (by omega)
   rw [ew]
   refine Ev.bind g4 (ev_bindc rfl ?_)
   rw [rd_set_self _ i _ (by simp; omega)]
   refine Ev.bind q4 ?_
   rw [w64s i (by omega)]
   exact hr
theorem less_irr (a : List UInt8) : Op.bytesLess a a = false := by
 induction a with
 | nil => rfl
 | cons x r ih => unfold Op.bytesLess; simp [ih]
theorem cnt_zero (l : List S41) (out : List ByteArray) : ∀ n, cnt l out n = 0 → ∀ i : Nat, i < n → hasB out (rd_T41 l (i : Int)).f0 = true
 | 0, _, i, hi => by omega
 | n + 1, h, i, hi => by
  unfold cnt at h
  by_cases h1 : hasB out (rd_T41 l (n : Int)).f0 = true
  ·rw [if_pos h1] at h
   by_cases e : i = n
   ·subst e; exact h1
   ·exact cnt_zero l out n (by omega) i (by omega)
  ·rw [if_neg h1] at h; omega
theorem order_full (l : List S41) (hx : l.length ≤ 1048576 ∧ ∀ y ∈ l, Fit41 y) (res : List ByteArray) (r : Ev (fun k => impl_makeOrder.f k l) res) (hlen : res.length = l.length) : ∀ i : Nat, i < l.length → hasB res (rd_T41 l (i : Int)).f0 = true := by
 obtain ⟨res', _, r2, r3⟩ := order_same l hx.1 (needs_fit l hx) (cnt l [] l.length) [] (Nat.le_refl _) (by have := cnt_le l [] l.length; simpa using this)
 obtain rfl := ev_unique r r2
 exact cnt_zero l res l.length (by omega)
theorem names_rise (l : List S41) (ok : ∀ i, i < l.length → AssetOk l i) : ∀ j i : Nat, i < j → j < l.length → Op.bytesLess (rd_T41 l (i : Int)).f0.toList (rd_T41 l (j : Int)).f0.toList = true := by
 intro j
 induction j with
 | zero => intro i hi; omega
 | succ j ih =>
  intro i hi hj
  have h := (ok (j + 1) hj).2.1 (by omega)
  have e : (((j + 1 : Nat) : Int) - 1) = (j : Int) := by omega
  rw [e] at h
  rcases Nat.lt_or_ge i j with h1 | h1
  ·exact less_trans _ _ _ (ih i h1 (by omega)) h
  ·obtain rfl : i = j := by omega
   exact h
theorem first_self (l : List S41) (ok : ∀ i, i < l.length → AssetOk l i) (i : Nat) (hi : i < l.length) : FirstAt l (rd_T41 l (i : Int)).f0 i := by
 refine ⟨hi, rfl, fun j hj e => ?_⟩
 have h := names_rise l ok i j hj hi
 rw [e, less_irr] at h
 cases h
theorem go_has (k : Nat) (l : List S41) : ∀ (ns : List ByteArray) (m m' : List (ByteArray × Int)), impl_stamps.go k l ns m = some m' → ∀ s, (Mp.get m' s).isSome = true ↔ (s ∈ ns ∨ (Mp.get m s).isSome = true)
 | [], m, m', h, s => by
  unfold impl_stamps.go at h
  obtain rfl := Option.some.inj h
  simp
 | nm :: r, m, m', h, s => by
  unfold impl_stamps.go at h
  obtain ⟨i, _, h⟩ := Option.bind_eq_some_iff.mp h
  split at h
  ·obtain ⟨d, _, h⟩ := Option.bind_eq_some_iff.mp h
   obtain ⟨v, _, h⟩ := Option.bind_eq_some_iff.mp h
   rw [go_has k l r _ _ h s, get_put]
   by_cases e : nm = s
   ·subst e; simp
   ·rw [if_neg e]
    have e' : s ≠ nm := fun x => e x.symm
    simp [e']
  ·cases h
theorem stamps_has (l : List S41) (hx : l.length ≤ 1048576 ∧ ∀ y ∈ l, Fit41 y) (res : List ByteArray) (r2 : Ev (fun k => impl_makeOrder.f k l) res) (hlen : res.length = l.length) (m : List (ByteArray × Int)) (hm : Ev (fun k => impl_stamps.f k l) m) : ∀ s, (Mp.get m s).isSome = true ↔ AtS l s := by
 intro s
 have hgo : ∃ k, impl_stamps.go k l res [] = some m := by
  obtain ⟨K, hK⟩ := r2
  obtain ⟨K', hK'⟩ := hm
  have h1 : impl_makeOrder.f (max K K') l = some res := hK _ (Nat.le_max_left _ _)
  have h2 : (impl_makeOrder.f (max K K') l).bind (fun names => impl_stamps.go (max K K') l names []) = some m := hK' _ (Nat.le_max_right _ _)
  rw [h1] at h2
  exact ⟨_, h2⟩
 obtain ⟨k, hk⟩ := hgo
 rw [go_has k l res [] m hk s]
 constructor
 ·rintro (h | h)
  ·exact order_at l res r2 s h
  ·simp [Mp.get] at h
 ·rintro ⟨q, hq, e⟩
  have h := order_full l hx res r2 hlen q hq
  rw [toList_inj e] at h
  unfold hasB at h
  obtain ⟨y, hy, e2⟩ := List.any_eq_true.1 h
  refine .inl ?_
  have : y = s := toList_inj (by simpa using e2)
  rw [← this]; exact hy
theorem stale_loop (old now : List S41) (hlo : old.length ≤ 1048576) (hx : now.length ≤ 1048576 ∧ ∀ y ∈ now, Fit41 y) (m1 m2 : List (ByteArray × Int)) (o1 o2 : List Int) (R1 : Rel old m1 o1) (L1 : o1.length = old.length) (S1 : ∀ s, (Mp.get m1 s).isSome = true ↔ AtS old s) (R2 : Rel now m2 o2) (L2 : o2.length = now.length) (ok : ∀ i, i < now.length → AssetOk now i) :
  ∀ (n i : Nat) (d : List ByteArray), i + n = now.length → d.length ≤ i → (∀ y ∈ d, y.size ≤ 1048576) → ∃ dd, impl_StaleBetween.go m1 m2 (now.drop i) d = some dd ∧ Ev (fun k => spec_StaleBetween.l0 k old o1 o2 d now (now.length : Int) (i : Int)) (dd, true) ∧ dd.length ≤ now.length ∧ ∀ y ∈ dd, y.size ≤ 1048576 := by
 intro n
 induction n with
 | zero =>
  intro i d hi hd hf
  obtain rfl : i = now.length := by omega
  rw [List.drop_length]
  exact ⟨d, rfl, st_spec_StaleBetween_l0 (ev_neg (by omega) (ev_some rfl)), hd, hf⟩
 | succ n ih =>
  intro i d hi hd hf
  have hl := hx.1
  have hil : i < now.length := by omega
  have c0 : (0 : Int) ≤ (i : Int) := by omega
  have c1 : (i : Int) < (now.length : Int) := by omega
  have c2 : (i : Int) < (o2.length : Int) := by omega
  have hd9 : d.length < 8796093022208 := by omega
  have hd1 : (d ++ [now[i].f0]).length ≤ i + 1 := by simp; omega
  have hi1 : i + 1 + n = now.length := by omega
  have hi2 : d.length ≤ i + 1 := by omega
  have ew : wrap64 ((i : Int) + 1) = ((i + 1 : Nat) : Int) := w64s i (by omega)
  have hat := first_self now ok i hil
  have e0 : rd_T41 now (i : Int) = now[i] := getD_get hil
  have hfa : now[i].f0.size ≤ 1048576 := (hx.2 _ (List.getElem_mem hil)).1
  rw [List.drop_eq_getElem_cons hil]
  obtain ⟨a, ha⟩ : ∃ a, a = now[i] := ⟨_, rfl⟩
  rw [← ha] at e0 hfa hd1 ⊢
  rw [e0] at hat
  obtain ⟨hg2, _⟩ := R2 _ i hat
  have hf' : ∀ y ∈ d ++ [a.f0], y.size ≤ 1048576 := fun y hy => (List.mem_append.1 hy).elim (hf y) (fun h => by rw [List.mem_singleton.1 h]; exact hfa)
  obtain ⟨d1, p1, p2, p3, p4⟩ := ih (i + 1) (d ++ [a.f0]) hi1 hd1 hf'
  obtain ⟨d2, q1, q2, q3, q4⟩ := ih (i + 1) d hi1 hi2 hf
  unfold impl_StaleBetween.go
  rcases first_of old hlo a.f0 with ⟨hno, h1, _⟩ | ⟨q, hq, h1, _⟩
  ·have hn : ¬ Mp.get m1 a.f0 = some ((Mp.get m2 a.f0).getD 0) := fun e => hno ((S1 _).1 (by rw [e]; rfl))
   refine ⟨d1, ?_, ?_, p3, p4⟩
   ·rw [if_neg hn, if_pos hd9]; exact p1
   ·refine st_spec_StaleBetween_l0 (ev_pos c1 (ev_pos c0 (ev_pos c1 (Ev.bind (by rw [e0]; exact h1) (ev_pos (by decide) (ev_pos hd9 ?_))))))
    rw [ew, e0]; exact p2
  ·have hs : (Mp.get m1 a.f0).isSome = true := (S1 _).2 ⟨q, hq.1, by rw [hq.2.1]⟩
   obtain ⟨v, hv⟩ := Option.isSome_iff_exists.1 hs
   obtain ⟨hg1, _⟩ := R1 _ q hq
   rw [hv, Option.getD_some] at hg1
   have hql := hq.1
   have q0 : (0 : Int) ≤ (q : Int) := Int.natCast_nonneg q
   have q9 : ¬ (q : Int) < 0 := Int.not_lt.2 q0
   have q8 : (q : Int) < (o1.length : Int) := by rw [L1]; exact Int.ofNat_lt.2 hql
   by_cases e : v = rd o2 (i : Int)
   ·refine ⟨d2, ?_, ?_, q3, q4⟩
    ·rw [hv, hg2, if_pos (by rw [e])]; exact q1
    ·refine st_spec_StaleBetween_l0 (ev_pos c1 (ev_pos c0 (ev_pos c1 (Ev.bind (by rw [e0]; exact h1) (ev_neg q9 (ev_pos q0 (ev_pos q8 (ev_pos c2 (ev_pos (by rw [← hg1]; exact e) ?_)))))))))
     rw [ew]; exact q2
   ·refine ⟨d1, ?_, ?_, p3, p4⟩
    ·rw [hv, hg2, if_neg (fun h => e (Option.some.inj h)), if_pos hd9]; exact p1
    ·refine st_spec_StaleBetween_l0 (ev_pos c1 (ev_pos c0 (ev_pos c1 (Ev.bind (by rw [e0]; exact h1) (ev_neg q9 (ev_pos q0 (ev_pos q8 (ev_pos c2 (ev_neg (by rw [← hg1]; exact e) (ev_pos hd9 ?_))))))))))
     rw [ew, e0]; exact p2
theorem stale_same (old now : List S41) (ho : old.length ≤ 1048576 ∧ ∀ y ∈ old, Fit41 y) (hn : now.length ≤ 1048576 ∧ ∀ y ∈ now, Fit41 y) (hbo : ∀ i, i < old.length → ∀ x ∈ (rd_T41 old (i : Int)).f2, Byte x) (hbn : ∀ i, i < now.length → ∀ x ∈ (rd_T41 now (i : Int)).f2, Byte x) :
  ∃ d b, Ev (fun k => spec_StaleBetween.f k old now) (d, b) ∧ Ev (fun k => impl_StaleBetween.f k old now) (d, b) ∧ d.length ≤ 1048576 ∧ ∀ y ∈ d, y.size ≤ 1048576 := by
 obtain ⟨r1, b1, s1, i1, l1, k1, g1, f1⟩ := assets_same old ho
 obtain ⟨r2, b2, s2, i2, l2, k2, g2, f2⟩ := assets_same now hn
 cases b1 with
 | false => exact ⟨[], false, Ev.bind g1 (ev_neg (by decide) (st_spec_StaleBetween_j0 (ev_pos rfl (ev_some rfl)))), Ev.bind f1 (ev_neg (by decide) (ev_some rfl)), by simp, fun y hy => by cases hy⟩
 | true =>
  cases b2 with
  | false => exact ⟨[], false, Ev.bind g1 (ev_pos rfl (Ev.bind g2 (st_spec_StaleBetween_j0 (ev_pos rfl (ev_some rfl))))), Ev.bind f1 (ev_pos rfl (Ev.bind f2 (ev_neg (by decide) (ev_some rfl)))), by simp, fun y hy => by cases hy⟩
  | true =>
   obtain ⟨_, ok1, e1⟩ := k1.1 rfl
   obtain ⟨_, ok2, e2⟩ := k2.1 rfl
   obtain ⟨m1, o1, a1, a2, a3, a4⟩ := stamps_same old ho.1 hbo r1 s1 i1 l1 ok1
   obtain ⟨m2, o2, c1, c2, c3, c4⟩ := stamps_same now hn.1 hbn r2 s2 i2 l2 ok2
   obtain ⟨d, p1, p2, p3, p4⟩ := stale_loop old now ho.1 hn m1 m2 o1 o2 a3 a4 (stamps_has old ho r1 i1 e1 m1 a1) c3 c4 ok2 now.length 0 [] (by omega) (by simp) (fun y hy => by cases hy)
   rw [List.drop_zero] at p1
   exact ⟨d, true, Ev.bind g1 (ev_pos rfl (Ev.bind g2 (st_spec_StaleBetween_j0 (ev_neg (by decide) (Ev.bind a2 (Ev.bind c2 p2)))))), Ev.bind f1 (ev_pos rfl (Ev.bind f2 (ev_pos rfl (Ev.bind a1 (Ev.bind c1 (ev_bindc p1 (ev_some rfl))))))), by have := hn.1; omega, p4⟩
theorem cv_good (xs : List (S37)) (gl : xs.length * 64 ≤ 140737488351232 ∧ ∀ y ∈ xs, Ok37 y) (hx : xs.length ≤ 1048576 ∧ ∀ y ∈ xs, Fit37 y) : ((xs.map cv37).length ≤ 1048576 ∧ ∀ y ∈ xs.map cv37, Fit41 y) ∧ ∀ i, i < (xs.map cv37).length → ∀ x ∈ (rd_T41 (xs.map cv37) (i : Int)).f2, Byte x := by
 refine ⟨⟨by rw [List.length_map]; exact hx.1, fun y hy => by obtain ⟨z, hz, rfl⟩ := List.mem_map.1 hy; exact fit_cv37 (hx.2 z hz)⟩, ?_⟩
 intro i hi x hxm
 have e : rd_T41 (xs.map cv37) (i : Int) = (xs.map cv37)[i] := getD_get hi
 rw [e, List.getElem_map] at hxm
 have hi' : i < xs.length := by rw [List.length_map] at hi; exact hi
 have := gl.2 _ (List.getElem_mem hi')
 have h8 := this.2.2.2 x hxm
 unfold InU8 at h8
 unfold Byte
 omega
theorem FnExactStaleBetween : ∀ (l0 : List (S37)) (l1 : List (S37)), (l0.length * 64 ≤ 140737488351232 ∧ ∀ y ∈ l0, Ok37 y) → (l1.length * 64 ≤ 140737488351232 ∧ ∀ y ∈ l1, Ok37 y) → ∃ k, laws_FnExactStaleBetween.f k l0 l1 = some true := by
 intro xs ys gl gm
 refine Ev.rounds (g := fun k => laws_FnExactStaleBetween.f k xs ys) ?_
 obtain ⟨r, hr, h | ⟨h0, h1, hx⟩⟩ := szAssetS_some xs gl 1048576 (by omega) (by omega)
 ·exact Ev.bind hr (ev_pos h (ev_some rfl))
 ·obtain ⟨r', hr', h' | ⟨h0', h1', hy⟩⟩ := szAssetS_some ys gm r (by omega) (by omega)
  ·exact Ev.bind hr (ev_neg (by omega) (Ev.bind hr' (ev_pos h' (ev_some rfl))))
  ·have tx := toAssetS_ev xs hx
   have ty := toAssetS_ev ys hy
   obtain ⟨hx', hbx⟩ := cv_good xs gl hx
   obtain ⟨hy', hby⟩ := cv_good ys gm hy
   obtain ⟨res, b, hs, hi, hl, hf⟩ := stale_same (xs.map cv37) (ys.map cv37) hx' hy' hbx hby
   have ee := eqStringS_ev res ⟨hl, hf⟩
   obtain ⟨p, hm1, hp0, hp1⟩ := markAssetS_at (xs.map cv37) hx' 1 (by omega) (by omega)
   obtain ⟨p', hm1', hp0', hp1'⟩ := markAssetS_at (ys.map cv37) hy' p.1 hp0 (by omega)
   obtain ⟨y2, d2, hch, q0, q1, ml, hm2⟩ := markStringS_ev res hl 1 (by omega) (by omega)
   have hh := heldStringS_ev y2 (by omega) 1 d2 (by omega) (by omega) hch
   have eb : (b != b) = false := by simp
   refine Ev.bind hr (ev_neg (by omega) (Ev.bind hr' (ev_neg (by omega) (Ev.bind tx (Ev.bind ty (Ev.bind hs (Ev.bind tx (Ev.bind ty (Ev.bind hi (Ev.bind ee (ev_pos rfl ?_)))))))))))
   simp only [eb]
   refine st_laws_FnExactStaleBetween_j0 (ev_neg (by decide) (Ev.bind tx (Ev.bind (eqAssetS_ev _ hx') (ev_pos rfl (Ev.bind ty (Ev.bind (eqAssetS_ev _ hy') (ev_pos rfl (Ev.bind hm1 (Ev.bind hm1' (ev_neg (by omega) (Ev.bind ee (ev_pos rfl ?_))))))))))))
   simp only [eb]
   refine st_laws_FnExactStaleBetween_j1 (ev_neg (by decide) (Ev.bind hm2 (Ev.bind hh (ev_neg (by omega) (ev_pos rfl (Ev.bind tx (Ev.bind ty (Ev.bind hi (Ev.bind ee (ev_pos rfl ?_))))))))))
   simp only [eb]
   exact st_laws_FnExactStaleBetween_j2 (ev_neg (by decide) (Ev.bind hh (ev_neg (by omega) (ev_pos rfl (ev_some rfl)))))
end Go.Proofs.Ytehkpnnidbghhab.Pure
