/- Texts of a row. -/
import Derived.Test.YtnacjhgpanedoabZFnPushed3
import Derived.Test.YtnacjhgpanedoabZFnPushed4
namespace Go.Proofs.Ytnacjhgpanedoab.PFnPushed
open Go.RowKit Go.Proofs.YtnacjhgpanedoabW.PrintWords Go.Proofs.YtnacjhgpanedoabW.PrintLast Go.Proofs.YtnacjhgpanedoabW.PrintMore
attribute [local go_sem] max2_int min2_int max_two min_two max_three min_three max_four min_four   -- for this text's walks alone
set_option linter.unusedVariables false
set_option linter.unusedSimpArgs false
mutual
def spec_l10Push.j0 : Nat → List (S33) → Int → Int → Bool → Option ((List (S33)) × Bool)
 | 0, _, _, _, _ => none
 | k + 1, x0, x1, x2, x24 => if x24 = true then (some (([] : List (S33)), false)) else ((some (([] : List (S33)) : List (S33))).bind fun y293 => (if y293.length + x0.length < 4398046511104 then (spec_l10Push.l0 k x1 x2 (y293 ++ x0)) else (none)))
def spec_l10Push.l0 : Nat → Int → Int → List (S33) → Option ((List (S33)) × Bool)
 | 0, _, _, _ => none
 | k + 1, x1, x2, x8 => if x2 > 0 then (spec_l10Push.l1 k x1 x2 x8 0) else (some (x8, true))
def spec_l10Push.l1 : Nat → Int → Int → List (S33) → Int → Option ((List (S33)) × Bool)
 | 0, _, _, _, _ => none
 | k + 1, x1, x2, x8, x9 => if (wrap64 (x9 + 1)) < (x8.length : Int) then (if 0 ≤ x9 then (if x9 < (x8.length : Int) then (if 0 ≤ (wrap64 (x9 + 1)) then ((spec_l10Pair.f k ((rd_T33 x8 x9).f0) ((rd_T33 x8 x9).f1) ((rd_T33 x8 x9).f2) ((rd_T33 x8 x9).f3) ((rd_T33 x8 (wrap64 (x9 + 1))).f0) ((rd_T33 x8 (wrap64 (x9 + 1))).f1) ((rd_T33 x8 (wrap64 (x9 + 1))).f2) ((rd_T33 x8 (wrap64 (x9 + 1))).f3) x1).bind fun bt301 => ((spec_l10Body.f bt301.1 bt301.2.1 bt301.2.2.1 bt301.2.2.2.1).bind fun t311 => (if t311 = true then ((spec_l10Body.f bt301.2.2.2.2.1 bt301.2.2.2.2.2.1 bt301.2.2.2.2.2.2.1 bt301.2.2.2.2.2.2.2).bind fun t312 => (if t312 = true then (spec_l10Push.l1 k x1 x2 ((x8.set (x9 : Int).toNat (⟨bt301.1, bt301.2.1, bt301.2.2.1, bt301.2.2.2.1⟩ : S33)).set ((wrap64 (x9 + 1)) : Int).toNat (⟨bt301.2.2.2.2.1, bt301.2.2.2.2.2.1, bt301.2.2.2.2.2.2.1, bt301.2.2.2.2.2.2.2⟩ : S33)) (wrap64 (x9 + 1))) else (some (([] : List (S33)), false)))) else (some (([] : List (S33)), false))))) else (none)) else (none)) else (none)) else (spec_l10Push.l0 k x1 (wrap64 (x2 - 1)) x8)
end
def spec_l10Push.f (k : Nat) (l0 : List (S33)) (a1 : Int) (a2 : Int) : Option ((List (S33)) × Bool) := (spec_GoodLine.f k l0).bind fun t290 => (if t290 = true then ((spec_l10Bounce.f a1).bind fun t291 => (if t291 = true then ((spec_l1In.f a2 0 50).bind fun t292 => (spec_l10Push.j0 k l0 a1 a2 (!t292))) else (spec_l10Push.j0 k l0 a1 a2 true))) else (spec_l10Push.j0 k l0 a1 a2 true))
theorem spec_l10Push.mono_l : ∀ k, (∀ y0 y1 y2 y3, LeO (spec_l10Push.j0 k y0 y1 y2 y3) (spec_l10Push.j0 (k + 1) y0 y1 y2 y3)) ∧ (∀ y0 y1 y2, LeO (spec_l10Push.l0 k y0 y1 y2) (spec_l10Push.l0 (k + 1) y0 y1 y2)) ∧ (∀ y0 y1 y2 y3, LeO (spec_l10Push.l1 k y0 y1 y2 y3) (spec_l10Push.l1 (k + 1) y0 y1 y2 y3))
 | 0 => ⟨fun _ _ _ _ r h => by simp [spec_l10Push.j0] at h, fun _ _ _ r h => by simp [spec_l10Push.l0] at h, fun _ _ _ _ r h => by simp [spec_l10Push.l1] at h⟩
 | k + 1 => by
  obtain ⟨ih0, ih1, ih2⟩ := spec_l10Push.mono_l k
  refine ⟨?_, ?_, ?_⟩
  ·intro y0 y1 y2 y3
   unfold spec_l10Push.j0
   repeat' first
   | (with_reducible exact ih0 _ _ _ _)
   | (with_reducible exact ih1 _ _ _)
   | (with_reducible exact ih2 _ _ _ _)
   | (with_reducible exact spec_GoodLine.mono _ _)
   | (with_reducible exact spec_l10Pair.mono _ _ _ _ _ _ _ _ _ _)
   | (with_reducible first | exact LeO.refl _ | exact LeO.none _ | refine LeO.ite ?_ ?_ | refine LeO.bind ?_ (fun _ => ?_))
   | exact ih0 _ _ _ _
   | exact ih1 _ _ _
   | exact ih2 _ _ _ _
   | exact spec_GoodLine.mono _ _
   | exact spec_l10Pair.mono _ _ _ _ _ _ _ _ _ _ | exact LeO.none _ | refine LeO.ite ?_ ?_ | refine LeO.bind ?_ (fun _ => ?_)
  ·intro y0 y1 y2
   unfold spec_l10Push.l0
   repeat' first
   | (with_reducible exact ih0 _ _ _ _)
   | (with_reducible exact ih1 _ _ _)
   | (with_reducible exact ih2 _ _ _ _)
   | (with_reducible exact spec_GoodLine.mono _ _)
   | (with_reducible exact spec_l10Pair.mono _ _ _ _ _ _ _ _ _ _)
   | (with_reducible first | exact LeO.refl _ | exact LeO.none _ | refine LeO.ite ?_ ?_ | refine LeO.bind ?_ (fun _ => ?_))
   | exact ih0 _ _ _ _
   | exact ih1 _ _ _
   | exact ih2 _ _ _ _
   | exact spec_GoodLine.mono _ _
   | exact spec_l10Pair.mono _ _ _ _ _ _ _ _ _ _ | exact LeO.none _ | refine LeO.ite ?_ ?_ | refine LeO.bind ?_ (fun _ => ?_)
  ·intro y0 y1 y2 y3
   unfold spec_l10Push.l1
   repeat' first
   | (with_reducible exact ih0 _ _ _ _)
   | (with_reducible exact ih1 _ _ _)
   | (with_reducible exact ih2 _ _ _ _)
   | (with_reducible exact spec_GoodLine.mono _ _)
   | (with_reducible exact spec_l10Pair.mono _ _ _ _ _ _ _ _ _ _)
   | (with_reducible first | exact LeO.refl _ | exact LeO.none _ | refine LeO.ite ?_ ?_ | refine LeO.bind ?_ (fun _ => ?_))
   | exact ih0 _ _ _ _
   | exact ih1 _ _ _
   | exact ih2 _ _ _ _
   | exact spec_GoodLine.mono _ _
   | exact spec_l10Pair.mono _ _ _ _ _ _ _ _ _ _ | exact LeO.none _ | refine LeO.ite ?_ ?_ | refine LeO.bind ?_ (fun _ => ?_)
theorem spec_l10Push.mono : ∀ a0 a1 a2 k, LeO (spec_l10Push.f k a0 a1 a2) (spec_l10Push.f (k + 1) a0 a1 a2) := by
 intro a0 a1 a2 k
 obtain ⟨ih0, ih1, ih2⟩ := spec_l10Push.mono_l k
 unfold spec_l10Push.f
 repeat' first
   | (with_reducible exact ih0 _ _ _ _)
   | (with_reducible exact ih1 _ _ _)
   | (with_reducible exact ih2 _ _ _ _)
   | (with_reducible exact spec_GoodLine.mono _ _)
   | (with_reducible exact spec_l10Pair.mono _ _ _ _ _ _ _ _ _ _)
   | (with_reducible first | exact LeO.refl _ | exact LeO.none _ | refine LeO.ite ?_ ?_ | refine LeO.bind ?_ (fun _ => ?_))
   | exact ih0 _ _ _ _
   | exact ih1 _ _ _
   | exact ih2 _ _ _ _
   | exact spec_GoodLine.mono _ _
   | exact spec_l10Pair.mono _ _ _ _ _ _ _ _ _ _ | exact LeO.none _ | refine LeO.ite ?_ ?_ | refine LeO.bind ?_ (fun _ => ?_)
def spec_l10Push.T9 : Bool × List (List Nat × List Nat) := (true, [([], []), ([], []), ([0, 1], [0, 1]), ([2], [2]), ([], []), ([], []), ([5], [5]), ([4, 6], [4, 6]), ([7], [7]), ([], []), ([3, 8, 9], [3, 8, 9]), ([10], [10]), ([11], [11]), ([11], [11]), ([], []), ([], []), ([14, 12, 10, 0, 1, 2, 3, 4, 5, 6, 7, 8, 9, 10, 11, 12, 14, 15], [12, 14]), ([15, 13, 16, 0, 1, 2, 3, 4, 5, 6, 7, 8, 9, 10, 11, 12, 13, 14, 15, 16], [13, 15])])
def spec_l10Push.B9 : List Nat := [0, 0, 3, 7, 0, 0, 32, 112, 240, 0, 1023, 2047, 4095, 4095, 0, 0, 57343, 131071]
theorem spec_l10Push.tab9 : rtab .any (opsOf Try.f24 9) = spec_l10Push.T9 := by kernel_rfl
theorem spec_l10Push.bits9 : waitsOk spec_l10Push.T9.2 spec_l10Push.B9 = true := by kernel_rfl
set_option maxHeartbeats 8000000 in
set_option maxRecDepth 100000 in
theorem spec_l10Push.calls (k : Nat) (A0 : Option Addr) (c0 : Nat) (l0 : List (S33)) (a1 : Int) (a2 : Int) (r1 : List (S33)) (r2 : Bool) (w : World) (hr0 : Kd.C k33 w A0 l0.length l0) (hc0 : l0.length ≤ c0) (h : spec_l10Push.f k l0 a1 a2 = some (r1, r2)) :
  Calls Try.prog 24 #[.slice A0 l0.length c0, .int .i64 a1, .int .i64 a2] w fun e w' => ∃ v0_ : Value, e = .returned (.tuple #[v0_, .bool r2]) ∧ Kd.R k33 33 w' w.heap.size (fun _ => True) v0_ r1 ∧ Below w.heap.size w w' := by
 have hu33 := Try.underlying33
 have HR0 := Aside0.mk hr0
 have HC0 := Aside0.mk hc0
 clear hr0 hc0
 have HB := Aside0.mk (Below.refl w.heap.size w)
 have H : ((spec_GoodLine.f k l0).bind fun t290 => (if t290 = true then ((spec_l10Bounce.f a1).bind fun t291 => (if t291 = true then ((spec_l1In.f a2 0 50).bind fun t292 => (spec_l10Push.j0 k l0 a1 a2 (!t292))) else (spec_l10Push.j0 k l0 a1 a2 true))) else (spec_l10Push.j0 k l0 a1 a2 true))) = some (r1, r2) := h
 clear h
 have HC4 := Aside0.mk H
 clear H
 go_enter Try.func24, Try.ntmps24
 go_upto_region 1 with (fail)
 go_cut [24] (fun v24 wc => ∃ (kq : Nat) (x24_3 : Bool), v24 = .bool x24_3 ∧ Aside0 (spec_l10Push.j0 kq l0 a1 a2 x24_3 = some (r1, r2)) ∧ Aside0 (kq ≤ k) ∧ Aside0 (Below w.heap.size w wc))
 case first =>
  have H := HC4.out
  clear HC4
  replace H := Option.bind_eq_some_iff.mp H
  obtain ⟨t290, A50, H⟩ := H
  replace H : (if t290 = true then ((spec_l10Bounce.f a1).bind fun t291 => (if t291 = true then ((spec_l1In.f a2 0 50).bind fun t292 => (spec_l10Push.j0 k l0 a1 a2 (!t292))) else (spec_l10Push.j0 k l0 a1 a2 true))) else (spec_l10Push.j0 k l0 a1 a2 true)) = some (r1, r2) := H
  have A5 := Aside0.mk A50
  clear A50
  by_cases c6 : t290 = true
  ·subst c6
   have H1 : ((spec_l10Bounce.f a1).bind fun t291 => (if t291 = true then ((spec_l1In.f a2 0 50).bind fun t292 => (spec_l10Push.j0 k l0 a1 a2 (!t292))) else (spec_l10Push.j0 k l0 a1 a2 true))) = some (r1, r2) := by rw [if_pos rfl] at H; exact H
   clear H
   have H := H1
   clear H1
   replace H := Option.bind_eq_some_iff.mp H
   obtain ⟨t291, A70, H⟩ := H
   replace H : (if t291 = true then ((spec_l1In.f a2 0 50).bind fun t292 => (spec_l10Push.j0 k l0 a1 a2 (!t292))) else (spec_l10Push.j0 k l0 a1 a2 true)) = some (r1, r2) := H
   have A7 := Aside0.mk A70
   clear A70
   by_cases c8 : t291 = true
   ·subst c8
    have H1 : ((spec_l1In.f a2 0 50).bind fun t292 => (spec_l10Push.j0 k l0 a1 a2 (!t292))) = some (r1, r2) := by rw [if_pos rfl] at H; exact H
    clear H
    have H := H1
    clear H1
    replace H := Option.bind_eq_some_iff.mp H
    obtain ⟨t292, A90, H⟩ := H
    replace H : (spec_l10Push.j0 k l0 a1 a2 (!t292)) = some (r1, r2) := H
    have A9 := Aside0.mk A90
    clear A90
    have H' := Aside0.mk H
    clear H
    go_wp2_with (first | ((with_reducible refine gate_callee (f := 32) rfl ?_); refine goesL_ (some 13) rfl rfl Try.func32 (by kernel_rfl) rfl #[.slice A0 l0.length c0] rfl aE ?_; (with_reducible refine (spec_GoodLine.calls k _ _ l0 true _ ?side1 ?side2 A5.out).mono ?_); (case side1 => exact cU (Kd.C_below HR0.out HB.out)); (case side2 => exact HC0.out); rintro e w10 ⟨rfl, hb⟩; refine ⟨_, rfl, ?_⟩; replace HB := bH (lU) hb; (try clear hb)) | (go_at_call 33; (with_reducible refine (spec_l10Bounce.calls a1 true _ A7.out).mono ?_); rintro e w' ⟨rfl, ⟨nd, rfl⟩⟩) | (go_at_call 34; (with_reducible refine (spec_l1In.calls a2 0 50 t292 _ A9.out).mono ?_); rintro e w' ⟨rfl, ⟨nd, rfl⟩⟩))
    go_meet
    case rel => exact ⟨_, (!t292), tE, H', ⟨by first | omega | exact Nat.le_refl _⟩, ⟨by repeat (first | (with_reducible first | exact HB.out | apply below_alloc | apply pw_below_drewN | apply below_drew1) | exact HB.out)⟩⟩
   ·replace c8 := Bool.eq_false_iff.mpr c8
    subst c8
    have H1 : (spec_l10Push.j0 k l0 a1 a2 true) = some (r1, r2) := by rw [if_neg (show ¬ (false = true) by decide)] at H; exact H
    clear H
    have H := H1
    clear H1
    have H' := Aside0.mk H
    clear H
    go_wp2_with (first | ((with_reducible refine gate_callee (f := 32) rfl ?_); refine goesL_ (some 13) rfl rfl Try.func32 (by kernel_rfl) rfl #[.slice A0 l0.length c0] rfl aE ?_; (with_reducible refine (spec_GoodLine.calls k _ _ l0 true _ ?side1 ?side2 A5.out).mono ?_); (case side1 => exact cU (Kd.C_below HR0.out HB.out)); (case side2 => exact HC0.out); rintro e w11 ⟨rfl, hb⟩; refine ⟨_, rfl, ?_⟩; replace HB := bH (lU) hb; (try clear hb)) | (go_at_call 33; (with_reducible refine (spec_l10Bounce.calls a1 false _ A7.out).mono ?_); rintro e w' ⟨rfl, ⟨nd, rfl⟩⟩))
    go_meet
    case rel => exact ⟨_, (true), tE, H', ⟨by first | omega | exact Nat.le_refl _⟩, ⟨by repeat (first | (with_reducible first | exact HB.out | apply below_alloc | apply pw_below_drewN | apply below_drew1) | exact HB.out)⟩⟩
  ·replace c6 := Bool.eq_false_iff.mpr c6
   subst c6
   have H1 : (spec_l10Push.j0 k l0 a1 a2 true) = some (r1, r2) := by rw [if_neg (show ¬ (false = true) by decide)] at H; exact H
   clear H
   have H := H1
   clear H1
   have H' := Aside0.mk H
   clear H
   go_wp2_with (first | ((with_reducible refine gate_callee (f := 32) rfl ?_); refine goesL_ (some 13) rfl rfl Try.func32 (by kernel_rfl) rfl #[.slice A0 l0.length c0] rfl aE ?_; (with_reducible refine (spec_GoodLine.calls k _ _ l0 false _ ?side1 ?side2 A5.out).mono ?_); (case side1 => exact cU (Kd.C_below HR0.out HB.out)); (case side2 => exact HC0.out); rintro e w12 ⟨rfl, hb⟩; refine ⟨_, rfl, ?_⟩; replace HB := bH (lU) hb; (try clear hb)))
   go_meet
   case rel => exact ⟨_, (true), tE, H', ⟨by first | omega | exact Nat.le_refl _⟩, ⟨by repeat (first | (with_reducible first | exact HB.out | apply below_alloc | apply pw_below_drewN | apply below_drew1) | exact HB.out)⟩⟩
 case rest =>
  clear HC4
  obtain ⟨kq, x24_3, rfl, HA, HJ3, HB⟩ := hcut
  cases kq with
  | zero => exact absurd HA.out (by simp [spec_l10Push.j0])
  | succ kj3 =>
   have H := HA.out
   clear HA
   simp only [spec_l10Push.j0] at H
   by_cases c13 : x24_3 = true
   ·subst c13
    have H1 : (some (([] : List (S33)), false)) = some (r1, r2) := by rw [if_pos rfl] at H; exact H
    clear H
    have H := H1
    clear H1
    simp only [Option.some.injEq, Prod.mk.injEq] at H
    obtain ⟨rfl, rfl⟩ := H
    go_wp2
    go_ret2
    exact ⟨_, eE, by first | exact Kd.R_nil _ _ _ _ _ | exact Kd.N_nil _ _ _ _ _ | exact Kd.V_nil _ _ _ _ _ | exact Kd.Q_nil _ _ _ _ _ | exact Kd.S_nil _ _ _ _ _, lU⟩
   ·replace c13 := Bool.eq_false_iff.mpr c13
    subst c13
    have H1 : ((some (([] : List (S33)) : List (S33))).bind fun y293 => (if y293.length + l0.length < 4398046511104 then (spec_l10Push.l0 kj3 a1 a2 (y293 ++ l0)) else (none))) = some (r1, r2) := by rw [if_neg (show ¬ (false = true) by decide)] at H; exact H
    clear H
    have H := H1
    clear H1
    obtain ⟨y293, hy293⟩ : ∃ y_ : List (S33), y_ = (([] : List (S33))) := ⟨_, rfl⟩
    replace H : (if y293.length + l0.length < 4398046511104 then (spec_l10Push.l0 kj3 a1 a2 (y293 ++ l0)) else (none)) = some (r1, r2) := by first | (rw [hy293]; with_reducible exact H) | (have H2_ := (Option.bind_some _ _).symm.trans H; rw [hy293]; with_reducible exact H2_) | (have H2_ := (Option.bind_some _ _).symm.trans H; with_reducible exact H2_) | with_reducible exact H | (rw [hy293]; exact H) | exact H
    have Ny293 := Aside0.mk hy293
    clear hy293
    by_cases c14 : y293.length + l0.length < 4398046511104
    ·rw [if_pos c14] at H
     have LMc14 := Aside0.mk c14
     clear c14
     obtain ⟨y296, hy296⟩ : ∃ y_ : List (S33), y_ = (y293 ++ l0) := ⟨_, rfl⟩
     replace H : (spec_l10Push.l0 kj3 a1 a2 y296) = some (r1, r2) := by first | (rw [hy296]; with_reducible exact H) | (have H2_ := (Option.bind_some _ _).symm.trans H; rw [hy296]; with_reducible exact H2_) | (have H2_ := (Option.bind_some _ _).symm.trans H; with_reducible exact H2_) | with_reducible exact H | (rw [hy296]; exact H) | exact H
     have Ny296 := Aside0.mk hy296
     clear hy296
     have H' := Aside0.mk H
     clear H
     go_wp2_with (first | ((with_reducible refine gate_dst (N := 25) rfl ?_); refine Kd.R_lit k33 _ 33 ?hg (N := 25) ?hd (xs := ([] : List (S33))) (inner := []) (ok := fun _ => True) (okp := fun _ => True) ?hr ?hp (fun _ hk => hk) trivial (Below.refl _ _) (Nat.le_refl _) (by simp) ?_; (case hd => rfl); (case hg => rfl); (case hr => exact sE); (case hp => exact (Reps.none _ _)); intro v294 w15 ho16 hb hg_ hnew_; clear hg_ hnew_; (first | rw [← Ny293.out] at ho16 | (simp only [Int.reduceToNat] at ho16; rw [← Ny293.out] at ho16)); have HO295 := Aside0.mk (Kd.R_lower ho16 (below_size (lU))); replace HB := bH (lU) hb; clear hb ho16) | ((with_reducible refine gate_builtin (b := .append) (xs := #[.tmp 25, .tmp 26]) rfl ?_); at_builtin; refine Kd.R_append_rows k33 (w0 := w) w.heap.size rfl (.tmp 25) (.tmp 26) 23 33 (.agg #[(.int .i64 0), (.int .i64 0), (.int .i64 0), (.int .i64 0)]) 32 rfl Try.underlying23 info33 rfl (by decide) (by omega) v294 y293 l0 _ _ _ (fun _ => True) (fun _ => False) rfl rfl ?aO ?aR (fun _ _ h => h) (fun _ h => h.elim) ?aF ?aB ?aS ?aL ?_; (case aR => repeat (first | exact (Kd.C_below HR0.out HB.out) | exact (Kd.C_drewN (Kd.C_below HR0.out HB.out) _) | exact (Kd.C_drew (Kd.C_below HR0.out HB.out)) | exact (Kd.C_alloc (Kd.C_below HR0.out HB.out) _) | (with_reducible refine Kd.C_alloc ?_ _) | (with_reducible refine Kd.C_drewN ?_ _) | (with_reducible refine Kd.C_drew ?_))); (case aB => exact (lU)); (case aF => exact (fun _ _ => trivial)); (case aO => exact (rU HO295.out)); (case aS => exact (below_size (lU))); (case aL => have := LMc14.out; omega); intro v297 w17 ho hb hg hat; rw [← Ny296.out] at ho; replace HB := Aside0.mk hb; have HO298 := Aside0.mk ho; clear HO295; clear ho hb hg hat))
     (try simp only [Act.put, List.setIfInBounds_toArray, List.set_cons_zero, List.set_cons_succ])
     go_loopg [2] kj3 (fun kq v2 w' => ∃ (x2_2 : Int) (x8_2 : List (S33)), v2 = .int .i64 x2_2 ∧ Aside0 (spec_l10Push.l0 kq a1 x2_2 x8_2 = some (r1, r2)) ∧ Aside0 (kq ≤ kj3) ∧ Aside0 (Kd.R k33 33 w' w.heap.size (fun _ => True) v297 x8_2) ∧ Aside0 (Below w.heap.size w w'))
     case atStart => exact ⟨(a2), (y296), tE, H', ⟨Nat.le_refl _⟩, ⟨by (with_reducible repeat (first | apply Kd.R_alloc | apply Kd.R_drewN | apply Kd.R_drew)); exact HO298.out⟩, ⟨by repeat (first | (with_reducible first | exact HB.out | apply below_alloc | apply pw_below_drewN | apply below_drew1) | exact HB.out)⟩⟩
     case round =>
      clear H'
      try clear c13; try clear c14
      obtain ⟨x2_2, x8_2, rfl, HA, HK2, HO_8, HB⟩ := hrel
      cases gk with
      | zero => exact absurd HA.out (by simp [spec_l10Push.l0])
      | succ k2 =>
       have H := HA.out
       clear HA
       simp only [spec_l10Push.l0] at H
       by_cases c18 : x2_2 > 0
       ·rw [if_pos c18] at H
        have c18b0 : decide (0 < x2_2) = true := decide_eq_true c18
        clear c18
        have H' := Aside0.mk H
        clear H
        go_wp2
        go_loopg [9] k2 (fun kq v9 w' => ∃ (x8_3 : List (S33)) (x9_3 : Int), v9 = .int .i64 x9_3 ∧ Aside0 (spec_l10Push.l1 kq a1 x2_2 x8_3 x9_3 = some (r1, r2)) ∧ Aside0 (kq ≤ k2) ∧ Aside0 (Kd.R k33 33 w' w.heap.size (fun _ => True) v297 x8_3) ∧ Aside0 (Below w.heap.size w w'))
        case atStart => exact ⟨(x8_2), (0), tE, H', ⟨Nat.le_refl _⟩, ⟨by (with_reducible repeat (first | apply Kd.R_alloc | apply Kd.R_drewN | apply Kd.R_drew)); exact HO_8.out⟩, ⟨by repeat (first | (with_reducible first | exact HB.out | apply below_alloc | apply pw_below_drewN | apply below_drew1) | exact HB.out)⟩⟩
        case round =>
         clear H'
         try clear c13; try clear c14; try clear c18; try clear c18b0
         obtain ⟨x8_3, x9_3, rfl, HA, HK3, HO_8, HB⟩ := hrel
         cases gk with
         | zero => exact absurd HA.out (by simp [spec_l10Push.l1])
         | succ k3 =>
          have H := HA.out
          clear HA
          simp only [spec_l10Push.l1] at H
          by_cases c19 : (wrap64 (x9_3 + 1)) < (x8_3.length : Int)
          ·rw [if_pos c19] at H
           have c19b0 : decide ((wrap64 (x9_3 + 1)) < (x8_3.length : Int)) = true := decide_eq_true c19
           clear c19
           by_cases c20 : 0 ≤ x9_3
           ·rw [if_pos c20] at H
            have c20b0 : decide (0 ≤ x9_3) = true := decide_eq_true c20
            clear c20
            by_cases c21 : x9_3 < (x8_3.length : Int)
            ·rw [if_pos c21] at H
             have c21b0 : decide (x9_3 < (x8_3.length : Int)) = true := decide_eq_true c21
             clear c21
             obtain ⟨ji22, hji22⟩ : ∃ j_ : Int, (wrap64 (x9_3 + 1)) = j_ := ⟨_, rfl⟩
             replace H : (if 0 ≤ (ji22) then ((spec_l10Pair.f k3 ((rd_T33 x8_3 x9_3).f0) ((rd_T33 x8_3 x9_3).f1) ((rd_T33 x8_3 x9_3).f2) ((rd_T33 x8_3 x9_3).f3) ((rd_T33 x8_3 (ji22)).f0) ((rd_T33 x8_3 (ji22)).f1) ((rd_T33 x8_3 (ji22)).f2) ((rd_T33 x8_3 (ji22)).f3) a1).bind fun bt301 => ((spec_l10Body.f bt301.1 bt301.2.1 bt301.2.2.1 bt301.2.2.2.1).bind fun t311 => (if t311 = true then ((spec_l10Body.f bt301.2.2.2.2.1 bt301.2.2.2.2.2.1 bt301.2.2.2.2.2.2.1 bt301.2.2.2.2.2.2.2).bind fun t312 => (if t312 = true then (spec_l10Push.l1 k3 a1 x2_2 ((x8_3.set (x9_3 : Int).toNat (⟨bt301.1, bt301.2.1, bt301.2.2.1, bt301.2.2.2.1⟩ : S33)).set ((ji22) : Int).toNat (⟨bt301.2.2.2.2.1, bt301.2.2.2.2.2.1, bt301.2.2.2.2.2.2.1, bt301.2.2.2.2.2.2.2⟩ : S33)) ji22) else (some (([] : List (S33)), false)))) else (some (([] : List (S33)), false))))) else (none)) = some (r1, r2) := by first | (rw [hji22] at H; exact H) | (simp only [hji22] at H ⊢; exact H)
             (try rw [hji22] at c19b0)
             have hji22w : (IntKind.i64.wrap (x9_3 + 1)) = ji22 := (i64_w _).trans hji22
             by_cases c23 : 0 ≤ (ji22)
             ·rw [if_pos c23] at H
              have c23b0 : decide (0 ≤ (ji22)) = true := decide_eq_true c23
              clear c23
              replace H := Option.bind_eq_some_iff.mp H
              obtain ⟨⟨t301, t302, t303, t304, t305, t306, t307, t308⟩, A240, H⟩ := H
              replace H : ((spec_l10Body.f t301 t302 t303 t304).bind fun t311 => (if t311 = true then ((spec_l10Body.f t305 t306 t307 t308).bind fun t312 => (if t312 = true then (spec_l10Push.l1 k3 a1 x2_2 ((x8_3.set (x9_3 : Int).toNat (⟨t301, t302, t303, t304⟩ : S33)).set ((ji22) : Int).toNat (⟨t305, t306, t307, t308⟩ : S33)) ji22) else (some (([] : List (S33)), false)))) else (some (([] : List (S33)), false)))) = some (r1, r2) := H
              have A24 := Aside0.mk A240
              clear A240
              replace H := Option.bind_eq_some_iff.mp H
              obtain ⟨t311, A250, H⟩ := H
              replace H : (if t311 = true then ((spec_l10Body.f t305 t306 t307 t308).bind fun t312 => (if t312 = true then (spec_l10Push.l1 k3 a1 x2_2 ((x8_3.set (x9_3 : Int).toNat (⟨t301, t302, t303, t304⟩ : S33)).set ((ji22) : Int).toNat (⟨t305, t306, t307, t308⟩ : S33)) ji22) else (some (([] : List (S33)), false)))) else (some (([] : List (S33)), false))) = some (r1, r2) := H
              have A25 := Aside0.mk A250
              clear A250
              by_cases c26 : t311 = true
              ·subst c26
               have H1 : ((spec_l10Body.f t305 t306 t307 t308).bind fun t312 => (if t312 = true then (spec_l10Push.l1 k3 a1 x2_2 ((x8_3.set (x9_3 : Int).toNat (⟨t301, t302, t303, t304⟩ : S33)).set ((ji22) : Int).toNat (⟨t305, t306, t307, t308⟩ : S33)) ji22) else (some (([] : List (S33)), false)))) = some (r1, r2) := by rw [if_pos rfl] at H; exact H
               clear H
               have H := H1
               clear H1
               replace H := Option.bind_eq_some_iff.mp H
               obtain ⟨t312, A270, H⟩ := H
               replace H : (if t312 = true then (spec_l10Push.l1 k3 a1 x2_2 ((x8_3.set (x9_3 : Int).toNat (⟨t301, t302, t303, t304⟩ : S33)).set ((ji22) : Int).toNat (⟨t305, t306, t307, t308⟩ : S33)) ji22) else (some (([] : List (S33)), false))) = some (r1, r2) := H
               have A27 := Aside0.mk A270
               clear A270
               by_cases c28 : t312 = true
               ·subst c28
                have H1 : (spec_l10Push.l1 k3 a1 x2_2 ((x8_3.set (x9_3 : Int).toNat (⟨t301, t302, t303, t304⟩ : S33)).set ((ji22) : Int).toNat (⟨t305, t306, t307, t308⟩ : S33)) ji22) = some (r1, r2) := by rw [if_pos rfl] at H; exact H
                clear H
                have H := H1
                clear H1
                obtain ⟨y313, hy313⟩ : ∃ y_ : List (S33), y_ = (x8_3.set (x9_3 : Int).toNat (⟨t301, t302, t303, t304⟩ : S33)) := ⟨_, rfl⟩
                replace H : (spec_l10Push.l1 k3 a1 x2_2 (y313.set ((ji22) : Int).toNat (⟨t305, t306, t307, t308⟩ : S33)) ji22) = some (r1, r2) := by first | (rw [hy313]; with_reducible exact H) | (have H2_ := (Option.bind_some _ _).symm.trans H; rw [hy313]; with_reducible exact H2_) | (have H2_ := (Option.bind_some _ _).symm.trans H; with_reducible exact H2_) | with_reducible exact H | (rw [hy313]; exact H) | exact H
                have Ny313 := Aside0.mk hy313
                clear hy313
                obtain ⟨y314, hy314⟩ : ∃ y_ : List (S33), y_ = (y313.set ((ji22) : Int).toNat (⟨t305, t306, t307, t308⟩ : S33)) := ⟨_, rfl⟩
                replace H : (spec_l10Push.l1 k3 a1 x2_2 y314 ji22) = some (r1, r2) := by first | (rw [hy314]; with_reducible exact H) | (have H2_ := (Option.bind_some _ _).symm.trans H; rw [hy314]; with_reducible exact H2_) | (have H2_ := (Option.bind_some _ _).symm.trans H; with_reducible exact H2_) | with_reducible exact H | (rw [hy314]; exact H) | exact H
                have Ny314 := Aside0.mk hy314
                clear hy314
                have H' := Aside0.mk H
                clear H
                obtain ⟨Ao31, co31, eo31⟩ := Kd.R_slice HO_8.out
                subst eo31
                try go_wp2
                replace HO_8 := Aside0.mk (Kd.R_drew HO_8.out)
                replace HB := Aside0.mk (below_drew1 HB.out)
                have p299 : 0 ≤ (x9_3 : Int) := of_decide_eq_true hE
                have q299 : x9_3 < (x8_3.length : Int) := of_decide_eq_true hE
                obtain ⟨ad299, e299, hx299_0, hx299_1, hx299_2, hx299_3⟩ := at_T33 (Kd.R_reads' HO_8.out).2.2 x9_3 p299 q299
                cases e299
                replace p299 := eq_true p299
                replace q299 := eq_true q299
                have p300 : 0 ≤ ((ji22) : Int) := of_decide_eq_true hE
                have q300 : (ji22) < (x8_3.length : Int) := of_decide_eq_true hE
                obtain ⟨ad300, e300, hx300_0, hx300_1, hx300_2, hx300_3⟩ := at_T33 (Kd.R_reads' HO_8.out).2.2 (ji22) p300 q300
                obtain rfl : ad299 = ad300 := (by injection e300)
                replace p300 := eq_true p300
                replace q300 := eq_true q300
                refine start_ (n := 18) (S := fun w' => w'.cell? (ad299.add ((x9_3).toNat * 4)) = some (.int .i64 ((rd_T33 x8_3 x9_3).f0)) ∧ w'.cell? ⟨(ad299.add ((x9_3).toNat * 4)).block, (ad299.add ((x9_3).toNat * 4)).off + 1, none⟩ = some (.int .i64 ((rd_T33 x8_3 x9_3).f1)) ∧ w'.cell? ⟨(ad299.add ((x9_3).toNat * 4)).block, (ad299.add ((x9_3).toNat * 4)).off + 2, none⟩ = some (.int .i64 ((rd_T33 x8_3 x9_3).f2)) ∧ w'.cell? ⟨(ad299.add ((x9_3).toNat * 4)).block, (ad299.add ((x9_3).toNat * 4)).off + 3, none⟩ = some (.int .i64 ((rd_T33 x8_3 x9_3).f3)) ∧ w'.cell? (ad299.add (((ji22)).toNat * 4)) = some (.int .i64 ((rd_T33 x8_3 (ji22)).f0)) ∧ w'.cell? ⟨(ad299.add (((ji22)).toNat * 4)).block, (ad299.add (((ji22)).toNat * 4)).off + 1, none⟩ = some (.int .i64 ((rd_T33 x8_3 (ji22)).f1)) ∧ w'.cell? ⟨(ad299.add (((ji22)).toNat * 4)).block, (ad299.add (((ji22)).toNat * 4)).off + 2, none⟩ = some (.int .i64 ((rd_T33 x8_3 (ji22)).f2)) ∧ w'.cell? ⟨(ad299.add (((ji22)).toNat * 4)).block, (ad299.add (((ji22)).toNat * 4)).off + 3, none⟩ = some (.int .i64 ((rd_T33 x8_3 (ji22)).f3))) (ds := []) #[false, false, false, false, false, false, false, false, false, false, false, false, false, false, false, false, false, false] (by kernel_rfl) rfl rfl ⟨hx299_0, hx299_1, hx299_2, hx299_3, hx300_0, hx300_1, hx300_2, hx300_3⟩ (fun hHeld => ?_); refine with_tabW spec_l10Push.tab9 spec_l10Push.bits9 (fun HT_ HW_ => ?_)
                generalize wr.drew = w32 at HO_8 HB hx299_0 hx299_1 hx299_2 hx299_3 hx300_0 hx300_1 hx300_2 hx300_3 hHeld ⊢
                refine pureA 0 40 (bz 18 1) rfl rfl (any_of HT_.out (by kernel_rfl)) ?_
                refine pureA 1 41 (bz 18 3) rfl rfl (any_of HT_.out (by kernel_rfl)) ?_
                refine pureA 2 42 (bz 18 7) rfl rfl (any_of HT_.out (by kernel_rfl)) ?_
                refine pureA 4 44 (bz 18 23) rfl rfl (any_of HT_.out (by kernel_rfl)) ?_
                refine pureA 5 45 (bz 18 55) rfl rfl (any_of HT_.out (by kernel_rfl)) ?_
                refine pureA 6 46 (bz 18 119) rfl rfl (any_of HT_.out (by kernel_rfl)) ?_
                refine pureA 7 47 (bz 18 247) rfl rfl (any_of HT_.out (by kernel_rfl)) ?_
                refine pureA 9 49 (bz 18 759) rfl rfl (any_of HT_.out (by kernel_rfl)) ?_
                refine takeA 3 43 (bz 18 767) rfl rfl (take_ofW HT_.out HW_.out (by kernel_rfl)) hHeld (by rintro w' ⟨s0, s1, s2, s3, s4, s5, s6, s7⟩; go_simp; with_reducible rfl) ?_
                refine takeA 8 48 (bz 18 1023) rfl rfl (take_ofW HT_.out HW_.out (by kernel_rfl)) hHeld (by rintro w' ⟨s0, s1, s2, s3, s4, s5, s6, s7⟩; go_simp; with_reducible rfl) ?_
                refine join_ (σ := Nat × Nat) 2 #[true, true, true, true, true, true, true, true, true, true, true, true, true, true, true, true, false, false] (fun s_ => [(50, .tuple #[.agg #[.int .i64 t301, .int .i64 t302, .int .i64 t303, .int .i64 t304], .agg #[.int .i64 t305, .int .i64 t306, .int .i64 t307, .int .i64 t308]]), (10, .pointer (some ⟨s_.1, 0, none⟩)), (11, .pointer (some ⟨s_.2, 0, none⟩)), (39, .tuple #[.agg #[.int .i64 t301, .int .i64 t302, .int .i64 t303, .int .i64 t304], .agg #[.int .i64 t305, .int .i64 t306, .int .i64 t307, .int .i64 t308]]), (51, .agg #[.int .i64 t301, .int .i64 t302, .int .i64 t303, .int .i64 t304]), (52, .agg #[.int .i64 t305, .int .i64 t306, .int .i64 t307, .int .i64 t308])]) (fun s_ w' => (w'.cell? (ad299.add ((x9_3).toNat * 4)) = some (.int .i64 ((rd_T33 x8_3 x9_3).f0)) ∧ w'.cell? ⟨(ad299.add ((x9_3).toNat * 4)).block, (ad299.add ((x9_3).toNat * 4)).off + 1, none⟩ = some (.int .i64 ((rd_T33 x8_3 x9_3).f1)) ∧ w'.cell? ⟨(ad299.add ((x9_3).toNat * 4)).block, (ad299.add ((x9_3).toNat * 4)).off + 2, none⟩ = some (.int .i64 ((rd_T33 x8_3 x9_3).f2)) ∧ w'.cell? ⟨(ad299.add ((x9_3).toNat * 4)).block, (ad299.add ((x9_3).toNat * 4)).off + 3, none⟩ = some (.int .i64 ((rd_T33 x8_3 x9_3).f3)) ∧ w'.cell? (ad299.add (((ji22)).toNat * 4)) = some (.int .i64 ((rd_T33 x8_3 (ji22)).f0)) ∧ w'.cell? ⟨(ad299.add (((ji22)).toNat * 4)).block, (ad299.add (((ji22)).toNat * 4)).off + 1, none⟩ = some (.int .i64 ((rd_T33 x8_3 (ji22)).f1)) ∧ w'.cell? ⟨(ad299.add (((ji22)).toNat * 4)).block, (ad299.add (((ji22)).toNat * 4)).off + 2, none⟩ = some (.int .i64 ((rd_T33 x8_3 (ji22)).f2)) ∧ w'.cell? ⟨(ad299.add (((ji22)).toNat * 4)).block, (ad299.add (((ji22)).toNat * 4)).off + 3, none⟩ = some (.int .i64 ((rd_T33 x8_3 (ji22)).f3))) ∧ (Kd.R k33 33 w' w.heap.size (fun k_ => k_ ≠ s_.1 ∧ k_ ≠ s_.2) (.slice (some ad299) x8_3.length co31) x8_3) ∧ (w'.heap[s_.1]? = some (.cells #[.int .i64 0, .int .i64 0, .int .i64 0, .int .i64 0] 33 (0, 0))) ∧ (w'.heap[s_.2]? = some (.cells #[.int .i64 0, .int .i64 0, .int .i64 0, .int .i64 0] 33 (0, 0))) ∧ (w.heap.size ≤ s_.1) ∧ (w.heap.size ≤ s_.1) ∧ (s_.2 ≠ s_.1) ∧ (s_.1 ≠ s_.2) ∧ (w.heap.size ≤ s_.2) ∧ (w.heap.size ≤ s_.2) ∧ (Below w.heap.size w w')) ?_ ?_
                rotate_left
                ·intro hJ10_14_15
                 refine join_ (σ := Nat) 3 #[true, true, true, true, true, true, true, true, true, true, true, true, true, true, true, false, false, false] (fun s_ => [(50, .tuple #[.agg #[.int .i64 t301, .int .i64 t302, .int .i64 t303, .int .i64 t304], .agg #[.int .i64 t305, .int .i64 t306, .int .i64 t307, .int .i64 t308]]), (10, .pointer (some ⟨s_, 0, none⟩)), (39, .tuple #[.agg #[.int .i64 t301, .int .i64 t302, .int .i64 t303, .int .i64 t304], .agg #[.int .i64 t305, .int .i64 t306, .int .i64 t307, .int .i64 t308]]), (51, .agg #[.int .i64 t301, .int .i64 t302, .int .i64 t303, .int .i64 t304]), (52, .agg #[.int .i64 t305, .int .i64 t306, .int .i64 t307, .int .i64 t308])]) (fun s_ w' => (w'.cell? (ad299.add ((x9_3).toNat * 4)) = some (.int .i64 ((rd_T33 x8_3 x9_3).f0)) ∧ w'.cell? ⟨(ad299.add ((x9_3).toNat * 4)).block, (ad299.add ((x9_3).toNat * 4)).off + 1, none⟩ = some (.int .i64 ((rd_T33 x8_3 x9_3).f1)) ∧ w'.cell? ⟨(ad299.add ((x9_3).toNat * 4)).block, (ad299.add ((x9_3).toNat * 4)).off + 2, none⟩ = some (.int .i64 ((rd_T33 x8_3 x9_3).f2)) ∧ w'.cell? ⟨(ad299.add ((x9_3).toNat * 4)).block, (ad299.add ((x9_3).toNat * 4)).off + 3, none⟩ = some (.int .i64 ((rd_T33 x8_3 x9_3).f3)) ∧ w'.cell? (ad299.add (((ji22)).toNat * 4)) = some (.int .i64 ((rd_T33 x8_3 (ji22)).f0)) ∧ w'.cell? ⟨(ad299.add (((ji22)).toNat * 4)).block, (ad299.add (((ji22)).toNat * 4)).off + 1, none⟩ = some (.int .i64 ((rd_T33 x8_3 (ji22)).f1)) ∧ w'.cell? ⟨(ad299.add (((ji22)).toNat * 4)).block, (ad299.add (((ji22)).toNat * 4)).off + 2, none⟩ = some (.int .i64 ((rd_T33 x8_3 (ji22)).f2)) ∧ w'.cell? ⟨(ad299.add (((ji22)).toNat * 4)).block, (ad299.add (((ji22)).toNat * 4)).off + 3, none⟩ = some (.int .i64 ((rd_T33 x8_3 (ji22)).f3))) ∧ (Kd.R k33 33 w' w.heap.size (fun k_ => k_ ≠ s_) (.slice (some ad299) x8_3.length co31) x8_3) ∧ (w'.heap[s_]? = some (.cells #[.int .i64 0, .int .i64 0, .int .i64 0, .int .i64 0] 33 (0, 0))) ∧ (w.heap.size ≤ s_) ∧ (w.heap.size ≤ s_) ∧ (Below w.heap.size w w')) ?_ ?_
                 rotate_left
                 ·intro hJ10_14
                  refine join_ (σ := Nat) 3 #[true, true, true, true, true, true, true, true, true, true, true, true, true, true, false, true, false, false] (fun s_ => [(50, .tuple #[.agg #[.int .i64 t301, .int .i64 t302, .int .i64 t303, .int .i64 t304], .agg #[.int .i64 t305, .int .i64 t306, .int .i64 t307, .int .i64 t308]]), (11, .pointer (some ⟨s_, 0, none⟩)), (39, .tuple #[.agg #[.int .i64 t301, .int .i64 t302, .int .i64 t303, .int .i64 t304], .agg #[.int .i64 t305, .int .i64 t306, .int .i64 t307, .int .i64 t308]]), (51, .agg #[.int .i64 t301, .int .i64 t302, .int .i64 t303, .int .i64 t304]), (52, .agg #[.int .i64 t305, .int .i64 t306, .int .i64 t307, .int .i64 t308])]) (fun s_ w' => (w'.cell? (ad299.add ((x9_3).toNat * 4)) = some (.int .i64 ((rd_T33 x8_3 x9_3).f0)) ∧ w'.cell? ⟨(ad299.add ((x9_3).toNat * 4)).block, (ad299.add ((x9_3).toNat * 4)).off + 1, none⟩ = some (.int .i64 ((rd_T33 x8_3 x9_3).f1)) ∧ w'.cell? ⟨(ad299.add ((x9_3).toNat * 4)).block, (ad299.add ((x9_3).toNat * 4)).off + 2, none⟩ = some (.int .i64 ((rd_T33 x8_3 x9_3).f2)) ∧ w'.cell? ⟨(ad299.add ((x9_3).toNat * 4)).block, (ad299.add ((x9_3).toNat * 4)).off + 3, none⟩ = some (.int .i64 ((rd_T33 x8_3 x9_3).f3)) ∧ w'.cell? (ad299.add (((ji22)).toNat * 4)) = some (.int .i64 ((rd_T33 x8_3 (ji22)).f0)) ∧ w'.cell? ⟨(ad299.add (((ji22)).toNat * 4)).block, (ad299.add (((ji22)).toNat * 4)).off + 1, none⟩ = some (.int .i64 ((rd_T33 x8_3 (ji22)).f1)) ∧ w'.cell? ⟨(ad299.add (((ji22)).toNat * 4)).block, (ad299.add (((ji22)).toNat * 4)).off + 2, none⟩ = some (.int .i64 ((rd_T33 x8_3 (ji22)).f2)) ∧ w'.cell? ⟨(ad299.add (((ji22)).toNat * 4)).block, (ad299.add (((ji22)).toNat * 4)).off + 3, none⟩ = some (.int .i64 ((rd_T33 x8_3 (ji22)).f3))) ∧ (Kd.R k33 33 w' w.heap.size (fun k_ => k_ ≠ s_) (.slice (some ad299) x8_3.length co31) x8_3) ∧ (w'.heap[s_]? = some (.cells #[.int .i64 0, .int .i64 0, .int .i64 0, .int .i64 0] 33 (0, 0))) ∧ (w.heap.size ≤ s_) ∧ (w.heap.size ≤ s_) ∧ (Below w.heap.size w w')) ?_ ?_
                  rotate_left
                  ·intro hJ10_15
                   refine join_ (σ := Nat × Nat) 6 #[true, true, true, true, true, true, true, true, true, true, false, false, false, false, true, true, false, false] (fun s_ => [(10, .pointer (some ⟨s_.1, 0, none⟩)), (11, .pointer (some ⟨s_.2, 0, none⟩))]) (fun s_ w' => (w'.cell? (ad299.add ((x9_3).toNat * 4)) = some (.int .i64 ((rd_T33 x8_3 x9_3).f0)) ∧ w'.cell? ⟨(ad299.add ((x9_3).toNat * 4)).block, (ad299.add ((x9_3).toNat * 4)).off + 1, none⟩ = some (.int .i64 ((rd_T33 x8_3 x9_3).f1)) ∧ w'.cell? ⟨(ad299.add ((x9_3).toNat * 4)).block, (ad299.add ((x9_3).toNat * 4)).off + 2, none⟩ = some (.int .i64 ((rd_T33 x8_3 x9_3).f2)) ∧ w'.cell? ⟨(ad299.add ((x9_3).toNat * 4)).block, (ad299.add ((x9_3).toNat * 4)).off + 3, none⟩ = some (.int .i64 ((rd_T33 x8_3 x9_3).f3)) ∧ w'.cell? (ad299.add (((ji22)).toNat * 4)) = some (.int .i64 ((rd_T33 x8_3 (ji22)).f0)) ∧ w'.cell? ⟨(ad299.add (((ji22)).toNat * 4)).block, (ad299.add (((ji22)).toNat * 4)).off + 1, none⟩ = some (.int .i64 ((rd_T33 x8_3 (ji22)).f1)) ∧ w'.cell? ⟨(ad299.add (((ji22)).toNat * 4)).block, (ad299.add (((ji22)).toNat * 4)).off + 2, none⟩ = some (.int .i64 ((rd_T33 x8_3 (ji22)).f2)) ∧ w'.cell? ⟨(ad299.add (((ji22)).toNat * 4)).block, (ad299.add (((ji22)).toNat * 4)).off + 3, none⟩ = some (.int .i64 ((rd_T33 x8_3 (ji22)).f3))) ∧ (Kd.R k33 33 w' w.heap.size (fun k_ => k_ ≠ s_.1 ∧ k_ ≠ s_.2) (.slice (some ad299) x8_3.length co31) x8_3) ∧ (w'.heap[s_.1]? = some (.cells #[.int .i64 0, .int .i64 0, .int .i64 0, .int .i64 0] 33 (0, 0))) ∧ (w'.heap[s_.2]? = some (.cells #[.int .i64 0, .int .i64 0, .int .i64 0, .int .i64 0] 33 (0, 0))) ∧ (w.heap.size ≤ s_.1) ∧ (w.heap.size ≤ s_.1) ∧ (s_.2 ≠ s_.1) ∧ (s_.1 ≠ s_.2) ∧ (w.heap.size ≤ s_.2) ∧ (w.heap.size ≤ s_.2) ∧ (Below w.heap.size w w')) ?_ ?_
                   rotate_left
                   ·intro hJ14_15
                    refine join_ (σ := Unit) 4 #[true, true, true, true, true, true, true, true, true, true, true, true, true, true, false, false, false, false] (fun s_ => [(50, .tuple #[.agg #[.int .i64 t301, .int .i64 t302, .int .i64 t303, .int .i64 t304], .agg #[.int .i64 t305, .int .i64 t306, .int .i64 t307, .int .i64 t308]]), (39, .tuple #[.agg #[.int .i64 t301, .int .i64 t302, .int .i64 t303, .int .i64 t304], .agg #[.int .i64 t305, .int .i64 t306, .int .i64 t307, .int .i64 t308]]), (51, .agg #[.int .i64 t301, .int .i64 t302, .int .i64 t303, .int .i64 t304]), (52, .agg #[.int .i64 t305, .int .i64 t306, .int .i64 t307, .int .i64 t308])]) (fun s_ w' => (w'.cell? (ad299.add ((x9_3).toNat * 4)) = some (.int .i64 ((rd_T33 x8_3 x9_3).f0)) ∧ w'.cell? ⟨(ad299.add ((x9_3).toNat * 4)).block, (ad299.add ((x9_3).toNat * 4)).off + 1, none⟩ = some (.int .i64 ((rd_T33 x8_3 x9_3).f1)) ∧ w'.cell? ⟨(ad299.add ((x9_3).toNat * 4)).block, (ad299.add ((x9_3).toNat * 4)).off + 2, none⟩ = some (.int .i64 ((rd_T33 x8_3 x9_3).f2)) ∧ w'.cell? ⟨(ad299.add ((x9_3).toNat * 4)).block, (ad299.add ((x9_3).toNat * 4)).off + 3, none⟩ = some (.int .i64 ((rd_T33 x8_3 x9_3).f3)) ∧ w'.cell? (ad299.add (((ji22)).toNat * 4)) = some (.int .i64 ((rd_T33 x8_3 (ji22)).f0)) ∧ w'.cell? ⟨(ad299.add (((ji22)).toNat * 4)).block, (ad299.add (((ji22)).toNat * 4)).off + 1, none⟩ = some (.int .i64 ((rd_T33 x8_3 (ji22)).f1)) ∧ w'.cell? ⟨(ad299.add (((ji22)).toNat * 4)).block, (ad299.add (((ji22)).toNat * 4)).off + 2, none⟩ = some (.int .i64 ((rd_T33 x8_3 (ji22)).f2)) ∧ w'.cell? ⟨(ad299.add (((ji22)).toNat * 4)).block, (ad299.add (((ji22)).toNat * 4)).off + 3, none⟩ = some (.int .i64 ((rd_T33 x8_3 (ji22)).f3))) ∧ (Kd.R k33 33 w' w.heap.size (fun _ => True) (.slice (some ad299) x8_3.length co31) x8_3) ∧ (Below w.heap.size w w')) ?_ ?_
                    rotate_left
                    ·intro hJ10
                     refine join_ (σ := Nat) 7 #[true, true, true, true, true, true, true, true, true, true, false, false, false, false, true, false, false, false] (fun s_ => [(10, .pointer (some ⟨s_, 0, none⟩))]) (fun s_ w' => (w'.cell? (ad299.add ((x9_3).toNat * 4)) = some (.int .i64 ((rd_T33 x8_3 x9_3).f0)) ∧ w'.cell? ⟨(ad299.add ((x9_3).toNat * 4)).block, (ad299.add ((x9_3).toNat * 4)).off + 1, none⟩ = some (.int .i64 ((rd_T33 x8_3 x9_3).f1)) ∧ w'.cell? ⟨(ad299.add ((x9_3).toNat * 4)).block, (ad299.add ((x9_3).toNat * 4)).off + 2, none⟩ = some (.int .i64 ((rd_T33 x8_3 x9_3).f2)) ∧ w'.cell? ⟨(ad299.add ((x9_3).toNat * 4)).block, (ad299.add ((x9_3).toNat * 4)).off + 3, none⟩ = some (.int .i64 ((rd_T33 x8_3 x9_3).f3)) ∧ w'.cell? (ad299.add (((ji22)).toNat * 4)) = some (.int .i64 ((rd_T33 x8_3 (ji22)).f0)) ∧ w'.cell? ⟨(ad299.add (((ji22)).toNat * 4)).block, (ad299.add (((ji22)).toNat * 4)).off + 1, none⟩ = some (.int .i64 ((rd_T33 x8_3 (ji22)).f1)) ∧ w'.cell? ⟨(ad299.add (((ji22)).toNat * 4)).block, (ad299.add (((ji22)).toNat * 4)).off + 2, none⟩ = some (.int .i64 ((rd_T33 x8_3 (ji22)).f2)) ∧ w'.cell? ⟨(ad299.add (((ji22)).toNat * 4)).block, (ad299.add (((ji22)).toNat * 4)).off + 3, none⟩ = some (.int .i64 ((rd_T33 x8_3 (ji22)).f3))) ∧ (Kd.R k33 33 w' w.heap.size (fun k_ => k_ ≠ s_) (.slice (some ad299) x8_3.length co31) x8_3) ∧ (w'.heap[s_]? = some (.cells #[.int .i64 0, .int .i64 0, .int .i64 0, .int .i64 0] 33 (0, 0))) ∧ (w.heap.size ≤ s_) ∧ (w.heap.size ≤ s_) ∧ (Below w.heap.size w w')) ?_ ?_
                     rotate_left
                     ·intro hJ14
                      refine join_ (σ := Nat) 7 #[true, true, true, true, true, true, true, true, true, true, false, false, false, false, false, true, false, false] (fun s_ => [(11, .pointer (some ⟨s_, 0, none⟩))]) (fun s_ w' => (w'.cell? (ad299.add ((x9_3).toNat * 4)) = some (.int .i64 ((rd_T33 x8_3 x9_3).f0)) ∧ w'.cell? ⟨(ad299.add ((x9_3).toNat * 4)).block, (ad299.add ((x9_3).toNat * 4)).off + 1, none⟩ = some (.int .i64 ((rd_T33 x8_3 x9_3).f1)) ∧ w'.cell? ⟨(ad299.add ((x9_3).toNat * 4)).block, (ad299.add ((x9_3).toNat * 4)).off + 2, none⟩ = some (.int .i64 ((rd_T33 x8_3 x9_3).f2)) ∧ w'.cell? ⟨(ad299.add ((x9_3).toNat * 4)).block, (ad299.add ((x9_3).toNat * 4)).off + 3, none⟩ = some (.int .i64 ((rd_T33 x8_3 x9_3).f3)) ∧ w'.cell? (ad299.add (((ji22)).toNat * 4)) = some (.int .i64 ((rd_T33 x8_3 (ji22)).f0)) ∧ w'.cell? ⟨(ad299.add (((ji22)).toNat * 4)).block, (ad299.add (((ji22)).toNat * 4)).off + 1, none⟩ = some (.int .i64 ((rd_T33 x8_3 (ji22)).f1)) ∧ w'.cell? ⟨(ad299.add (((ji22)).toNat * 4)).block, (ad299.add (((ji22)).toNat * 4)).off + 2, none⟩ = some (.int .i64 ((rd_T33 x8_3 (ji22)).f2)) ∧ w'.cell? ⟨(ad299.add (((ji22)).toNat * 4)).block, (ad299.add (((ji22)).toNat * 4)).off + 3, none⟩ = some (.int .i64 ((rd_T33 x8_3 (ji22)).f3))) ∧ (Kd.R k33 33 w' w.heap.size (fun k_ => k_ ≠ s_) (.slice (some ad299) x8_3.length co31) x8_3) ∧ (w'.heap[s_]? = some (.cells #[.int .i64 0, .int .i64 0, .int .i64 0, .int .i64 0] 33 (0, 0))) ∧ (w.heap.size ≤ s_) ∧ (w.heap.size ≤ s_) ∧ (Below w.heap.size w w')) ?_ ?_
                      rotate_left
                      ·intro hJ15
                       refine three_ (i := 10) (j := 14) (k := 15) (Ni := some 50) (Nj := some 10) (Nk := some 11) #[true, true, true, true, true, true, true, true, true, true, true, false, false, false, false, false, false, false] #[true, true, true, true, true, true, true, true, true, true, false, false, false, false, true, false, false, false] #[true, true, true, true, true, true, true, true, true, true, false, false, false, false, false, true, false, false] rfl rfl rfl rfl rfl rfl (three_of HT_.out (by kernel_rfl)) (by decide) (by decide) (by decide) (fun K hK => ?_) (fun K hK => ?_) (fun K hK => ?_)
                       ·skip
                        refine goes_ Try.func35 (by kernel_rfl) rfl #[.agg #[.int .i64 ((rd_T33 x8_3 x9_3).f0), .int .i64 ((rd_T33 x8_3 x9_3).f1), .int .i64 ((rd_T33 x8_3 x9_3).f2), .int .i64 ((rd_T33 x8_3 x9_3).f3)], .agg #[.int .i64 ((rd_T33 x8_3 (ji22)).f0), .int .i64 ((rd_T33 x8_3 (ji22)).f1), .int .i64 ((rd_T33 x8_3 (ji22)).f2), .int .i64 ((rd_T33 x8_3 (ji22)).f3)], .int .i64 a1] (by rfl) rfl rfl (by (try simp only [List.map_toArray, List.map_cons, List.map_nil]); first | done | (simp only [hji22]; rfl) | rfl | (simp only [List.length_drop, List.length_take]; rfl)) ?_
                        with_reducible refine (spec_l10Pair.calls k3 ((rd_T33 x8_3 x9_3).f0) ((rd_T33 x8_3 x9_3).f1) ((rd_T33 x8_3 x9_3).f2) ((rd_T33 x8_3 x9_3).f3) ((rd_T33 x8_3 (ji22)).f0) ((rd_T33 x8_3 (ji22)).f1) ((rd_T33 x8_3 (ji22)).f2) ((rd_T33 x8_3 (ji22)).f3) a1 t301 t302 t303 t304 t305 t306 t307 t308 _ A24.out).mono ?_
                        rintro e w33 ⟨rfl, hb⟩
                        have HS0_ := hT hb hHeld.1
                        have HS1_ := hT hb hHeld.2.1
                        have HS2_ := hT hb hHeld.2.2.1
                        have HS3_ := hT hb hHeld.2.2.2.1
                        have HS4_ := hT hb hHeld.2.2.2.2.1
                        have HS5_ := hT hb hHeld.2.2.2.2.2.1
                        have HS6_ := hT hb hHeld.2.2.2.2.2.2.1
                        have HS7_ := hT hb hHeld.2.2.2.2.2.2.2
                        refine ⟨_, rfl, ?_⟩
                        replace HO_8 := Aside0.mk (Kd.R_below (rU HO_8.out) hb)
                        replace HB := bH (lU) hb
                        (try clear hb)
                        (try clear hb2)
                        (try clear hk)
                        (try clear hi)
                        refine hK.out _ _ ⟨HS0_, HS1_, HS2_, HS3_, HS4_, HS5_, HS6_, HS7_⟩ (fun hHeld => ?_)
                        clear hK K
                        refine norm_ (a' := ?_) ?_ ?_
                        rotate_left
                        ·show Act.put _ (some 50) _ = _
                         simp only [Act.put, List.setIfInBounds_toArray, List.set_cons_zero, List.set_cons_succ, i64_w, i32_w]
                         rfl
                        refine pureA 11 39 (bz 18 4095) rfl rfl (any_of HT_.out (by kernel_rfl)) ?_
                        refine pureA 12 51 (bz 18 8191) rfl rfl (any_of HT_.out (by kernel_rfl)) ?_
                        refine pureA 13 52 (bz 18 16383) rfl rfl (any_of HT_.out (by kernel_rfl)) ?_
                        exact norm_ nE (hJ10 () _ ⟨hHeld, (rU HO_8.out), (lU)⟩)
                       ·skip
                        refine box_step ?hg (N := 10) ?hd (cs := #[.int .i64 0, .int .i64 0, .int .i64 0, .int .i64 0]) (t := 33) ?hr ?_; (case hd => rfl); (case hg => rfl); (case hr => exact sE)
                        intro gb309 hg w33 hbox hb
                        have HS0_ := hT hb hHeld.1
                        have HS1_ := hT hb hHeld.2.1
                        have HS2_ := hT hb hHeld.2.2.1
                        have HS3_ := hT hb hHeld.2.2.2.1
                        have HS4_ := hT hb hHeld.2.2.2.2.1
                        have HS5_ := hT hb hHeld.2.2.2.2.2.1
                        have HS6_ := hT hb hHeld.2.2.2.2.2.2.1
                        have HS7_ := hT hb hHeld.2.2.2.2.2.2.2
                        replace HO_8 := Aside0.mk (Kd.R_below (Kd.R_elderB (rU HO_8.out) gb309 (Nat.le_of_eq hg.symm)) hb)
                        have BK309 := Aside0.mk hbox
                        have GW309 := gS w hg (lU)
                        have GE309 := gS w hg (lU)
                        replace HB := bH (lU) hb
                        clear hb hbox hg
                        refine hK.out _ _ ⟨HS0_, HS1_, HS2_, HS3_, HS4_, HS5_, HS6_, HS7_⟩ (fun hHeld => ?_)
                        clear hK K
                        refine norm_ (a' := ?_) ?_ ?_
                        rotate_left
                        ·show Act.put _ (some 10) _ = _
                         simp only [Act.put, List.setIfInBounds_toArray, List.set_cons_zero, List.set_cons_succ, i64_w, i32_w]
                         rfl
                        exact norm_ nE (hJ14 (gb309) _ ⟨hHeld, (by (with_reducible repeat (first | apply Kd.R_alloc | apply Kd.R_drewN | apply Kd.R_drew)); exact Kd.R_mono HO_8.out (fun _ hk => hk.2)), (bV BK309), GW309.out, GE309.out, (lV1 GE309)⟩)
                       ·skip
                        refine box_step ?hg (N := 11) ?hd (cs := #[.int .i64 0, .int .i64 0, .int .i64 0, .int .i64 0]) (t := 33) ?hr ?_; (case hd => rfl); (case hg => rfl); (case hr => exact sE)
                        intro gb310 hg w33 hbox hb
                        have HS0_ := hT hb hHeld.1
                        have HS1_ := hT hb hHeld.2.1
                        have HS2_ := hT hb hHeld.2.2.1
                        have HS3_ := hT hb hHeld.2.2.2.1
                        have HS4_ := hT hb hHeld.2.2.2.2.1
                        have HS5_ := hT hb hHeld.2.2.2.2.2.1
                        have HS6_ := hT hb hHeld.2.2.2.2.2.2.1
                        have HS7_ := hT hb hHeld.2.2.2.2.2.2.2
                        replace HO_8 := Aside0.mk (Kd.R_below (Kd.R_elderB (rU HO_8.out) gb310 (Nat.le_of_eq hg.symm)) hb)
                        have BK310 := Aside0.mk hbox
                        have GW310 := gS w hg (lU)
                        have GE310 := gS w hg (lU)
                        replace HB := bH (lU) hb
                        clear hb hbox hg
                        refine hK.out _ _ ⟨HS0_, HS1_, HS2_, HS3_, HS4_, HS5_, HS6_, HS7_⟩ (fun hHeld => ?_)
                        clear hK K
                        refine norm_ (a' := ?_) ?_ ?_
                        rotate_left
                        ·show Act.put _ (some 11) _ = _
                         simp only [Act.put, List.setIfInBounds_toArray, List.set_cons_zero, List.set_cons_succ, i64_w, i32_w]
                         rfl
                        exact norm_ nE (hJ15 (gb310) _ ⟨hHeld, (by (with_reducible repeat (first | apply Kd.R_alloc | apply Kd.R_drewN | apply Kd.R_drew)); exact Kd.R_mono HO_8.out (fun _ hk => hk.2)), (bV BK310), GW310.out, GE310.out, (lV1 GE310)⟩)
                      ·skip
                       rintro gb310 w34 ⟨hS_, h0_, h1_, h2_, h3_, h4_⟩
                       replace HO_8 : Aside0 (Kd.R k33 33 w34 w.heap.size (fun k_ => k_ ≠ gb310) (.slice (some ad299) x8_3.length co31) x8_3) := ⟨h0_⟩
                       have BK310 : Aside0 (w34.heap[gb310]? = some (.cells #[.int .i64 0, .int .i64 0, .int .i64 0, .int .i64 0] 33 (0, 0))) := ⟨h1_⟩
                       have GW310 : Aside0 (w.heap.size ≤ gb310) := ⟨h2_⟩
                       have GE310 : Aside0 (w.heap.size ≤ gb310) := ⟨h3_⟩
                       replace HB : Aside0 (Below w.heap.size w w34) := ⟨h4_⟩
                       clear h0_ h1_ h2_ h3_ h4_
                       have hHeld : w34.cell? (ad299.add ((x9_3).toNat * 4)) = some (.int .i64 ((rd_T33 x8_3 x9_3).f0)) ∧ w34.cell? ⟨(ad299.add ((x9_3).toNat * 4)).block, (ad299.add ((x9_3).toNat * 4)).off + 1, none⟩ = some (.int .i64 ((rd_T33 x8_3 x9_3).f1)) ∧ w34.cell? ⟨(ad299.add ((x9_3).toNat * 4)).block, (ad299.add ((x9_3).toNat * 4)).off + 2, none⟩ = some (.int .i64 ((rd_T33 x8_3 x9_3).f2)) ∧ w34.cell? ⟨(ad299.add ((x9_3).toNat * 4)).block, (ad299.add ((x9_3).toNat * 4)).off + 3, none⟩ = some (.int .i64 ((rd_T33 x8_3 x9_3).f3)) ∧ w34.cell? (ad299.add (((ji22)).toNat * 4)) = some (.int .i64 ((rd_T33 x8_3 (ji22)).f0)) ∧ w34.cell? ⟨(ad299.add (((ji22)).toNat * 4)).block, (ad299.add (((ji22)).toNat * 4)).off + 1, none⟩ = some (.int .i64 ((rd_T33 x8_3 (ji22)).f1)) ∧ w34.cell? ⟨(ad299.add (((ji22)).toNat * 4)).block, (ad299.add (((ji22)).toNat * 4)).off + 2, none⟩ = some (.int .i64 ((rd_T33 x8_3 (ji22)).f2)) ∧ w34.cell? ⟨(ad299.add (((ji22)).toNat * 4)).block, (ad299.add (((ji22)).toNat * 4)).off + 3, none⟩ = some (.int .i64 ((rd_T33 x8_3 (ji22)).f3)) := hS_
                       refine norm_ (a' := ?_) ?_ ?_
                       rotate_left
                       ·simp only [putAll, Act.put, List.setIfInBounds_toArray, List.set_cons_zero, List.set_cons_succ]
                        rfl
                       refine two_ (i := 10) (j := 14) (Ni := some 50) (Nj := some 10) #[true, true, true, true, true, true, true, true, true, true, true, false, false, false, false, true, false, false] #[true, true, true, true, true, true, true, true, true, true, false, false, false, false, true, true, false, false] rfl rfl rfl rfl (two_of HT_.out (by kernel_rfl)) (by decide) (by decide) (fun K hK => ?_) (fun K hK => ?_)
                       ·skip
                        refine goes_ Try.func35 (by kernel_rfl) rfl #[.agg #[.int .i64 ((rd_T33 x8_3 x9_3).f0), .int .i64 ((rd_T33 x8_3 x9_3).f1), .int .i64 ((rd_T33 x8_3 x9_3).f2), .int .i64 ((rd_T33 x8_3 x9_3).f3)], .agg #[.int .i64 ((rd_T33 x8_3 (ji22)).f0), .int .i64 ((rd_T33 x8_3 (ji22)).f1), .int .i64 ((rd_T33 x8_3 (ji22)).f2), .int .i64 ((rd_T33 x8_3 (ji22)).f3)], .int .i64 a1] (by rfl) rfl rfl (by (try simp only [List.map_toArray, List.map_cons, List.map_nil]); first | done | (simp only [hji22]; rfl) | rfl | (simp only [List.length_drop, List.length_take]; rfl)) ?_
                        with_reducible refine (spec_l10Pair.calls k3 ((rd_T33 x8_3 x9_3).f0) ((rd_T33 x8_3 x9_3).f1) ((rd_T33 x8_3 x9_3).f2) ((rd_T33 x8_3 x9_3).f3) ((rd_T33 x8_3 (ji22)).f0) ((rd_T33 x8_3 (ji22)).f1) ((rd_T33 x8_3 (ji22)).f2) ((rd_T33 x8_3 (ji22)).f3) a1 t301 t302 t303 t304 t305 t306 t307 t308 _ A24.out).mono ?_
                        rintro e w35 ⟨rfl, hb⟩
                        have HS0_ := hT hb hHeld.1
                        have HS1_ := hT hb hHeld.2.1
                        have HS2_ := hT hb hHeld.2.2.1
                        have HS3_ := hT hb hHeld.2.2.2.1
                        have HS4_ := hT hb hHeld.2.2.2.2.1
                        have HS5_ := hT hb hHeld.2.2.2.2.2.1
                        have HS6_ := hT hb hHeld.2.2.2.2.2.2.1
                        have HS7_ := hT hb hHeld.2.2.2.2.2.2.2
                        refine ⟨_, rfl, ?_⟩
                        replace HO_8 := Aside0.mk (Kd.R_below (rU HO_8.out) hb)
                        replace BK310 := bB (bV BK310) hb
                        replace HB := bH (lV1 GE310) hb
                        (try clear hb)
                        (try clear hb2)
                        (try clear hk)
                        (try clear hi)
                        refine hK.out _ _ ⟨HS0_, HS1_, HS2_, HS3_, HS4_, HS5_, HS6_, HS7_⟩ (fun hHeld => ?_)
                        clear hK K
                        refine norm_ (a' := ?_) ?_ ?_
                        rotate_left
                        ·show Act.put _ (some 50) _ = _
                         simp only [Act.put, List.setIfInBounds_toArray, List.set_cons_zero, List.set_cons_succ, i64_w, i32_w]
                         rfl
                        refine pureA 11 39 (bz 18 36863) rfl rfl (any_of HT_.out (by kernel_rfl)) ?_
                        refine pureA 12 51 (bz 18 40959) rfl rfl (any_of HT_.out (by kernel_rfl)) ?_
                        refine pureA 13 52 (bz 18 49151) rfl rfl (any_of HT_.out (by kernel_rfl)) ?_
                        exact norm_ nE (hJ10_15 (gb310) _ ⟨hHeld, (rU HO_8.out), (bV BK310), GW310.out, GE310.out, (lV1 GE310)⟩)
                       ·skip
                        refine box_step ?hg (N := 10) ?hd (cs := #[.int .i64 0, .int .i64 0, .int .i64 0, .int .i64 0]) (t := 33) ?hr ?_; (case hd => rfl); (case hg => rfl); (case hr => exact sE)
                        intro gb309 hg w35 hbox hb
                        have HS0_ := hT hb hHeld.1
                        have HS1_ := hT hb hHeld.2.1
                        have HS2_ := hT hb hHeld.2.2.1
                        have HS3_ := hT hb hHeld.2.2.2.1
                        have HS4_ := hT hb hHeld.2.2.2.2.1
                        have HS5_ := hT hb hHeld.2.2.2.2.2.1
                        have HS6_ := hT hb hHeld.2.2.2.2.2.2.1
                        have HS7_ := hT hb hHeld.2.2.2.2.2.2.2
                        replace HO_8 := Aside0.mk (Kd.R_below (Kd.R_elderB (rU HO_8.out) gb309 (Nat.le_of_eq hg.symm)) hb)
                        have BK309 := Aside0.mk hbox
                        have GW309 := gS w hg (lV1 GE310)
                        have GE309 := gS w hg (lV1 GE310)
                        replace HB := bH (lV1 GE310) hb
                        have NB310_309 := nL hg (bV BK310)
                        have NB309_310 := nG hg (bV BK310)
                        replace BK310 := bB (bV BK310) hb
                        clear hb hbox hg
                        refine hK.out _ _ ⟨HS0_, HS1_, HS2_, HS3_, HS4_, HS5_, HS6_, HS7_⟩ (fun hHeld => ?_)
                        clear hK K
                        refine norm_ (a' := ?_) ?_ ?_
                        rotate_left
                        ·show Act.put _ (some 10) _ = _
                         simp only [Act.put, List.setIfInBounds_toArray, List.set_cons_zero, List.set_cons_succ, i64_w, i32_w]
                         rfl
                        exact norm_ nE (hJ14_15 (gb309, gb310) _ ⟨hHeld, (by (with_reducible repeat (first | apply Kd.R_alloc | apply Kd.R_drewN | apply Kd.R_drew)); exact Kd.R_mono HO_8.out (fun _ hk => ⟨hk.2, hk.1⟩)), (bV BK309), (bV BK310), GW309.out, GE309.out, NB310_309.out, NB309_310.out, GW310.out, GE310.out, (lV2 GE310 GE309)⟩)
                     ·skip
                      rintro gb309 w34 ⟨hS_, h0_, h1_, h2_, h3_, h4_⟩
                      replace HO_8 : Aside0 (Kd.R k33 33 w34 w.heap.size (fun k_ => k_ ≠ gb309) (.slice (some ad299) x8_3.length co31) x8_3) := ⟨h0_⟩
                      have BK309 : Aside0 (w34.heap[gb309]? = some (.cells #[.int .i64 0, .int .i64 0, .int .i64 0, .int .i64 0] 33 (0, 0))) := ⟨h1_⟩
                      have GW309 : Aside0 (w.heap.size ≤ gb309) := ⟨h2_⟩
                      have GE309 : Aside0 (w.heap.size ≤ gb309) := ⟨h3_⟩
                      replace HB : Aside0 (Below w.heap.size w w34) := ⟨h4_⟩
                      clear h0_ h1_ h2_ h3_ h4_
                      have hHeld : w34.cell? (ad299.add ((x9_3).toNat * 4)) = some (.int .i64 ((rd_T33 x8_3 x9_3).f0)) ∧ w34.cell? ⟨(ad299.add ((x9_3).toNat * 4)).block, (ad299.add ((x9_3).toNat * 4)).off + 1, none⟩ = some (.int .i64 ((rd_T33 x8_3 x9_3).f1)) ∧ w34.cell? ⟨(ad299.add ((x9_3).toNat * 4)).block, (ad299.add ((x9_3).toNat * 4)).off + 2, none⟩ = some (.int .i64 ((rd_T33 x8_3 x9_3).f2)) ∧ w34.cell? ⟨(ad299.add ((x9_3).toNat * 4)).block, (ad299.add ((x9_3).toNat * 4)).off + 3, none⟩ = some (.int .i64 ((rd_T33 x8_3 x9_3).f3)) ∧ w34.cell? (ad299.add (((ji22)).toNat * 4)) = some (.int .i64 ((rd_T33 x8_3 (ji22)).f0)) ∧ w34.cell? ⟨(ad299.add (((ji22)).toNat * 4)).block, (ad299.add (((ji22)).toNat * 4)).off + 1, none⟩ = some (.int .i64 ((rd_T33 x8_3 (ji22)).f1)) ∧ w34.cell? ⟨(ad299.add (((ji22)).toNat * 4)).block, (ad299.add (((ji22)).toNat * 4)).off + 2, none⟩ = some (.int .i64 ((rd_T33 x8_3 (ji22)).f2)) ∧ w34.cell? ⟨(ad299.add (((ji22)).toNat * 4)).block, (ad299.add (((ji22)).toNat * 4)).off + 3, none⟩ = some (.int .i64 ((rd_T33 x8_3 (ji22)).f3)) := hS_
                      refine norm_ (a' := ?_) ?_ ?_
                      rotate_left
                      ·simp only [putAll, Act.put, List.setIfInBounds_toArray, List.set_cons_zero, List.set_cons_succ]
                       rfl
                      refine two_ (i := 10) (j := 15) (Ni := some 50) (Nj := some 11) #[true, true, true, true, true, true, true, true, true, true, true, false, false, false, true, false, false, false] #[true, true, true, true, true, true, true, true, true, true, false, false, false, false, true, true, false, false] rfl rfl rfl rfl (two_of HT_.out (by kernel_rfl)) (by decide) (by decide) (fun K hK => ?_) (fun K hK => ?_)
                      ·skip
                       refine goes_ Try.func35 (by kernel_rfl) rfl #[.agg #[.int .i64 ((rd_T33 x8_3 x9_3).f0), .int .i64 ((rd_T33 x8_3 x9_3).f1), .int .i64 ((rd_T33 x8_3 x9_3).f2), .int .i64 ((rd_T33 x8_3 x9_3).f3)], .agg #[.int .i64 ((rd_T33 x8_3 (ji22)).f0), .int .i64 ((rd_T33 x8_3 (ji22)).f1), .int .i64 ((rd_T33 x8_3 (ji22)).f2), .int .i64 ((rd_T33 x8_3 (ji22)).f3)], .int .i64 a1] (by rfl) rfl rfl (by (try simp only [List.map_toArray, List.map_cons, List.map_nil]); first | done | (simp only [hji22]; rfl) | rfl | (simp only [List.length_drop, List.length_take]; rfl)) ?_
                       with_reducible refine (spec_l10Pair.calls k3 ((rd_T33 x8_3 x9_3).f0) ((rd_T33 x8_3 x9_3).f1) ((rd_T33 x8_3 x9_3).f2) ((rd_T33 x8_3 x9_3).f3) ((rd_T33 x8_3 (ji22)).f0) ((rd_T33 x8_3 (ji22)).f1) ((rd_T33 x8_3 (ji22)).f2) ((rd_T33 x8_3 (ji22)).f3) a1 t301 t302 t303 t304 t305 t306 t307 t308 _ A24.out).mono ?_
                       rintro e w35 ⟨rfl, hb⟩
                       have HS0_ := hT hb hHeld.1
                       have HS1_ := hT hb hHeld.2.1
                       have HS2_ := hT hb hHeld.2.2.1
                       have HS3_ := hT hb hHeld.2.2.2.1
                       have HS4_ := hT hb hHeld.2.2.2.2.1
                       have HS5_ := hT hb hHeld.2.2.2.2.2.1
                       have HS6_ := hT hb hHeld.2.2.2.2.2.2.1
                       have HS7_ := hT hb hHeld.2.2.2.2.2.2.2
                       refine ⟨_, rfl, ?_⟩
                       replace HO_8 := Aside0.mk (Kd.R_below (rU HO_8.out) hb)
                       replace BK309 := bB (bV BK309) hb
                       replace HB := bH (lV1 GE309) hb
                       (try clear hb)
                       (try clear hb2)
                       (try clear hk)
                       (try clear hi)
                       refine hK.out _ _ ⟨HS0_, HS1_, HS2_, HS3_, HS4_, HS5_, HS6_, HS7_⟩ (fun hHeld => ?_)
                       clear hK K
                       refine norm_ (a' := ?_) ?_ ?_
                       rotate_left
                       ·show Act.put _ (some 50) _ = _
                        simp only [Act.put, List.setIfInBounds_toArray, List.set_cons_zero, List.set_cons_succ, i64_w, i32_w]
                        rfl
                       refine pureA 11 39 (bz 18 20479) rfl rfl (any_of HT_.out (by kernel_rfl)) ?_
                       refine pureA 12 51 (bz 18 24575) rfl rfl (any_of HT_.out (by kernel_rfl)) ?_
                       refine pureA 13 52 (bz 18 32767) rfl rfl (any_of HT_.out (by kernel_rfl)) ?_
                       exact norm_ nE (hJ10_14 (gb309) _ ⟨hHeld, (rU HO_8.out), (bV BK309), GW309.out, GE309.out, (lV1 GE309)⟩)
                      ·skip
                       refine box_step ?hg (N := 11) ?hd (cs := #[.int .i64 0, .int .i64 0, .int .i64 0, .int .i64 0]) (t := 33) ?hr ?_; (case hd => rfl); (case hg => rfl); (case hr => exact sE)
                       intro gb310 hg w35 hbox hb
                       have HS0_ := hT hb hHeld.1
                       have HS1_ := hT hb hHeld.2.1
                       have HS2_ := hT hb hHeld.2.2.1
                       have HS3_ := hT hb hHeld.2.2.2.1
                       have HS4_ := hT hb hHeld.2.2.2.2.1
                       have HS5_ := hT hb hHeld.2.2.2.2.2.1
                       have HS6_ := hT hb hHeld.2.2.2.2.2.2.1
                       have HS7_ := hT hb hHeld.2.2.2.2.2.2.2
                       replace HO_8 := Aside0.mk (Kd.R_below (Kd.R_elderB (rU HO_8.out) gb310 (Nat.le_of_eq hg.symm)) hb)
                       have BK310 := Aside0.mk hbox
                       have GW310 := gS w hg (lV1 GE309)
                       have GE310 := gS w hg (lV1 GE309)
                       replace HB := bH (lV1 GE309) hb
                       have NB309_310 := nL hg (bV BK309)
                       have NB310_309 := nG hg (bV BK309)
                       replace BK309 := bB (bV BK309) hb
                       clear hb hbox hg
                       refine hK.out _ _ ⟨HS0_, HS1_, HS2_, HS3_, HS4_, HS5_, HS6_, HS7_⟩ (fun hHeld => ?_)
                       clear hK K
                       refine norm_ (a' := ?_) ?_ ?_
                       rotate_left
                       ·show Act.put _ (some 11) _ = _
                        simp only [Act.put, List.setIfInBounds_toArray, List.set_cons_zero, List.set_cons_succ, i64_w, i32_w]
                        rfl
                       exact norm_ nE (hJ14_15 (gb309, gb310) _ ⟨hHeld, (rU HO_8.out), (bV BK309), (bV BK310), GW309.out, GE309.out, NB310_309.out, NB309_310.out, GW310.out, GE310.out, (lV2 GE309 GE310)⟩)
                    ·skip
                     rintro _ w34 ⟨hS_, h0_, h1_⟩
                     replace HO_8 : Aside0 (Kd.R k33 33 w34 w.heap.size (fun _ => True) (.slice (some ad299) x8_3.length co31) x8_3) := ⟨h0_⟩
                     replace HB : Aside0 (Below w.heap.size w w34) := ⟨h1_⟩
                     clear h0_ h1_
                     have hHeld : w34.cell? (ad299.add ((x9_3).toNat * 4)) = some (.int .i64 ((rd_T33 x8_3 x9_3).f0)) ∧ w34.cell? ⟨(ad299.add ((x9_3).toNat * 4)).block, (ad299.add ((x9_3).toNat * 4)).off + 1, none⟩ = some (.int .i64 ((rd_T33 x8_3 x9_3).f1)) ∧ w34.cell? ⟨(ad299.add ((x9_3).toNat * 4)).block, (ad299.add ((x9_3).toNat * 4)).off + 2, none⟩ = some (.int .i64 ((rd_T33 x8_3 x9_3).f2)) ∧ w34.cell? ⟨(ad299.add ((x9_3).toNat * 4)).block, (ad299.add ((x9_3).toNat * 4)).off + 3, none⟩ = some (.int .i64 ((rd_T33 x8_3 x9_3).f3)) ∧ w34.cell? (ad299.add (((ji22)).toNat * 4)) = some (.int .i64 ((rd_T33 x8_3 (ji22)).f0)) ∧ w34.cell? ⟨(ad299.add (((ji22)).toNat * 4)).block, (ad299.add (((ji22)).toNat * 4)).off + 1, none⟩ = some (.int .i64 ((rd_T33 x8_3 (ji22)).f1)) ∧ w34.cell? ⟨(ad299.add (((ji22)).toNat * 4)).block, (ad299.add (((ji22)).toNat * 4)).off + 2, none⟩ = some (.int .i64 ((rd_T33 x8_3 (ji22)).f2)) ∧ w34.cell? ⟨(ad299.add (((ji22)).toNat * 4)).block, (ad299.add (((ji22)).toNat * 4)).off + 3, none⟩ = some (.int .i64 ((rd_T33 x8_3 (ji22)).f3)) := hS_
                     refine norm_ (a' := ?_) ?_ ?_
                     rotate_left
                     ·simp only [putAll, Act.put, List.setIfInBounds_toArray, List.set_cons_zero, List.set_cons_succ]
                      rfl
                     refine two_ (i := 14) (j := 15) (Ni := some 10) (Nj := some 11) #[true, true, true, true, true, true, true, true, true, true, true, true, true, true, true, false, false, false] #[true, true, true, true, true, true, true, true, true, true, true, true, true, true, false, true, false, false] rfl rfl rfl rfl (two_of HT_.out (by kernel_rfl)) (by decide) (by decide) (fun K hK => ?_) (fun K hK => ?_)
                     ·skip
                      refine box_step ?hg (N := 10) ?hd (cs := #[.int .i64 0, .int .i64 0, .int .i64 0, .int .i64 0]) (t := 33) ?hr ?_; (case hd => rfl); (case hg => rfl); (case hr => exact sE)
                      intro gb309 hg w35 hbox hb
                      have HS0_ := hT hb hHeld.1
                      have HS1_ := hT hb hHeld.2.1
                      have HS2_ := hT hb hHeld.2.2.1
                      have HS3_ := hT hb hHeld.2.2.2.1
                      have HS4_ := hT hb hHeld.2.2.2.2.1
                      have HS5_ := hT hb hHeld.2.2.2.2.2.1
                      have HS6_ := hT hb hHeld.2.2.2.2.2.2.1
                      have HS7_ := hT hb hHeld.2.2.2.2.2.2.2
                      replace HO_8 := Aside0.mk (Kd.R_below (Kd.R_elderB (rU HO_8.out) gb309 (Nat.le_of_eq hg.symm)) hb)
                      have BK309 := Aside0.mk hbox
                      have GW309 := gS w hg (lU)
                      have GE309 := gS w hg (lU)
                      replace HB := bH (lU) hb
                      clear hb hbox hg
                      refine hK.out _ _ ⟨HS0_, HS1_, HS2_, HS3_, HS4_, HS5_, HS6_, HS7_⟩ (fun hHeld => ?_)
                      clear hK K
                      refine norm_ (a' := ?_) ?_ ?_
                      rotate_left
                      ·show Act.put _ (some 10) _ = _
                       simp only [Act.put, List.setIfInBounds_toArray, List.set_cons_zero, List.set_cons_succ, i64_w, i32_w]
                       rfl
                      exact norm_ nE (hJ10_14 (gb309) _ ⟨hHeld, (by (with_reducible repeat (first | apply Kd.R_alloc | apply Kd.R_drewN | apply Kd.R_drew)); exact Kd.R_mono HO_8.out (fun _ hk => hk.2)), (bV BK309), GW309.out, GE309.out, (lV1 GE309)⟩)
                     ·skip
                      refine box_step ?hg (N := 11) ?hd (cs := #[.int .i64 0, .int .i64 0, .int .i64 0, .int .i64 0]) (t := 33) ?hr ?_; (case hd => rfl); (case hg => rfl); (case hr => exact sE)
                      intro gb310 hg w35 hbox hb
                      have HS0_ := hT hb hHeld.1
                      have HS1_ := hT hb hHeld.2.1
                      have HS2_ := hT hb hHeld.2.2.1
                      have HS3_ := hT hb hHeld.2.2.2.1
                      have HS4_ := hT hb hHeld.2.2.2.2.1
                      have HS5_ := hT hb hHeld.2.2.2.2.2.1
                      have HS6_ := hT hb hHeld.2.2.2.2.2.2.1
                      have HS7_ := hT hb hHeld.2.2.2.2.2.2.2
                      replace HO_8 := Aside0.mk (Kd.R_below (Kd.R_elderB (rU HO_8.out) gb310 (Nat.le_of_eq hg.symm)) hb)
                      have BK310 := Aside0.mk hbox
                      have GW310 := gS w hg (lU)
                      have GE310 := gS w hg (lU)
                      replace HB := bH (lU) hb
                      clear hb hbox hg
                      refine hK.out _ _ ⟨HS0_, HS1_, HS2_, HS3_, HS4_, HS5_, HS6_, HS7_⟩ (fun hHeld => ?_)
                      clear hK K
                      refine norm_ (a' := ?_) ?_ ?_
                      rotate_left
                      ·show Act.put _ (some 11) _ = _
                       simp only [Act.put, List.setIfInBounds_toArray, List.set_cons_zero, List.set_cons_succ, i64_w, i32_w]
                       rfl
                      exact norm_ nE (hJ10_15 (gb310) _ ⟨hHeld, (by (with_reducible repeat (first | apply Kd.R_alloc | apply Kd.R_drewN | apply Kd.R_drew)); exact Kd.R_mono HO_8.out (fun _ hk => hk.2)), (bV BK310), GW310.out, GE310.out, (lV1 GE310)⟩)
                   ·skip
                    rintro ⟨gb309, gb310⟩ w35 ⟨hS_, h0_, h1_, h2_, h3_, h4_, h5_, h6_, h7_, h8_, h9_⟩
                    replace HO_8 : Aside0 (Kd.R k33 33 w35 w.heap.size (fun k_ => k_ ≠ gb309 ∧ k_ ≠ gb310) (.slice (some ad299) x8_3.length co31) x8_3) := ⟨h0_⟩
                    have BK309 : Aside0 (w35.heap[gb309]? = some (.cells #[.int .i64 0, .int .i64 0, .int .i64 0, .int .i64 0] 33 (0, 0))) := ⟨h1_⟩
                    have BK310 : Aside0 (w35.heap[gb310]? = some (.cells #[.int .i64 0, .int .i64 0, .int .i64 0, .int .i64 0] 33 (0, 0))) := ⟨h2_⟩
                    have GW309 : Aside0 (w.heap.size ≤ gb309) := ⟨h3_⟩
                    have GE309 : Aside0 (w.heap.size ≤ gb309) := ⟨h4_⟩
                    have NB310_309 : Aside0 (gb310 ≠ gb309) := ⟨h5_⟩
                    have NB309_310 : Aside0 (gb309 ≠ gb310) := ⟨h6_⟩
                    have GW310 : Aside0 (w.heap.size ≤ gb310) := ⟨h7_⟩
                    have GE310 : Aside0 (w.heap.size ≤ gb310) := ⟨h8_⟩
                    replace HB : Aside0 (Below w.heap.size w w35) := ⟨h9_⟩
                    clear h0_ h1_ h2_ h3_ h4_ h5_ h6_ h7_ h8_ h9_
                    have hHeld : w35.cell? (ad299.add ((x9_3).toNat * 4)) = some (.int .i64 ((rd_T33 x8_3 x9_3).f0)) ∧ w35.cell? ⟨(ad299.add ((x9_3).toNat * 4)).block, (ad299.add ((x9_3).toNat * 4)).off + 1, none⟩ = some (.int .i64 ((rd_T33 x8_3 x9_3).f1)) ∧ w35.cell? ⟨(ad299.add ((x9_3).toNat * 4)).block, (ad299.add ((x9_3).toNat * 4)).off + 2, none⟩ = some (.int .i64 ((rd_T33 x8_3 x9_3).f2)) ∧ w35.cell? ⟨(ad299.add ((x9_3).toNat * 4)).block, (ad299.add ((x9_3).toNat * 4)).off + 3, none⟩ = some (.int .i64 ((rd_T33 x8_3 x9_3).f3)) ∧ w35.cell? (ad299.add (((ji22)).toNat * 4)) = some (.int .i64 ((rd_T33 x8_3 (ji22)).f0)) ∧ w35.cell? ⟨(ad299.add (((ji22)).toNat * 4)).block, (ad299.add (((ji22)).toNat * 4)).off + 1, none⟩ = some (.int .i64 ((rd_T33 x8_3 (ji22)).f1)) ∧ w35.cell? ⟨(ad299.add (((ji22)).toNat * 4)).block, (ad299.add (((ji22)).toNat * 4)).off + 2, none⟩ = some (.int .i64 ((rd_T33 x8_3 (ji22)).f2)) ∧ w35.cell? ⟨(ad299.add (((ji22)).toNat * 4)).block, (ad299.add (((ji22)).toNat * 4)).off + 3, none⟩ = some (.int .i64 ((rd_T33 x8_3 (ji22)).f3)) := hS_
                    refine norm_ (a' := ?_) ?_ ?_
                    rotate_left
                    ·simp only [putAll, Act.put, List.setIfInBounds_toArray, List.set_cons_zero, List.set_cons_succ]
                     rfl
                    refine one_ (i := 10) (N := some 50) (bz 18 51199) rfl rfl (one_of HT_.out (by kernel_rfl)) (by decide) (fun K hK => ?_)
                    refine goes_ Try.func35 (by kernel_rfl) rfl #[.agg #[.int .i64 ((rd_T33 x8_3 x9_3).f0), .int .i64 ((rd_T33 x8_3 x9_3).f1), .int .i64 ((rd_T33 x8_3 x9_3).f2), .int .i64 ((rd_T33 x8_3 x9_3).f3)], .agg #[.int .i64 ((rd_T33 x8_3 (ji22)).f0), .int .i64 ((rd_T33 x8_3 (ji22)).f1), .int .i64 ((rd_T33 x8_3 (ji22)).f2), .int .i64 ((rd_T33 x8_3 (ji22)).f3)], .int .i64 a1] (by rfl) rfl rfl (by (try simp only [List.map_toArray, List.map_cons, List.map_nil]); first | done | (simp only [hji22]; rfl) | rfl | (simp only [List.length_drop, List.length_take]; rfl)) ?_
                    with_reducible refine (spec_l10Pair.calls k3 ((rd_T33 x8_3 x9_3).f0) ((rd_T33 x8_3 x9_3).f1) ((rd_T33 x8_3 x9_3).f2) ((rd_T33 x8_3 x9_3).f3) ((rd_T33 x8_3 (ji22)).f0) ((rd_T33 x8_3 (ji22)).f1) ((rd_T33 x8_3 (ji22)).f2) ((rd_T33 x8_3 (ji22)).f3) a1 t301 t302 t303 t304 t305 t306 t307 t308 _ A24.out).mono ?_
                    rintro e w36 ⟨rfl, hb⟩
                    have HS0_ := hT hb hHeld.1
                    have HS1_ := hT hb hHeld.2.1
                    have HS2_ := hT hb hHeld.2.2.1
                    have HS3_ := hT hb hHeld.2.2.2.1
                    have HS4_ := hT hb hHeld.2.2.2.2.1
                    have HS5_ := hT hb hHeld.2.2.2.2.2.1
                    have HS6_ := hT hb hHeld.2.2.2.2.2.2.1
                    have HS7_ := hT hb hHeld.2.2.2.2.2.2.2
                    refine ⟨_, rfl, ?_⟩
                    replace HO_8 := Aside0.mk (Kd.R_below (rU HO_8.out) hb)
                    replace BK309 := bB (bV BK309) hb
                    replace BK310 := bB (bV BK310) hb
                    replace HB := bH (lV2 GE309 GE310) hb
                    (try clear hb)
                    (try clear hb2)
                    (try clear hk)
                    (try clear hi)
                    refine hK.out _ _ ⟨HS0_, HS1_, HS2_, HS3_, HS4_, HS5_, HS6_, HS7_⟩ (fun hHeld => ?_)
                    clear hK K
                    refine norm_ (a' := ?_) ?_ ?_
                    rotate_left
                    ·show Act.put _ (some 50) _ = _
                     simp only [Act.put, List.setIfInBounds_toArray, List.set_cons_zero, List.set_cons_succ, i64_w, i32_w]
                     rfl
                    refine pureA 11 39 (bz 18 53247) rfl rfl (any_of HT_.out (by kernel_rfl)) ?_
                    refine pureA 12 51 (bz 18 57343) rfl rfl (any_of HT_.out (by kernel_rfl)) ?_
                    refine pureA 13 52 (bz 18 65535) rfl rfl (any_of HT_.out (by kernel_rfl)) ?_
                    exact norm_ nE (hJ10_14_15 (gb309, gb310) _ ⟨hHeld, (rU HO_8.out), (bV BK309), (bV BK310), GW309.out, GE309.out, NB310_309.out, NB309_310.out, GW310.out, GE310.out, (lV2 GE309 GE310)⟩)
                  ·skip
                   rintro gb310 w35 ⟨hS_, h0_, h1_, h2_, h3_, h4_⟩
                   replace HO_8 : Aside0 (Kd.R k33 33 w35 w.heap.size (fun k_ => k_ ≠ gb310) (.slice (some ad299) x8_3.length co31) x8_3) := ⟨h0_⟩
                   have BK310 : Aside0 (w35.heap[gb310]? = some (.cells #[.int .i64 0, .int .i64 0, .int .i64 0, .int .i64 0] 33 (0, 0))) := ⟨h1_⟩
                   have GW310 : Aside0 (w.heap.size ≤ gb310) := ⟨h2_⟩
                   have GE310 : Aside0 (w.heap.size ≤ gb310) := ⟨h3_⟩
                   replace HB : Aside0 (Below w.heap.size w w35) := ⟨h4_⟩
                   clear h0_ h1_ h2_ h3_ h4_
                   have hHeld : w35.cell? (ad299.add ((x9_3).toNat * 4)) = some (.int .i64 ((rd_T33 x8_3 x9_3).f0)) ∧ w35.cell? ⟨(ad299.add ((x9_3).toNat * 4)).block, (ad299.add ((x9_3).toNat * 4)).off + 1, none⟩ = some (.int .i64 ((rd_T33 x8_3 x9_3).f1)) ∧ w35.cell? ⟨(ad299.add ((x9_3).toNat * 4)).block, (ad299.add ((x9_3).toNat * 4)).off + 2, none⟩ = some (.int .i64 ((rd_T33 x8_3 x9_3).f2)) ∧ w35.cell? ⟨(ad299.add ((x9_3).toNat * 4)).block, (ad299.add ((x9_3).toNat * 4)).off + 3, none⟩ = some (.int .i64 ((rd_T33 x8_3 x9_3).f3)) ∧ w35.cell? (ad299.add (((ji22)).toNat * 4)) = some (.int .i64 ((rd_T33 x8_3 (ji22)).f0)) ∧ w35.cell? ⟨(ad299.add (((ji22)).toNat * 4)).block, (ad299.add (((ji22)).toNat * 4)).off + 1, none⟩ = some (.int .i64 ((rd_T33 x8_3 (ji22)).f1)) ∧ w35.cell? ⟨(ad299.add (((ji22)).toNat * 4)).block, (ad299.add (((ji22)).toNat * 4)).off + 2, none⟩ = some (.int .i64 ((rd_T33 x8_3 (ji22)).f2)) ∧ w35.cell? ⟨(ad299.add (((ji22)).toNat * 4)).block, (ad299.add (((ji22)).toNat * 4)).off + 3, none⟩ = some (.int .i64 ((rd_T33 x8_3 (ji22)).f3)) := hS_
                   refine norm_ (a' := ?_) ?_ ?_
                   rotate_left
                   ·simp only [putAll, Act.put, List.setIfInBounds_toArray, List.set_cons_zero, List.set_cons_succ]
                    rfl
                   refine one_ (i := 14) (N := some 10) (bz 18 65535) rfl rfl (one_of HT_.out (by kernel_rfl)) (by decide) (fun K hK => ?_)
                   refine box_step ?hg (N := 10) ?hd (cs := #[.int .i64 0, .int .i64 0, .int .i64 0, .int .i64 0]) (t := 33) ?hr ?_; (case hd => rfl); (case hg => rfl); (case hr => exact sE)
                   intro gb309 hg w36 hbox hb
                   have HS0_ := hT hb hHeld.1
                   have HS1_ := hT hb hHeld.2.1
                   have HS2_ := hT hb hHeld.2.2.1
                   have HS3_ := hT hb hHeld.2.2.2.1
                   have HS4_ := hT hb hHeld.2.2.2.2.1
                   have HS5_ := hT hb hHeld.2.2.2.2.2.1
                   have HS6_ := hT hb hHeld.2.2.2.2.2.2.1
                   have HS7_ := hT hb hHeld.2.2.2.2.2.2.2
                   replace HO_8 := Aside0.mk (Kd.R_below (Kd.R_elderB (rU HO_8.out) gb309 (Nat.le_of_eq hg.symm)) hb)
                   have BK309 := Aside0.mk hbox
                   have GW309 := gS w hg (lV1 GE310)
                   have GE309 := gS w hg (lV1 GE310)
                   replace HB := bH (lV1 GE310) hb
                   have NB310_309 := nL hg (bV BK310)
                   have NB309_310 := nG hg (bV BK310)
                   replace BK310 := bB (bV BK310) hb
                   clear hb hbox hg
                   refine hK.out _ _ ⟨HS0_, HS1_, HS2_, HS3_, HS4_, HS5_, HS6_, HS7_⟩ (fun hHeld => ?_)
                   clear hK K
                   refine norm_ (a' := ?_) ?_ ?_
                   rotate_left
                   ·show Act.put _ (some 10) _ = _
                    simp only [Act.put, List.setIfInBounds_toArray, List.set_cons_zero, List.set_cons_succ, i64_w, i32_w]
                    rfl
                   exact norm_ nE (hJ10_14_15 (gb309, gb310) _ ⟨hHeld, (by (with_reducible repeat (first | apply Kd.R_alloc | apply Kd.R_drewN | apply Kd.R_drew)); exact Kd.R_mono HO_8.out (fun _ hk => ⟨hk.2, hk.1⟩)), (bV BK309), (bV BK310), GW309.out, GE309.out, NB310_309.out, NB309_310.out, GW310.out, GE310.out, (lV2 GE310 GE309)⟩)
                 ·skip
                  rintro gb309 w35 ⟨hS_, h0_, h1_, h2_, h3_, h4_⟩
                  replace HO_8 : Aside0 (Kd.R k33 33 w35 w.heap.size (fun k_ => k_ ≠ gb309) (.slice (some ad299) x8_3.length co31) x8_3) := ⟨h0_⟩
                  have BK309 : Aside0 (w35.heap[gb309]? = some (.cells #[.int .i64 0, .int .i64 0, .int .i64 0, .int .i64 0] 33 (0, 0))) := ⟨h1_⟩
                  have GW309 : Aside0 (w.heap.size ≤ gb309) := ⟨h2_⟩
                  have GE309 : Aside0 (w.heap.size ≤ gb309) := ⟨h3_⟩
                  replace HB : Aside0 (Below w.heap.size w w35) := ⟨h4_⟩
                  clear h0_ h1_ h2_ h3_ h4_
                  have hHeld : w35.cell? (ad299.add ((x9_3).toNat * 4)) = some (.int .i64 ((rd_T33 x8_3 x9_3).f0)) ∧ w35.cell? ⟨(ad299.add ((x9_3).toNat * 4)).block, (ad299.add ((x9_3).toNat * 4)).off + 1, none⟩ = some (.int .i64 ((rd_T33 x8_3 x9_3).f1)) ∧ w35.cell? ⟨(ad299.add ((x9_3).toNat * 4)).block, (ad299.add ((x9_3).toNat * 4)).off + 2, none⟩ = some (.int .i64 ((rd_T33 x8_3 x9_3).f2)) ∧ w35.cell? ⟨(ad299.add ((x9_3).toNat * 4)).block, (ad299.add ((x9_3).toNat * 4)).off + 3, none⟩ = some (.int .i64 ((rd_T33 x8_3 x9_3).f3)) ∧ w35.cell? (ad299.add (((ji22)).toNat * 4)) = some (.int .i64 ((rd_T33 x8_3 (ji22)).f0)) ∧ w35.cell? ⟨(ad299.add (((ji22)).toNat * 4)).block, (ad299.add (((ji22)).toNat * 4)).off + 1, none⟩ = some (.int .i64 ((rd_T33 x8_3 (ji22)).f1)) ∧ w35.cell? ⟨(ad299.add (((ji22)).toNat * 4)).block, (ad299.add (((ji22)).toNat * 4)).off + 2, none⟩ = some (.int .i64 ((rd_T33 x8_3 (ji22)).f2)) ∧ w35.cell? ⟨(ad299.add (((ji22)).toNat * 4)).block, (ad299.add (((ji22)).toNat * 4)).off + 3, none⟩ = some (.int .i64 ((rd_T33 x8_3 (ji22)).f3)) := hS_
                  refine norm_ (a' := ?_) ?_ ?_
                  rotate_left
                  ·simp only [putAll, Act.put, List.setIfInBounds_toArray, List.set_cons_zero, List.set_cons_succ]
                   rfl
                  refine one_ (i := 15) (N := some 11) (bz 18 65535) rfl rfl (one_of HT_.out (by kernel_rfl)) (by decide) (fun K hK => ?_)
                  refine box_step ?hg (N := 11) ?hd (cs := #[.int .i64 0, .int .i64 0, .int .i64 0, .int .i64 0]) (t := 33) ?hr ?_; (case hd => rfl); (case hg => rfl); (case hr => exact sE)
                  intro gb310 hg w36 hbox hb
                  have HS0_ := hT hb hHeld.1
                  have HS1_ := hT hb hHeld.2.1
                  have HS2_ := hT hb hHeld.2.2.1
                  have HS3_ := hT hb hHeld.2.2.2.1
                  have HS4_ := hT hb hHeld.2.2.2.2.1
                  have HS5_ := hT hb hHeld.2.2.2.2.2.1
                  have HS6_ := hT hb hHeld.2.2.2.2.2.2.1
                  have HS7_ := hT hb hHeld.2.2.2.2.2.2.2
                  replace HO_8 := Aside0.mk (Kd.R_below (Kd.R_elderB (rU HO_8.out) gb310 (Nat.le_of_eq hg.symm)) hb)
                  have BK310 := Aside0.mk hbox
                  have GW310 := gS w hg (lV1 GE309)
                  have GE310 := gS w hg (lV1 GE309)
                  replace HB := bH (lV1 GE309) hb
                  have NB309_310 := nL hg (bV BK309)
                  have NB310_309 := nG hg (bV BK309)
                  replace BK309 := bB (bV BK309) hb
                  clear hb hbox hg
                  refine hK.out _ _ ⟨HS0_, HS1_, HS2_, HS3_, HS4_, HS5_, HS6_, HS7_⟩ (fun hHeld => ?_)
                  clear hK K
                  refine norm_ (a' := ?_) ?_ ?_
                  rotate_left
                  ·show Act.put _ (some 11) _ = _
                   simp only [Act.put, List.setIfInBounds_toArray, List.set_cons_zero, List.set_cons_succ, i64_w, i32_w]
                   rfl
                  exact norm_ nE (hJ10_14_15 (gb309, gb310) _ ⟨hHeld, (rU HO_8.out), (bV BK309), (bV BK310), GW309.out, GE309.out, NB310_309.out, NB309_310.out, GW310.out, GE310.out, (lV2 GE309 GE310)⟩)
                rintro ⟨gb309, gb310⟩ w36 ⟨hS_, h0_, h1_, h2_, h3_, h4_, h5_, h6_, h7_, h8_, h9_⟩
                replace HO_8 : Aside0 (Kd.R k33 33 w36 w.heap.size (fun k_ => k_ ≠ gb309 ∧ k_ ≠ gb310) (.slice (some ad299) x8_3.length co31) x8_3) := ⟨h0_⟩
                have BK309 : Aside0 (w36.heap[gb309]? = some (.cells #[.int .i64 0, .int .i64 0, .int .i64 0, .int .i64 0] 33 (0, 0))) := ⟨h1_⟩
                have BK310 : Aside0 (w36.heap[gb310]? = some (.cells #[.int .i64 0, .int .i64 0, .int .i64 0, .int .i64 0] 33 (0, 0))) := ⟨h2_⟩
                have GW309 : Aside0 (w.heap.size ≤ gb309) := ⟨h3_⟩
                have GE309 : Aside0 (w.heap.size ≤ gb309) := ⟨h4_⟩
                have NB310_309 : Aside0 (gb310 ≠ gb309) := ⟨h5_⟩
                have NB309_310 : Aside0 (gb309 ≠ gb310) := ⟨h6_⟩
                have GW310 : Aside0 (w.heap.size ≤ gb310) := ⟨h7_⟩
                have GE310 : Aside0 (w.heap.size ≤ gb310) := ⟨h8_⟩
                replace HB : Aside0 (Below w.heap.size w w36) := ⟨h9_⟩
                clear h0_ h1_ h2_ h3_ h4_ h5_ h6_ h7_ h8_ h9_
                have hHeld : w36.cell? (ad299.add ((x9_3).toNat * 4)) = some (.int .i64 ((rd_T33 x8_3 x9_3).f0)) ∧ w36.cell? ⟨(ad299.add ((x9_3).toNat * 4)).block, (ad299.add ((x9_3).toNat * 4)).off + 1, none⟩ = some (.int .i64 ((rd_T33 x8_3 x9_3).f1)) ∧ w36.cell? ⟨(ad299.add ((x9_3).toNat * 4)).block, (ad299.add ((x9_3).toNat * 4)).off + 2, none⟩ = some (.int .i64 ((rd_T33 x8_3 x9_3).f2)) ∧ w36.cell? ⟨(ad299.add ((x9_3).toNat * 4)).block, (ad299.add ((x9_3).toNat * 4)).off + 3, none⟩ = some (.int .i64 ((rd_T33 x8_3 x9_3).f3)) ∧ w36.cell? (ad299.add (((ji22)).toNat * 4)) = some (.int .i64 ((rd_T33 x8_3 (ji22)).f0)) ∧ w36.cell? ⟨(ad299.add (((ji22)).toNat * 4)).block, (ad299.add (((ji22)).toNat * 4)).off + 1, none⟩ = some (.int .i64 ((rd_T33 x8_3 (ji22)).f1)) ∧ w36.cell? ⟨(ad299.add (((ji22)).toNat * 4)).block, (ad299.add (((ji22)).toNat * 4)).off + 2, none⟩ = some (.int .i64 ((rd_T33 x8_3 (ji22)).f2)) ∧ w36.cell? ⟨(ad299.add (((ji22)).toNat * 4)).block, (ad299.add (((ji22)).toNat * 4)).off + 3, none⟩ = some (.int .i64 ((rd_T33 x8_3 (ji22)).f3)) := hS_
                refine norm_ (a' := ?_) ?_ ?_
                rotate_left
                ·simp only [putAll, Act.put, List.setIfInBounds_toArray, List.set_cons_zero, List.set_cons_succ]
                 rfl
                refine one_ (i := 16) (N := none) (bz 18 131071) rfl rfl (one_of HT_.out (by kernel_rfl)) (by decide) (fun K hK => ?_)
                have hs37 : w36.cell? ⟨gb309, 0, none⟩ = some (.int .i64 0) := (blk_cell BK309.out 0).trans rfl
                have hfs37 := blk_frozen BK309.out 0
                have hns37_1 := NB310_309.out
                have hms37_1 := NB309_310.out
                have hs38 : w36.cell? ⟨gb309, 1, none⟩ = some (.int .i64 0) := (blk_cell BK309.out 1).trans rfl
                have hfs38 := blk_frozen BK309.out 1
                have hns38_1 := NB310_309.out
                have hms38_1 := NB309_310.out
                have hs39 : w36.cell? ⟨gb309, 2, none⟩ = some (.int .i64 0) := (blk_cell BK309.out 2).trans rfl
                have hfs39 := blk_frozen BK309.out 2
                have hns39_1 := NB310_309.out
                have hms39_1 := NB309_310.out
                have hs40 : w36.cell? ⟨gb309, 3, none⟩ = some (.int .i64 0) := (blk_cell BK309.out 3).trans rfl
                have hfs40 := blk_frozen BK309.out 3
                have hns40_1 := NB310_309.out
                have hms40_1 := NB309_310.out
                refine skip_ (w1 := ?_) (by rfl) rfl ?_ ?_
                rotate_left
                ·go_simp
                 rfl
                refine hK.out _ _ ⟨(cf4 (Kd.own_blk (Kd.R_away HO_8.out (fun _ hk => hk.1))) hHeld.1), (cf4 (Kd.own_blk (Kd.R_away HO_8.out (fun _ hk => hk.1))) hHeld.2.1), (cf4 (Kd.own_blk (Kd.R_away HO_8.out (fun _ hk => hk.1))) hHeld.2.2.1), (cf4 (Kd.own_blk (Kd.R_away HO_8.out (fun _ hk => hk.1))) hHeld.2.2.2.1), (cf4 (Kd.own_blk (Kd.R_away HO_8.out (fun _ hk => hk.1))) hHeld.2.2.2.2.1), (cf4 (Kd.own_blk (Kd.R_away HO_8.out (fun _ hk => hk.1))) hHeld.2.2.2.2.2.1), (cf4 (Kd.own_blk (Kd.R_away HO_8.out (fun _ hk => hk.1))) hHeld.2.2.2.2.2.2.1), (cf4 (Kd.own_blk (Kd.R_away HO_8.out (fun _ hk => hk.1))) hHeld.2.2.2.2.2.2.2)⟩ (fun hHeld => ?_)
                clear hK K
                refine one_ (i := 17) (N := none) (bz 18 262143) rfl rfl (one_of HT_.out (by kernel_rfl)) (by decide) (fun K hK => ?_)
                have hs41 : w36.cell? ⟨gb310, 0, none⟩ = some (.int .i64 0) := (blk_cell BK310.out 0).trans rfl
                have hfs41 := blk_frozen BK310.out 0
                have hns41_0 := NB309_310.out
                have hms41_0 := NB310_309.out
                have hs42 : w36.cell? ⟨gb310, 1, none⟩ = some (.int .i64 0) := (blk_cell BK310.out 1).trans rfl
                have hfs42 := blk_frozen BK310.out 1
                have hns42_0 := NB309_310.out
                have hms42_0 := NB310_309.out
                have hs43 : w36.cell? ⟨gb310, 2, none⟩ = some (.int .i64 0) := (blk_cell BK310.out 2).trans rfl
                have hfs43 := blk_frozen BK310.out 2
                have hns43_0 := NB309_310.out
                have hms43_0 := NB310_309.out
                have hs44 : w36.cell? ⟨gb310, 3, none⟩ = some (.int .i64 0) := (blk_cell BK310.out 3).trans rfl
                have hfs44 := blk_frozen BK310.out 3
                have hns44_0 := NB309_310.out
                have hms44_0 := NB310_309.out
                refine skip_ (w1 := ?_) (by rfl) rfl ?_ ?_
                rotate_left
                ·go_simp
                 rfl
                refine hK.out _ _ ⟨(cf4 (Kd.own_blk (Kd.R_away HO_8.out (fun _ hk => hk.2))) hHeld.1), (cf4 (Kd.own_blk (Kd.R_away HO_8.out (fun _ hk => hk.2))) hHeld.2.1), (cf4 (Kd.own_blk (Kd.R_away HO_8.out (fun _ hk => hk.2))) hHeld.2.2.1), (cf4 (Kd.own_blk (Kd.R_away HO_8.out (fun _ hk => hk.2))) hHeld.2.2.2.1), (cf4 (Kd.own_blk (Kd.R_away HO_8.out (fun _ hk => hk.2))) hHeld.2.2.2.2.1), (cf4 (Kd.own_blk (Kd.R_away HO_8.out (fun _ hk => hk.2))) hHeld.2.2.2.2.2.1), (cf4 (Kd.own_blk (Kd.R_away HO_8.out (fun _ hk => hk.2))) hHeld.2.2.2.2.2.2.1), (cf4 (Kd.own_blk (Kd.R_away HO_8.out (fun _ hk => hk.2))) hHeld.2.2.2.2.2.2.2)⟩ (fun hHeld => ?_)
                clear hK K
                refine done_ (done_of HT_.out (by kernel_rfl)) ?_
                have hnb45 := NB309_310.out
                have hnc45 := NB310_309.out
                have hcz46_0 := cz BK309 0 (.int .i64 0)
                have hcz46_1 := cz BK309 1 (.int .i64 0)
                have hcz46_2 := cz BK309 2 (.int .i64 0)
                have hcz46_3 := cz BK309 3 (.int .i64 0)
                have hfz46_0 := fz BK309 0
                have hfz46_1 := fz BK309 1
                have hfz46_2 := fz BK309 2
                have hfz46_3 := fz BK309 3
                try go_wp2_with (first | ((with_reducible refine gate_callee (f := 36) rfl ?_); refine goesL_ (some 54) rfl rfl Try.func36 (by kernel_rfl) rfl #[.agg #[.int .i64 t301, .int .i64 t302, .int .i64 t303, .int .i64 t304]] rfl aE ?_; (with_reducible refine (spec_l10Body.calls t301 t302 t303 t304 true _ A25.out).mono ?_); rintro e w47 ⟨rfl, hb⟩; refine ⟨_, rfl, ?_⟩; replace HO_8 := Aside0.mk (Kd.R_below (rU (Kd.R_mono (Kd.R_mono (Kd.R_far (p := ⟨gb310, 3, none⟩) (Kd.R_far (p := ⟨gb310, 2, none⟩) (Kd.R_far (p := ⟨gb310, 1, none⟩) (Kd.R_far (p := ⟨gb310, 0, none⟩) (Kd.R_far (p := ⟨gb309, 3, none⟩) (Kd.R_far (p := ⟨gb309, 2, none⟩) (Kd.R_far (p := ⟨gb309, 1, none⟩) (Kd.R_far (p := ⟨gb309, 0, none⟩) (Kd.R_mono (Kd.R_mono HO_8.out (fun k_ hk => (⟨hk, hk.1⟩ : _ ∧ k_ ≠ gb309))) (fun k_ hk => (⟨hk, hk.1.2⟩ : _ ∧ k_ ≠ gb310))) (fun _ hk => hk.1.2) (.int .i64 t301)) (fun _ hk => hk.1.2) (.int .i64 t302)) (fun _ hk => hk.1.2) (.int .i64 t303)) (fun _ hk => hk.1.2) (.int .i64 t304)) (fun _ hk => hk.2) (.int .i64 t305)) (fun _ hk => hk.2) (.int .i64 t306)) (fun _ hk => hk.2) (.int .i64 t307)) (fun _ hk => hk.2) (.int .i64 t308)) (fun _ h_ => h_.1)) (fun _ h_ => h_.1))) hb); replace BK309 := Aside0.mk (blk_below (g := gb309) (o := .cells #[.int .i64 t301, .int .i64 t302, .int .i64 t303, .int .i64 t304] 33 (0, 0)) (by refine bU ?_; refine blk_far ?_ NB309_310.out _; refine bU ?_; refine blk_far ?_ NB309_310.out _; refine bU ?_; refine blk_far ?_ NB309_310.out _; refine bU ?_; refine blk_far ?_ NB309_310.out _; refine bU ?_; refine blk_put (cs := #[.int .i64 t301, .int .i64 t302, .int .i64 t303, .int .i64 0]) ?_ 3 _ rfl; refine bU ?_; refine blk_put (cs := #[.int .i64 t301, .int .i64 t302, .int .i64 0, .int .i64 0]) ?_ 2 _ rfl; refine bU ?_; refine blk_put (cs := #[.int .i64 t301, .int .i64 0, .int .i64 0, .int .i64 0]) ?_ 1 _ rfl; refine bU ?_; refine blk_put (cs := #[.int .i64 0, .int .i64 0, .int .i64 0, .int .i64 0]) ?_ 0 _ rfl; refine bU ?_; exact BK309.out) hb); replace BK310 := Aside0.mk (blk_below (g := gb310) (o := .cells #[.int .i64 t305, .int .i64 t306, .int .i64 t307, .int .i64 t308] 33 (0, 0)) (by refine bU ?_; refine blk_put (cs := #[.int .i64 t305, .int .i64 t306, .int .i64 t307, .int .i64 0]) ?_ 3 _ rfl; refine bU ?_; refine blk_put (cs := #[.int .i64 t305, .int .i64 t306, .int .i64 0, .int .i64 0]) ?_ 2 _ rfl; refine bU ?_; refine blk_put (cs := #[.int .i64 t305, .int .i64 0, .int .i64 0, .int .i64 0]) ?_ 1 _ rfl; refine bU ?_; refine blk_put (cs := #[.int .i64 0, .int .i64 0, .int .i64 0, .int .i64 0]) ?_ 0 _ rfl; refine bU ?_; refine blk_far ?_ NB310_309.out _; refine bU ?_; refine blk_far ?_ NB310_309.out _; refine bU ?_; refine blk_far ?_ NB310_309.out _; refine bU ?_; refine blk_far ?_ NB310_309.out _; refine bU ?_; exact BK310.out) hb); replace HB := bH (lV2 GE309 GE310) hb; (try clear hb); have hcz48_0 := cz BK310 0 (.int .i64 t305); have hcz48_1 := cz BK310 1 (.int .i64 t306); have hcz48_2 := cz BK310 2 (.int .i64 t307); have hcz48_3 := cz BK310 3 (.int .i64 t308); have hfz48_0 := fz BK310 0; have hfz48_1 := fz BK310 1; have hfz48_2 := fz BK310 2; have hfz48_3 := fz BK310 3) | (go_at_call 36; (with_reducible refine (spec_l10Body.calls t305 t306 t307 t308 true _ A27.out).mono ?_); rintro e w49 ⟨rfl, hb⟩; replace HO_8 := Aside0.mk (Kd.R_below (rU HO_8.out) hb); replace BK309 := bB (bV BK309) hb; replace BK310 := bB (bV BK310) hb; replace HB := bH (lV2 GE309 GE310) hb; (try clear hb); have hcz50_0 := cz BK309 0 (.int .i64 t301); have hcz50_1 := cz BK309 1 (.int .i64 t302); have hcz50_2 := cz BK309 2 (.int .i64 t303); have hcz50_3 := cz BK309 3 (.int .i64 t304); have hfz50_0 := fz BK309 0; have hfz50_1 := fz BK309 1; have hfz50_2 := fz BK309 2; have hfz50_3 := fz BK309 3; have p29 : 0 ≤ (x9_3 : Int) := of_decide_eq_true hE; have q29 : (x9_3 : Int) < ((x8_3.length : Int) : Int) := of_decide_eq_true hE; obtain ⟨go29, co29, eo29, gb29, gl29, cl29, HG29⟩ := Kd.R_form HO_8.out (by omega); (first | cases eo29 | (injection eo29 with ea_ en_ ec_; (first | subst ea_ | (injection ea_ with ea_; subst ea_)); subst ec_; clear en_)); have GB29 := Aside0.mk gb29; have GG29 := Aside0.mk HG29; clear gb29 gl29 HG29; (first | simp only [add_plain] at hx299_0 | skip); (first | simp only [add_plain] at hx299_1 | skip); (first | simp only [add_plain] at hx299_2 | skip); (first | simp only [add_plain] at hx299_3 | skip); (first | simp only [add_plain] at hx300_0 | skip); (first | simp only [add_plain] at hx300_1 | skip); (first | simp only [add_plain] at hx300_2 | skip); (first | simp only [add_plain] at hx300_3 | skip); obtain ⟨ce29, hcl29, hM29, hcc29, hfr29⟩ := Kd.R_elem HO_8.out z33 (x9_3 : Int) p29 q29; obtain rfl := k33_openM hM29; have hx29_0 : w49.cell? ⟨go29, (x9_3 : Int).toNat * 4, none⟩ = some (.int .i64 ((rd_T33 x8_3 x9_3).f0)) := hcc29 0 _ rfl; have hx29_1 : w49.cell? ⟨go29, (x9_3 : Int).toNat * 4 + 1, none⟩ = some (.int .i64 ((rd_T33 x8_3 x9_3).f1)) := hcc29 1 _ rfl; have hx29_2 : w49.cell? ⟨go29, (x9_3 : Int).toNat * 4 + 2, none⟩ = some (.int .i64 ((rd_T33 x8_3 x9_3).f2)) := hcc29 2 _ rfl; have hx29_3 : w49.cell? ⟨go29, (x9_3 : Int).toNat * 4 + 3, none⟩ = some (.int .i64 ((rd_T33 x8_3 x9_3).f3)) := hcc29 3 _ rfl; have hf29_0 : w49.frozen? ⟨go29, (x9_3 : Int).toNat * 4, none⟩ = false := hfr29 0; have hf29_1 : w49.frozen? ⟨go29, (x9_3 : Int).toNat * 4 + 1, none⟩ = false := hfr29 1; have hf29_2 : w49.frozen? ⟨go29, (x9_3 : Int).toNat * 4 + 2, none⟩ = false := hfr29 2; have hf29_3 : w49.frozen? ⟨go29, (x9_3 : Int).toNat * 4 + 3, none⟩ = false := hfr29 3; (try clear hcl29); (try clear hcc29); (try clear hfr29); (try clear hM29); replace p29 := eq_true p29; replace q29 := eq_true q29; have HX51 := Aside0.mk (show Kd.R k33 33 w49 w.heap.size (fun k_ => k_ ≠ gb309 ∧ k_ ≠ gb310) (.slice (some ⟨go29, 0, none⟩) x8_3.length co31) x8_3 from (rU HO_8.out)); obtain ⟨ce51, hcl51, hM51, hcc51, hfr51⟩ := Kd.R_elem HX51.out z33 (x9_3 : Int) (of_decide_eq_true hE) (by have h_ : (x9_3 : Int) < ((x8_3.length : Int) : Int) := of_decide_eq_true hE; first | exact h_ | (have e_ := (Kd.R_reads' HO_8.out).1; omega) | simpa using h_); obtain rfl := k33_openM hM51; have HP51 := Kd.R_seg HX51.out (x9_3 : Int) (of_decide_eq_true hE) (by have h_ : (x9_3 : Int) < ((x8_3.length : Int) : Int) := of_decide_eq_true hE; first | exact h_ | (have e_ := (Kd.R_reads' HO_8.out).1; omega) | simpa using h_) (seg := [.int .i64 t301, .int .i64 t302, .int .i64 t303, .int .i64 t304]) (j := 0) hcl51 hcc51 (show 4 ≤ 4 from by decide) (x' := (⟨t301, t302, t303, t304⟩ : S33)) (k33_mkM _ _ _ (⟨t301, t302, t303, t304⟩ : S33) ) (fun _ hk => hk); have hx51_0 := hcc51 0 _ rfl; (try simp only [show (k33).sz = 4 from rfl, Nat.mul_one, Nat.add_zero] at hx51_0); have hf51_0 := hfr51 0; (try simp only [show (k33).sz = 4 from rfl, Nat.mul_one, Nat.add_zero] at hf51_0); have hx51_1 := hcc51 1 _ rfl; (try simp only [show (k33).sz = 4 from rfl, Nat.mul_one, Nat.add_zero] at hx51_1); have hf51_1 := hfr51 1; (try simp only [show (k33).sz = 4 from rfl, Nat.mul_one, Nat.add_zero] at hf51_1); have hx51_2 := hcc51 2 _ rfl; (try simp only [show (k33).sz = 4 from rfl, Nat.mul_one, Nat.add_zero] at hx51_2); have hf51_2 := hfr51 2; (try simp only [show (k33).sz = 4 from rfl, Nat.mul_one, Nat.add_zero] at hf51_2); have hx51_3 := hcc51 3 _ rfl; (try simp only [show (k33).sz = 4 from rfl, Nat.mul_one, Nat.add_zero] at hx51_3); have hf51_3 := hfr51 3; (try simp only [show (k33).sz = 4 from rfl, Nat.mul_one, Nat.add_zero] at hf51_3); (try clear hcl51); (try clear hcc51); (try clear hfr51); (try clear hM51)) | ((with_reducible refine gate_store (t := 33) (p := 64) rfl ?_); refine store_event (t := 33) (p := 64) (v := ?vo_w52) (w1 := ((((w49.setCell ⟨go29, (x9_3 : Int).toNat * 4, none⟩ (.int .i64 t301)).setCell ⟨go29, (x9_3 : Int).toNat * 4 + 1, none⟩ (.int .i64 t302)).setCell ⟨go29, (x9_3 : Int).toNat * 4 + 2, none⟩ (.int .i64 t303)).setCell ⟨go29, (x9_3 : Int).toNat * 4 + 3, none⟩ (.int .i64 t304))) ?hg ?ho ?hn ?hr ?_; (case ho => rfl); (case hg => rfl); (case hn => rfl); (case hr => exact sE); intro w52 hw; have hg : w49.grownBy w52 (some go29) := (by rw [hw]; exact HP51.2); have hp_ : Kd.R k33 33 w52 w.heap.size (fun k_ => k_ ≠ gb309 ∧ k_ ≠ gb310) (.slice (some ⟨go29, 0, none⟩) x8_3.length co31) y313 := (by rw [hw, Ny313.out]; exact HP51.1); clear HP51; replace BK309 := Aside0.mk (blk_grown (g := gb309) (o := .cells #[.int .i64 t301, .int .i64 t302, .int .i64 t303, .int .i64 t304] 33 (0, 0)) (bV BK309) hg (Kd.R_away HO_8.out (fun _ hk => hk.1))); replace BK310 := Aside0.mk (blk_grown (g := gb310) (o := .cells #[.int .i64 t305, .int .i64 t306, .int .i64 t307, .int .i64 t308] 33 (0, 0)) (bV BK310) hg (Kd.R_away HO_8.out (fun _ hk => hk.2))); replace HO_8 := Aside0.mk hp_; replace HB := Aside0.mk ((by rw [hw]; exact below_set (below_set (below_set (below_set (HB.out) GB29.out) GB29.out) GB29.out) GB29.out : Below w.heap.size w w52)); clear hg hw hp_; have hcz53_0 := cz BK310 0 (.int .i64 t305); have hcz53_1 := cz BK310 1 (.int .i64 t306); have hcz53_2 := cz BK310 2 (.int .i64 t307); have hcz53_3 := cz BK310 3 (.int .i64 t308); have hfz53_0 := fz BK310 0; have hfz53_1 := fz BK310 1; have hfz53_2 := fz BK310 2; have hfz53_3 := fz BK310 3; have p30 : 0 ≤ ((ji22) : Int) := of_decide_eq_true hE; have q30 : ((ji22) : Int) < ((x8_3.length : Int) : Int) := of_decide_eq_true hE; obtain ⟨ce30, hcl30, hM30, hcc30, hfr30⟩ := Kd.R_elem HO_8.out z33 ((ji22) : Int) p30 q30; obtain rfl := k33_openM hM30; have hx30_0 : w52.cell? ⟨go29, ((ji22) : Int).toNat * 4, none⟩ = some (.int .i64 ((rd_T33 y313 (ji22)).f0)) := hcc30 0 _ rfl; have hx30_1 : w52.cell? ⟨go29, ((ji22) : Int).toNat * 4 + 1, none⟩ = some (.int .i64 ((rd_T33 y313 (ji22)).f1)) := hcc30 1 _ rfl; have hx30_2 : w52.cell? ⟨go29, ((ji22) : Int).toNat * 4 + 2, none⟩ = some (.int .i64 ((rd_T33 y313 (ji22)).f2)) := hcc30 2 _ rfl; have hx30_3 : w52.cell? ⟨go29, ((ji22) : Int).toNat * 4 + 3, none⟩ = some (.int .i64 ((rd_T33 y313 (ji22)).f3)) := hcc30 3 _ rfl; have hf30_0 : w52.frozen? ⟨go29, ((ji22) : Int).toNat * 4, none⟩ = false := hfr30 0; have hf30_1 : w52.frozen? ⟨go29, ((ji22) : Int).toNat * 4 + 1, none⟩ = false := hfr30 1; have hf30_2 : w52.frozen? ⟨go29, ((ji22) : Int).toNat * 4 + 2, none⟩ = false := hfr30 2; have hf30_3 : w52.frozen? ⟨go29, ((ji22) : Int).toNat * 4 + 3, none⟩ = false := hfr30 3; (try clear hcl30); (try clear hcc30); (try clear hfr30); (try clear hM30); replace p30 := eq_true p30; replace q30 := eq_true q30; have HX54 := Aside0.mk (show Kd.R k33 33 w52 w.heap.size (fun k_ => k_ ≠ gb309 ∧ k_ ≠ gb310) (.slice (some ⟨go29, 0, none⟩) x8_3.length co31) y313 from (rU HO_8.out)); obtain ⟨ce54, hcl54, hM54, hcc54, hfr54⟩ := Kd.R_elem HX54.out z33 ((ji22) : Int) (of_decide_eq_true hE) (by have h_ : ((ji22) : Int) < ((x8_3.length : Int) : Int) := of_decide_eq_true hE; first | exact h_ | (have e_ := (Kd.R_reads' HO_8.out).1; omega) | simpa using h_); obtain rfl := k33_openM hM54; have HP54 := Kd.R_seg HX54.out ((ji22) : Int) (of_decide_eq_true hE) (by have h_ : ((ji22) : Int) < ((x8_3.length : Int) : Int) := of_decide_eq_true hE; first | exact h_ | (have e_ := (Kd.R_reads' HO_8.out).1; omega) | simpa using h_) (seg := [.int .i64 t305, .int .i64 t306, .int .i64 t307, .int .i64 t308]) (j := 0) hcl54 hcc54 (show 4 ≤ 4 from by decide) (x' := (⟨t305, t306, t307, t308⟩ : S33)) (k33_mkM _ _ _ (⟨t305, t306, t307, t308⟩ : S33) ) (fun _ hk => hk); have hx54_0 := hcc54 0 _ rfl; (try simp only [show (k33).sz = 4 from rfl, Nat.mul_one, Nat.add_zero] at hx54_0); have hf54_0 := hfr54 0; (try simp only [show (k33).sz = 4 from rfl, Nat.mul_one, Nat.add_zero] at hf54_0); have hx54_1 := hcc54 1 _ rfl; (try simp only [show (k33).sz = 4 from rfl, Nat.mul_one, Nat.add_zero] at hx54_1); have hf54_1 := hfr54 1; (try simp only [show (k33).sz = 4 from rfl, Nat.mul_one, Nat.add_zero] at hf54_1); have hx54_2 := hcc54 2 _ rfl; (try simp only [show (k33).sz = 4 from rfl, Nat.mul_one, Nat.add_zero] at hx54_2); have hf54_2 := hfr54 2; (try simp only [show (k33).sz = 4 from rfl, Nat.mul_one, Nat.add_zero] at hf54_2); have hx54_3 := hcc54 3 _ rfl; (try simp only [show (k33).sz = 4 from rfl, Nat.mul_one, Nat.add_zero] at hx54_3); have hf54_3 := hfr54 3; (try simp only [show (k33).sz = 4 from rfl, Nat.mul_one, Nat.add_zero] at hf54_3); (try clear hcl54); (try clear hcc54); (try clear hfr54); (try clear hM54)) | ((with_reducible refine gate_store (t := 33) (p := 69) rfl ?_); refine store_event (t := 33) (p := 69) (v := ?vo_w55) (w1 := ((((w52.setCell ⟨go29, ((ji22) : Int).toNat * 4, none⟩ (.int .i64 t305)).setCell ⟨go29, ((ji22) : Int).toNat * 4 + 1, none⟩ (.int .i64 t306)).setCell ⟨go29, ((ji22) : Int).toNat * 4 + 2, none⟩ (.int .i64 t307)).setCell ⟨go29, ((ji22) : Int).toNat * 4 + 3, none⟩ (.int .i64 t308))) ?hg ?ho ?hn ?hr ?_; (case ho => rfl); (case hg => rfl); (case hn => rfl); (case hr => exact sE); intro w55 hw; have hg : w52.grownBy w55 (some go29) := (by rw [hw]; exact HP54.2); have hp_ : Kd.R k33 33 w55 w.heap.size (fun k_ => k_ ≠ gb309 ∧ k_ ≠ gb310) (.slice (some ⟨go29, 0, none⟩) x8_3.length co31) y314 := (by rw [hw, Ny314.out]; exact HP54.1); clear HP54; replace BK309 := Aside0.mk (blk_grown (g := gb309) (o := .cells #[.int .i64 t301, .int .i64 t302, .int .i64 t303, .int .i64 t304] 33 (0, 0)) (bV BK309) hg (Kd.R_away HO_8.out (fun _ hk => hk.1))); replace BK310 := Aside0.mk (blk_grown (g := gb310) (o := .cells #[.int .i64 t305, .int .i64 t306, .int .i64 t307, .int .i64 t308] 33 (0, 0)) (bV BK310) hg (Kd.R_away HO_8.out (fun _ hk => hk.2))); replace HO_8 := Aside0.mk hp_; replace HB := Aside0.mk ((by rw [hw]; exact below_set (below_set (below_set (below_set (HB.out) GB29.out) GB29.out) GB29.out) GB29.out : Below w.heap.size w w55)); clear hg hw hp_))
                go_roundg k3
                case measure => have := HJ3.out; have := HK2.out; have := HK3.out; omega
                case rel => exact ⟨(y314), (ji22), (by first | rfl | (simp; done) | (simp only [← hji22] <;> (first | rfl | simp)) | (simp [*]; done) | exact not_isEmpty _ | exact (not_isEmpty _).symm | exact is_empty _ | exact (is_empty _).symm), H', ⟨by have := HJ3.out; have := HK2.out; have := HK3.out; omega⟩, ⟨by (with_reducible repeat (first | apply Kd.R_alloc | apply Kd.R_drewN | apply Kd.R_drew)); exact Kd.R_mono HO_8.out (fun _ hk => trivial)⟩, ⟨by repeat (first | (with_reducible first | exact HB.out | apply below_alloc | apply pw_below_drewN | apply below_drew1 | refine below_set ?_ GE309.out | refine below_set ?_ GE310.out) | exact HB.out)⟩⟩
               ·replace c28 := Bool.eq_false_iff.mpr c28
                subst c28
                have H1 : (some (([] : List (S33)), false)) = some (r1, r2) := by rw [if_neg (show ¬ (false = true) by decide)] at H; exact H
                clear H
                have H := H1
                clear H1
                simp only [Option.some.injEq, Prod.mk.injEq] at H
                obtain ⟨rfl, rfl⟩ := H
                obtain ⟨Ao56, co56, eo56⟩ := Kd.R_slice HO_8.out
                subst eo56
                try go_wp2
                replace HO_8 := Aside0.mk (Kd.R_drew HO_8.out)
                replace HB := Aside0.mk (below_drew1 HB.out)
                have p299 : 0 ≤ (x9_3 : Int) := of_decide_eq_true hE
                have q299 : x9_3 < (x8_3.length : Int) := of_decide_eq_true hE
                obtain ⟨ad299, e299, hx299_0, hx299_1, hx299_2, hx299_3⟩ := at_T33 (Kd.R_reads' HO_8.out).2.2 x9_3 p299 q299
                cases e299
                replace p299 := eq_true p299
                replace q299 := eq_true q299
                have p300 : 0 ≤ ((ji22) : Int) := of_decide_eq_true hE
                have q300 : (ji22) < (x8_3.length : Int) := of_decide_eq_true hE
                obtain ⟨ad300, e300, hx300_0, hx300_1, hx300_2, hx300_3⟩ := at_T33 (Kd.R_reads' HO_8.out).2.2 (ji22) p300 q300
                obtain rfl : ad299 = ad300 := (by injection e300)
                replace p300 := eq_true p300
                replace q300 := eq_true q300
                refine start_ (n := 18) (S := fun w' => w'.cell? (ad299.add ((x9_3).toNat * 4)) = some (.int .i64 ((rd_T33 x8_3 x9_3).f0)) ∧ w'.cell? ⟨(ad299.add ((x9_3).toNat * 4)).block, (ad299.add ((x9_3).toNat * 4)).off + 1, none⟩ = some (.int .i64 ((rd_T33 x8_3 x9_3).f1)) ∧ w'.cell? ⟨(ad299.add ((x9_3).toNat * 4)).block, (ad299.add ((x9_3).toNat * 4)).off + 2, none⟩ = some (.int .i64 ((rd_T33 x8_3 x9_3).f2)) ∧ w'.cell? ⟨(ad299.add ((x9_3).toNat * 4)).block, (ad299.add ((x9_3).toNat * 4)).off + 3, none⟩ = some (.int .i64 ((rd_T33 x8_3 x9_3).f3)) ∧ w'.cell? (ad299.add (((ji22)).toNat * 4)) = some (.int .i64 ((rd_T33 x8_3 (ji22)).f0)) ∧ w'.cell? ⟨(ad299.add (((ji22)).toNat * 4)).block, (ad299.add (((ji22)).toNat * 4)).off + 1, none⟩ = some (.int .i64 ((rd_T33 x8_3 (ji22)).f1)) ∧ w'.cell? ⟨(ad299.add (((ji22)).toNat * 4)).block, (ad299.add (((ji22)).toNat * 4)).off + 2, none⟩ = some (.int .i64 ((rd_T33 x8_3 (ji22)).f2)) ∧ w'.cell? ⟨(ad299.add (((ji22)).toNat * 4)).block, (ad299.add (((ji22)).toNat * 4)).off + 3, none⟩ = some (.int .i64 ((rd_T33 x8_3 (ji22)).f3))) (ds := []) #[false, false, false, false, false, false, false, false, false, false, false, false, false, false, false, false, false, false] (by kernel_rfl) rfl rfl ⟨hx299_0, hx299_1, hx299_2, hx299_3, hx300_0, hx300_1, hx300_2, hx300_3⟩ (fun hHeld => ?_); refine with_tabW spec_l10Push.tab9 spec_l10Push.bits9 (fun HT_ HW_ => ?_)
                generalize wr.drew = w57 at HO_8 HB hx299_0 hx299_1 hx299_2 hx299_3 hx300_0 hx300_1 hx300_2 hx300_3 hHeld ⊢
                refine pureA 0 40 (bz 18 1) rfl rfl (any_of HT_.out (by kernel_rfl)) ?_
                refine pureA 1 41 (bz 18 3) rfl rfl (any_of HT_.out (by kernel_rfl)) ?_
                refine pureA 2 42 (bz 18 7) rfl rfl (any_of HT_.out (by kernel_rfl)) ?_
                refine pureA 4 44 (bz 18 23) rfl rfl (any_of HT_.out (by kernel_rfl)) ?_
                refine pureA 5 45 (bz 18 55) rfl rfl (any_of HT_.out (by kernel_rfl)) ?_
                refine pureA 6 46 (bz 18 119) rfl rfl (any_of HT_.out (by kernel_rfl)) ?_
                refine pureA 7 47 (bz 18 247) rfl rfl (any_of HT_.out (by kernel_rfl)) ?_
                refine pureA 9 49 (bz 18 759) rfl rfl (any_of HT_.out (by kernel_rfl)) ?_
                refine takeA 3 43 (bz 18 767) rfl rfl (take_ofW HT_.out HW_.out (by kernel_rfl)) hHeld (by rintro w' ⟨s0, s1, s2, s3, s4, s5, s6, s7⟩; go_simp; with_reducible rfl) ?_
                refine takeA 8 48 (bz 18 1023) rfl rfl (take_ofW HT_.out HW_.out (by kernel_rfl)) hHeld (by rintro w' ⟨s0, s1, s2, s3, s4, s5, s6, s7⟩; go_simp; with_reducible rfl) ?_
                refine join_ (σ := Nat × Nat) 2 #[true, true, true, true, true, true, true, true, true, true, true, true, true, true, true, true, false, false] (fun s_ => [(50, .tuple #[.agg #[.int .i64 t301, .int .i64 t302, .int .i64 t303, .int .i64 t304], .agg #[.int .i64 t305, .int .i64 t306, .int .i64 t307, .int .i64 t308]]), (10, .pointer (some ⟨s_.1, 0, none⟩)), (11, .pointer (some ⟨s_.2, 0, none⟩)), (39, .tuple #[.agg #[.int .i64 t301, .int .i64 t302, .int .i64 t303, .int .i64 t304], .agg #[.int .i64 t305, .int .i64 t306, .int .i64 t307, .int .i64 t308]]), (51, .agg #[.int .i64 t301, .int .i64 t302, .int .i64 t303, .int .i64 t304]), (52, .agg #[.int .i64 t305, .int .i64 t306, .int .i64 t307, .int .i64 t308])]) (fun s_ w' => (w'.cell? (ad299.add ((x9_3).toNat * 4)) = some (.int .i64 ((rd_T33 x8_3 x9_3).f0)) ∧ w'.cell? ⟨(ad299.add ((x9_3).toNat * 4)).block, (ad299.add ((x9_3).toNat * 4)).off + 1, none⟩ = some (.int .i64 ((rd_T33 x8_3 x9_3).f1)) ∧ w'.cell? ⟨(ad299.add ((x9_3).toNat * 4)).block, (ad299.add ((x9_3).toNat * 4)).off + 2, none⟩ = some (.int .i64 ((rd_T33 x8_3 x9_3).f2)) ∧ w'.cell? ⟨(ad299.add ((x9_3).toNat * 4)).block, (ad299.add ((x9_3).toNat * 4)).off + 3, none⟩ = some (.int .i64 ((rd_T33 x8_3 x9_3).f3)) ∧ w'.cell? (ad299.add (((ji22)).toNat * 4)) = some (.int .i64 ((rd_T33 x8_3 (ji22)).f0)) ∧ w'.cell? ⟨(ad299.add (((ji22)).toNat * 4)).block, (ad299.add (((ji22)).toNat * 4)).off + 1, none⟩ = some (.int .i64 ((rd_T33 x8_3 (ji22)).f1)) ∧ w'.cell? ⟨(ad299.add (((ji22)).toNat * 4)).block, (ad299.add (((ji22)).toNat * 4)).off + 2, none⟩ = some (.int .i64 ((rd_T33 x8_3 (ji22)).f2)) ∧ w'.cell? ⟨(ad299.add (((ji22)).toNat * 4)).block, (ad299.add (((ji22)).toNat * 4)).off + 3, none⟩ = some (.int .i64 ((rd_T33 x8_3 (ji22)).f3))) ∧ (Kd.R k33 33 w' w.heap.size (fun k_ => k_ ≠ s_.1 ∧ k_ ≠ s_.2) (.slice (some ad299) x8_3.length co56) x8_3) ∧ (w'.heap[s_.1]? = some (.cells #[.int .i64 0, .int .i64 0, .int .i64 0, .int .i64 0] 33 (0, 0))) ∧ (w'.heap[s_.2]? = some (.cells #[.int .i64 0, .int .i64 0, .int .i64 0, .int .i64 0] 33 (0, 0))) ∧ (w.heap.size ≤ s_.1) ∧ (w.heap.size ≤ s_.1) ∧ (s_.2 ≠ s_.1) ∧ (s_.1 ≠ s_.2) ∧ (w.heap.size ≤ s_.2) ∧ (w.heap.size ≤ s_.2) ∧ (Below w.heap.size w w')) ?_ ?_
                rotate_left
                ·intro hJ10_14_15
                 refine join_ (σ := Nat) 3 #[true, true, true, true, true, true, true, true, true, true, true, true, true, true, true, false, false, false] (fun s_ => [(50, .tuple #[.agg #[.int .i64 t301, .int .i64 t302, .int .i64 t303, .int .i64 t304], .agg #[.int .i64 t305, .int .i64 t306, .int .i64 t307, .int .i64 t308]]), (10, .pointer (some ⟨s_, 0, none⟩)), (39, .tuple #[.agg #[.int .i64 t301, .int .i64 t302, .int .i64 t303, .int .i64 t304], .agg #[.int .i64 t305, .int .i64 t306, .int .i64 t307, .int .i64 t308]]), (51, .agg #[.int .i64 t301, .int .i64 t302, .int .i64 t303, .int .i64 t304]), (52, .agg #[.int .i64 t305, .int .i64 t306, .int .i64 t307, .int .i64 t308])]) (fun s_ w' => (w'.cell? (ad299.add ((x9_3).toNat * 4)) = some (.int .i64 ((rd_T33 x8_3 x9_3).f0)) ∧ w'.cell? ⟨(ad299.add ((x9_3).toNat * 4)).block, (ad299.add ((x9_3).toNat * 4)).off + 1, none⟩ = some (.int .i64 ((rd_T33 x8_3 x9_3).f1)) ∧ w'.cell? ⟨(ad299.add ((x9_3).toNat * 4)).block, (ad299.add ((x9_3).toNat * 4)).off + 2, none⟩ = some (.int .i64 ((rd_T33 x8_3 x9_3).f2)) ∧ w'.cell? ⟨(ad299.add ((x9_3).toNat * 4)).block, (ad299.add ((x9_3).toNat * 4)).off + 3, none⟩ = some (.int .i64 ((rd_T33 x8_3 x9_3).f3)) ∧ w'.cell? (ad299.add (((ji22)).toNat * 4)) = some (.int .i64 ((rd_T33 x8_3 (ji22)).f0)) ∧ w'.cell? ⟨(ad299.add (((ji22)).toNat * 4)).block, (ad299.add (((ji22)).toNat * 4)).off + 1, none⟩ = some (.int .i64 ((rd_T33 x8_3 (ji22)).f1)) ∧ w'.cell? ⟨(ad299.add (((ji22)).toNat * 4)).block, (ad299.add (((ji22)).toNat * 4)).off + 2, none⟩ = some (.int .i64 ((rd_T33 x8_3 (ji22)).f2)) ∧ w'.cell? ⟨(ad299.add (((ji22)).toNat * 4)).block, (ad299.add (((ji22)).toNat * 4)).off + 3, none⟩ = some (.int .i64 ((rd_T33 x8_3 (ji22)).f3))) ∧ (Kd.R k33 33 w' w.heap.size (fun k_ => k_ ≠ s_) (.slice (some ad299) x8_3.length co56) x8_3) ∧ (w'.heap[s_]? = some (.cells #[.int .i64 0, .int .i64 0, .int .i64 0, .int .i64 0] 33 (0, 0))) ∧ (w.heap.size ≤ s_) ∧ (w.heap.size ≤ s_) ∧ (Below w.heap.size w w')) ?_ ?_
                 rotate_left
                 ·intro hJ10_14
                  refine join_ (σ := Nat) 3 #[true, true, true, true, true, true, true, true, true, true, true, true, true, true, false, true, false, false] (fun s_ => [(50, .tuple #[.agg #[.int .i64 t301, .int .i64 t302, .int .i64 t303, .int .i64 t304], .agg #[.int .i64 t305, .int .i64 t306, .int .i64 t307, .int .i64 t308]]), (11, .pointer (some ⟨s_, 0, none⟩)), (39, .tuple #[.agg #[.int .i64 t301, .int .i64 t302, .int .i64 t303, .int .i64 t304], .agg #[.int .i64 t305, .int .i64 t306, .int .i64 t307, .int .i64 t308]]), (51, .agg #[.int .i64 t301, .int .i64 t302, .int .i64 t303, .int .i64 t304]), (52, .agg #[.int .i64 t305, .int .i64 t306, .int .i64 t307, .int .i64 t308])]) (fun s_ w' => (w'.cell? (ad299.add ((x9_3).toNat * 4)) = some (.int .i64 ((rd_T33 x8_3 x9_3).f0)) ∧ w'.cell? ⟨(ad299.add ((x9_3).toNat * 4)).block, (ad299.add ((x9_3).toNat * 4)).off + 1, none⟩ = some (.int .i64 ((rd_T33 x8_3 x9_3).f1)) ∧ w'.cell? ⟨(ad299.add ((x9_3).toNat * 4)).block, (ad299.add ((x9_3).toNat * 4)).off + 2, none⟩ = some (.int .i64 ((rd_T33 x8_3 x9_3).f2)) ∧ w'.cell? ⟨(ad299.add ((x9_3).toNat * 4)).block, (ad299.add ((x9_3).toNat * 4)).off + 3, none⟩ = some (.int .i64 ((rd_T33 x8_3 x9_3).f3)) ∧ w'.cell? (ad299.add (((ji22)).toNat * 4)) = some (.int .i64 ((rd_T33 x8_3 (ji22)).f0)) ∧ w'.cell? ⟨(ad299.add (((ji22)).toNat * 4)).block, (ad299.add (((ji22)).toNat * 4)).off + 1, none⟩ = some (.int .i64 ((rd_T33 x8_3 (ji22)).f1)) ∧ w'.cell? ⟨(ad299.add (((ji22)).toNat * 4)).block, (ad299.add (((ji22)).toNat * 4)).off + 2, none⟩ = some (.int .i64 ((rd_T33 x8_3 (ji22)).f2)) ∧ w'.cell? ⟨(ad299.add (((ji22)).toNat * 4)).block, (ad299.add (((ji22)).toNat * 4)).off + 3, none⟩ = some (.int .i64 ((rd_T33 x8_3 (ji22)).f3))) ∧ (Kd.R k33 33 w' w.heap.size (fun k_ => k_ ≠ s_) (.slice (some ad299) x8_3.length co56) x8_3) ∧ (w'.heap[s_]? = some (.cells #[.int .i64 0, .int .i64 0, .int .i64 0, .int .i64 0] 33 (0, 0))) ∧ (w.heap.size ≤ s_) ∧ (w.heap.size ≤ s_) ∧ (Below w.heap.size w w')) ?_ ?_
                  rotate_left
                  ·intro hJ10_15
                   refine join_ (σ := Nat × Nat) 6 #[true, true, true, true, true, true, true, true, true, true, false, false, false, false, true, true, false, false] (fun s_ => [(10, .pointer (some ⟨s_.1, 0, none⟩)), (11, .pointer (some ⟨s_.2, 0, none⟩))]) (fun s_ w' => (w'.cell? (ad299.add ((x9_3).toNat * 4)) = some (.int .i64 ((rd_T33 x8_3 x9_3).f0)) ∧ w'.cell? ⟨(ad299.add ((x9_3).toNat * 4)).block, (ad299.add ((x9_3).toNat * 4)).off + 1, none⟩ = some (.int .i64 ((rd_T33 x8_3 x9_3).f1)) ∧ w'.cell? ⟨(ad299.add ((x9_3).toNat * 4)).block, (ad299.add ((x9_3).toNat * 4)).off + 2, none⟩ = some (.int .i64 ((rd_T33 x8_3 x9_3).f2)) ∧ w'.cell? ⟨(ad299.add ((x9_3).toNat * 4)).block, (ad299.add ((x9_3).toNat * 4)).off + 3, none⟩ = some (.int .i64 ((rd_T33 x8_3 x9_3).f3)) ∧ w'.cell? (ad299.add (((ji22)).toNat * 4)) = some (.int .i64 ((rd_T33 x8_3 (ji22)).f0)) ∧ w'.cell? ⟨(ad299.add (((ji22)).toNat * 4)).block, (ad299.add (((ji22)).toNat * 4)).off + 1, none⟩ = some (.int .i64 ((rd_T33 x8_3 (ji22)).f1)) ∧ w'.cell? ⟨(ad299.add (((ji22)).toNat * 4)).block, (ad299.add (((ji22)).toNat * 4)).off + 2, none⟩ = some (.int .i64 ((rd_T33 x8_3 (ji22)).f2)) ∧ w'.cell? ⟨(ad299.add (((ji22)).toNat * 4)).block, (ad299.add (((ji22)).toNat * 4)).off + 3, none⟩ = some (.int .i64 ((rd_T33 x8_3 (ji22)).f3))) ∧ (Kd.R k33 33 w' w.heap.size (fun k_ => k_ ≠ s_.1 ∧ k_ ≠ s_.2) (.slice (some ad299) x8_3.length co56) x8_3) ∧ (w'.heap[s_.1]? = some (.cells #[.int .i64 0, .int .i64 0, .int .i64 0, .int .i64 0] 33 (0, 0))) ∧ (w'.heap[s_.2]? = some (.cells #[.int .i64 0, .int .i64 0, .int .i64 0, .int .i64 0] 33 (0, 0))) ∧ (w.heap.size ≤ s_.1) ∧ (w.heap.size ≤ s_.1) ∧ (s_.2 ≠ s_.1) ∧ (s_.1 ≠ s_.2) ∧ (w.heap.size ≤ s_.2) ∧ (w.heap.size ≤ s_.2) ∧ (Below w.heap.size w w')) ?_ ?_
                   rotate_left
                   ·intro hJ14_15
                    refine join_ (σ := Unit) 4 #[true, true, true, true, true, true, true, true, true, true, true, true, true, true, false, false, false, false] (fun s_ => [(50, .tuple #[.agg #[.int .i64 t301, .int .i64 t302, .int .i64 t303, .int .i64 t304], .agg #[.int .i64 t305, .int .i64 t306, .int .i64 t307, .int .i64 t308]]), (39, .tuple #[.agg #[.int .i64 t301, .int .i64 t302, .int .i64 t303, .int .i64 t304], .agg #[.int .i64 t305, .int .i64 t306, .int .i64 t307, .int .i64 t308]]), (51, .agg #[.int .i64 t301, .int .i64 t302, .int .i64 t303, .int .i64 t304]), (52, .agg #[.int .i64 t305, .int .i64 t306, .int .i64 t307, .int .i64 t308])]) (fun s_ w' => (w'.cell? (ad299.add ((x9_3).toNat * 4)) = some (.int .i64 ((rd_T33 x8_3 x9_3).f0)) ∧ w'.cell? ⟨(ad299.add ((x9_3).toNat * 4)).block, (ad299.add ((x9_3).toNat * 4)).off + 1, none⟩ = some (.int .i64 ((rd_T33 x8_3 x9_3).f1)) ∧ w'.cell? ⟨(ad299.add ((x9_3).toNat * 4)).block, (ad299.add ((x9_3).toNat * 4)).off + 2, none⟩ = some (.int .i64 ((rd_T33 x8_3 x9_3).f2)) ∧ w'.cell? ⟨(ad299.add ((x9_3).toNat * 4)).block, (ad299.add ((x9_3).toNat * 4)).off + 3, none⟩ = some (.int .i64 ((rd_T33 x8_3 x9_3).f3)) ∧ w'.cell? (ad299.add (((ji22)).toNat * 4)) = some (.int .i64 ((rd_T33 x8_3 (ji22)).f0)) ∧ w'.cell? ⟨(ad299.add (((ji22)).toNat * 4)).block, (ad299.add (((ji22)).toNat * 4)).off + 1, none⟩ = some (.int .i64 ((rd_T33 x8_3 (ji22)).f1)) ∧ w'.cell? ⟨(ad299.add (((ji22)).toNat * 4)).block, (ad299.add (((ji22)).toNat * 4)).off + 2, none⟩ = some (.int .i64 ((rd_T33 x8_3 (ji22)).f2)) ∧ w'.cell? ⟨(ad299.add (((ji22)).toNat * 4)).block, (ad299.add (((ji22)).toNat * 4)).off + 3, none⟩ = some (.int .i64 ((rd_T33 x8_3 (ji22)).f3))) ∧ (Kd.R k33 33 w' w.heap.size (fun _ => True) (.slice (some ad299) x8_3.length co56) x8_3) ∧ (Below w.heap.size w w')) ?_ ?_
                    rotate_left
                    ·intro hJ10
                     refine join_ (σ := Nat) 7 #[true, true, true, true, true, true, true, true, true, true, false, false, false, false, true, false, false, false] (fun s_ => [(10, .pointer (some ⟨s_, 0, none⟩))]) (fun s_ w' => (w'.cell? (ad299.add ((x9_3).toNat * 4)) = some (.int .i64 ((rd_T33 x8_3 x9_3).f0)) ∧ w'.cell? ⟨(ad299.add ((x9_3).toNat * 4)).block, (ad299.add ((x9_3).toNat * 4)).off + 1, none⟩ = some (.int .i64 ((rd_T33 x8_3 x9_3).f1)) ∧ w'.cell? ⟨(ad299.add ((x9_3).toNat * 4)).block, (ad299.add ((x9_3).toNat * 4)).off + 2, none⟩ = some (.int .i64 ((rd_T33 x8_3 x9_3).f2)) ∧ w'.cell? ⟨(ad299.add ((x9_3).toNat * 4)).block, (ad299.add ((x9_3).toNat * 4)).off + 3, none⟩ = some (.int .i64 ((rd_T33 x8_3 x9_3).f3)) ∧ w'.cell? (ad299.add (((ji22)).toNat * 4)) = some (.int .i64 ((rd_T33 x8_3 (ji22)).f0)) ∧ w'.cell? ⟨(ad299.add (((ji22)).toNat * 4)).block, (ad299.add (((ji22)).toNat * 4)).off + 1, none⟩ = some (.int .i64 ((rd_T33 x8_3 (ji22)).f1)) ∧ w'.cell? ⟨(ad299.add (((ji22)).toNat * 4)).block, (ad299.add (((ji22)).toNat * 4)).off + 2, none⟩ = some (.int .i64 ((rd_T33 x8_3 (ji22)).f2)) ∧ w'.cell? ⟨(ad299.add (((ji22)).toNat * 4)).block, (ad299.add (((ji22)).toNat * 4)).off + 3, none⟩ = some (.int .i64 ((rd_T33 x8_3 (ji22)).f3))) ∧ (Kd.R k33 33 w' w.heap.size (fun k_ => k_ ≠ s_) (.slice (some ad299) x8_3.length co56) x8_3) ∧ (w'.heap[s_]? = some (.cells #[.int .i64 0, .int .i64 0, .int .i64 0, .int .i64 0] 33 (0, 0))) ∧ (w.heap.size ≤ s_) ∧ (w.heap.size ≤ s_) ∧ (Below w.heap.size w w')) ?_ ?_
                     rotate_left
                     ·intro hJ14
                      refine join_ (σ := Nat) 7 #[true, true, true, true, true, true, true, true, true, true, false, false, false, false, false, true, false, false] (fun s_ => [(11, .pointer (some ⟨s_, 0, none⟩))]) (fun s_ w' => (w'.cell? (ad299.add ((x9_3).toNat * 4)) = some (.int .i64 ((rd_T33 x8_3 x9_3).f0)) ∧ w'.cell? ⟨(ad299.add ((x9_3).toNat * 4)).block, (ad299.add ((x9_3).toNat * 4)).off + 1, none⟩ = some (.int .i64 ((rd_T33 x8_3 x9_3).f1)) ∧ w'.cell? ⟨(ad299.add ((x9_3).toNat * 4)).block, (ad299.add ((x9_3).toNat * 4)).off + 2, none⟩ = some (.int .i64 ((rd_T33 x8_3 x9_3).f2)) ∧ w'.cell? ⟨(ad299.add ((x9_3).toNat * 4)).block, (ad299.add ((x9_3).toNat * 4)).off + 3, none⟩ = some (.int .i64 ((rd_T33 x8_3 x9_3).f3)) ∧ w'.cell? (ad299.add (((ji22)).toNat * 4)) = some (.int .i64 ((rd_T33 x8_3 (ji22)).f0)) ∧ w'.cell? ⟨(ad299.add (((ji22)).toNat * 4)).block, (ad299.add (((ji22)).toNat * 4)).off + 1, none⟩ = some (.int .i64 ((rd_T33 x8_3 (ji22)).f1)) ∧ w'.cell? ⟨(ad299.add (((ji22)).toNat * 4)).block, (ad299.add (((ji22)).toNat * 4)).off + 2, none⟩ = some (.int .i64 ((rd_T33 x8_3 (ji22)).f2)) ∧ w'.cell? ⟨(ad299.add (((ji22)).toNat * 4)).block, (ad299.add (((ji22)).toNat * 4)).off + 3, none⟩ = some (.int .i64 ((rd_T33 x8_3 (ji22)).f3))) ∧ (Kd.R k33 33 w' w.heap.size (fun k_ => k_ ≠ s_) (.slice (some ad299) x8_3.length co56) x8_3) ∧ (w'.heap[s_]? = some (.cells #[.int .i64 0, .int .i64 0, .int .i64 0, .int .i64 0] 33 (0, 0))) ∧ (w.heap.size ≤ s_) ∧ (w.heap.size ≤ s_) ∧ (Below w.heap.size w w')) ?_ ?_
                      rotate_left
                      ·intro hJ15
                       refine three_ (i := 10) (j := 14) (k := 15) (Ni := some 50) (Nj := some 10) (Nk := some 11) #[true, true, true, true, true, true, true, true, true, true, true, false, false, false, false, false, false, false] #[true, true, true, true, true, true, true, true, true, true, false, false, false, false, true, false, false, false] #[true, true, true, true, true, true, true, true, true, true, false, false, false, false, false, true, false, false] rfl rfl rfl rfl rfl rfl (three_of HT_.out (by kernel_rfl)) (by decide) (by decide) (by decide) (fun K hK => ?_) (fun K hK => ?_) (fun K hK => ?_)
                       ·skip
                        refine goes_ Try.func35 (by kernel_rfl) rfl #[.agg #[.int .i64 ((rd_T33 x8_3 x9_3).f0), .int .i64 ((rd_T33 x8_3 x9_3).f1), .int .i64 ((rd_T33 x8_3 x9_3).f2), .int .i64 ((rd_T33 x8_3 x9_3).f3)], .agg #[.int .i64 ((rd_T33 x8_3 (ji22)).f0), .int .i64 ((rd_T33 x8_3 (ji22)).f1), .int .i64 ((rd_T33 x8_3 (ji22)).f2), .int .i64 ((rd_T33 x8_3 (ji22)).f3)], .int .i64 a1] (by rfl) rfl rfl (by (try simp only [List.map_toArray, List.map_cons, List.map_nil]); first | done | (simp only [hji22]; rfl) | rfl | (simp only [List.length_drop, List.length_take]; rfl)) ?_
                        with_reducible refine (spec_l10Pair.calls k3 ((rd_T33 x8_3 x9_3).f0) ((rd_T33 x8_3 x9_3).f1) ((rd_T33 x8_3 x9_3).f2) ((rd_T33 x8_3 x9_3).f3) ((rd_T33 x8_3 (ji22)).f0) ((rd_T33 x8_3 (ji22)).f1) ((rd_T33 x8_3 (ji22)).f2) ((rd_T33 x8_3 (ji22)).f3) a1 t301 t302 t303 t304 t305 t306 t307 t308 _ A24.out).mono ?_
                        rintro e w58 ⟨rfl, hb⟩
                        have HS0_ := hT hb hHeld.1
                        have HS1_ := hT hb hHeld.2.1
                        have HS2_ := hT hb hHeld.2.2.1
                        have HS3_ := hT hb hHeld.2.2.2.1
                        have HS4_ := hT hb hHeld.2.2.2.2.1
                        have HS5_ := hT hb hHeld.2.2.2.2.2.1
                        have HS6_ := hT hb hHeld.2.2.2.2.2.2.1
                        have HS7_ := hT hb hHeld.2.2.2.2.2.2.2
                        refine ⟨_, rfl, ?_⟩
                        replace HO_8 := Aside0.mk (Kd.R_below (rU HO_8.out) hb)
                        replace HB := bH (lU) hb
                        (try clear hb)
                        (try clear hb2)
                        (try clear hk)
                        (try clear hi)
                        refine hK.out _ _ ⟨HS0_, HS1_, HS2_, HS3_, HS4_, HS5_, HS6_, HS7_⟩ (fun hHeld => ?_)
                        clear hK K
                        refine norm_ (a' := ?_) ?_ ?_
                        rotate_left
                        ·show Act.put _ (some 50) _ = _
                         simp only [Act.put, List.setIfInBounds_toArray, List.set_cons_zero, List.set_cons_succ, i64_w, i32_w]
                         rfl
                        refine pureA 11 39 (bz 18 4095) rfl rfl (any_of HT_.out (by kernel_rfl)) ?_
                        refine pureA 12 51 (bz 18 8191) rfl rfl (any_of HT_.out (by kernel_rfl)) ?_
                        refine pureA 13 52 (bz 18 16383) rfl rfl (any_of HT_.out (by kernel_rfl)) ?_
                        exact norm_ nE (hJ10 () _ ⟨hHeld, (rU HO_8.out), (lU)⟩)
                       ·skip
                        refine box_step ?hg (N := 10) ?hd (cs := #[.int .i64 0, .int .i64 0, .int .i64 0, .int .i64 0]) (t := 33) ?hr ?_; (case hd => rfl); (case hg => rfl); (case hr => exact sE)
                        intro gb309 hg w58 hbox hb
                        have HS0_ := hT hb hHeld.1
                        have HS1_ := hT hb hHeld.2.1
                        have HS2_ := hT hb hHeld.2.2.1
                        have HS3_ := hT hb hHeld.2.2.2.1
                        have HS4_ := hT hb hHeld.2.2.2.2.1
                        have HS5_ := hT hb hHeld.2.2.2.2.2.1
                        have HS6_ := hT hb hHeld.2.2.2.2.2.2.1
                        have HS7_ := hT hb hHeld.2.2.2.2.2.2.2
                        replace HO_8 := Aside0.mk (Kd.R_below (Kd.R_elderB (rU HO_8.out) gb309 (Nat.le_of_eq hg.symm)) hb)
                        have BK309 := Aside0.mk hbox
                        have GW309 := gS w hg (lU)
                        have GE309 := gS w hg (lU)
                        replace HB := bH (lU) hb
                        clear hb hbox hg
                        refine hK.out _ _ ⟨HS0_, HS1_, HS2_, HS3_, HS4_, HS5_, HS6_, HS7_⟩ (fun hHeld => ?_)
                        clear hK K
                        refine norm_ (a' := ?_) ?_ ?_
                        rotate_left
                        ·show Act.put _ (some 10) _ = _
                         simp only [Act.put, List.setIfInBounds_toArray, List.set_cons_zero, List.set_cons_succ, i64_w, i32_w]
                         rfl
                        exact norm_ nE (hJ14 (gb309) _ ⟨hHeld, (by (with_reducible repeat (first | apply Kd.R_alloc | apply Kd.R_drewN | apply Kd.R_drew)); exact Kd.R_mono HO_8.out (fun _ hk => hk.2)), (bV BK309), GW309.out, GE309.out, (lV1 GE309)⟩)
                       ·skip
                        refine box_step ?hg (N := 11) ?hd (cs := #[.int .i64 0, .int .i64 0, .int .i64 0, .int .i64 0]) (t := 33) ?hr ?_; (case hd => rfl); (case hg => rfl); (case hr => exact sE)
                        intro gb310 hg w58 hbox hb
                        have HS0_ := hT hb hHeld.1
                        have HS1_ := hT hb hHeld.2.1
                        have HS2_ := hT hb hHeld.2.2.1
                        have HS3_ := hT hb hHeld.2.2.2.1
                        have HS4_ := hT hb hHeld.2.2.2.2.1
                        have HS5_ := hT hb hHeld.2.2.2.2.2.1
                        have HS6_ := hT hb hHeld.2.2.2.2.2.2.1
                        have HS7_ := hT hb hHeld.2.2.2.2.2.2.2
                        replace HO_8 := Aside0.mk (Kd.R_below (Kd.R_elderB (rU HO_8.out) gb310 (Nat.le_of_eq hg.symm)) hb)
                        have BK310 := Aside0.mk hbox
                        have GW310 := gS w hg (lU)
                        have GE310 := gS w hg (lU)
                        replace HB := bH (lU) hb
                        clear hb hbox hg
                        refine hK.out _ _ ⟨HS0_, HS1_, HS2_, HS3_, HS4_, HS5_, HS6_, HS7_⟩ (fun hHeld => ?_)
                        clear hK K
                        refine norm_ (a' := ?_) ?_ ?_
                        rotate_left
                        ·show Act.put _ (some 11) _ = _
                         simp only [Act.put, List.setIfInBounds_toArray, List.set_cons_zero, List.set_cons_succ, i64_w, i32_w]
                         rfl
                        exact norm_ nE (hJ15 (gb310) _ ⟨hHeld, (by (with_reducible repeat (first | apply Kd.R_alloc | apply Kd.R_drewN | apply Kd.R_drew)); exact Kd.R_mono HO_8.out (fun _ hk => hk.2)), (bV BK310), GW310.out, GE310.out, (lV1 GE310)⟩)
                      ·skip
                       rintro gb310 w59 ⟨hS_, h0_, h1_, h2_, h3_, h4_⟩
                       replace HO_8 : Aside0 (Kd.R k33 33 w59 w.heap.size (fun k_ => k_ ≠ gb310) (.slice (some ad299) x8_3.length co56) x8_3) := ⟨h0_⟩
                       have BK310 : Aside0 (w59.heap[gb310]? = some (.cells #[.int .i64 0, .int .i64 0, .int .i64 0, .int .i64 0] 33 (0, 0))) := ⟨h1_⟩
                       have GW310 : Aside0 (w.heap.size ≤ gb310) := ⟨h2_⟩
                       have GE310 : Aside0 (w.heap.size ≤ gb310) := ⟨h3_⟩
                       replace HB : Aside0 (Below w.heap.size w w59) := ⟨h4_⟩
                       clear h0_ h1_ h2_ h3_ h4_
                       have hHeld : w59.cell? (ad299.add ((x9_3).toNat * 4)) = some (.int .i64 ((rd_T33 x8_3 x9_3).f0)) ∧ w59.cell? ⟨(ad299.add ((x9_3).toNat * 4)).block, (ad299.add ((x9_3).toNat * 4)).off + 1, none⟩ = some (.int .i64 ((rd_T33 x8_3 x9_3).f1)) ∧ w59.cell? ⟨(ad299.add ((x9_3).toNat * 4)).block, (ad299.add ((x9_3).toNat * 4)).off + 2, none⟩ = some (.int .i64 ((rd_T33 x8_3 x9_3).f2)) ∧ w59.cell? ⟨(ad299.add ((x9_3).toNat * 4)).block, (ad299.add ((x9_3).toNat * 4)).off + 3, none⟩ = some (.int .i64 ((rd_T33 x8_3 x9_3).f3)) ∧ w59.cell? (ad299.add (((ji22)).toNat * 4)) = some (.int .i64 ((rd_T33 x8_3 (ji22)).f0)) ∧ w59.cell? ⟨(ad299.add (((ji22)).toNat * 4)).block, (ad299.add (((ji22)).toNat * 4)).off + 1, none⟩ = some (.int .i64 ((rd_T33 x8_3 (ji22)).f1)) ∧ w59.cell? ⟨(ad299.add (((ji22)).toNat * 4)).block, (ad299.add (((ji22)).toNat * 4)).off + 2, none⟩ = some (.int .i64 ((rd_T33 x8_3 (ji22)).f2)) ∧ w59.cell? ⟨(ad299.add (((ji22)).toNat * 4)).block, (ad299.add (((ji22)).toNat * 4)).off + 3, none⟩ = some (.int .i64 ((rd_T33 x8_3 (ji22)).f3)) := hS_
                       refine norm_ (a' := ?_) ?_ ?_
                       rotate_left
                       ·simp only [putAll, Act.put, List.setIfInBounds_toArray, List.set_cons_zero, List.set_cons_succ]
                        rfl
                       refine two_ (i := 10) (j := 14) (Ni := some 50) (Nj := some 10) #[true, true, true, true, true, true, true, true, true, true, true, false, false, false, false, true, false, false] #[true, true, true, true, true, true, true, true, true, true, false, false, false, false, true, true, false, false] rfl rfl rfl rfl (two_of HT_.out (by kernel_rfl)) (by decide) (by decide) (fun K hK => ?_) (fun K hK => ?_)
                       ·skip
                        refine goes_ Try.func35 (by kernel_rfl) rfl #[.agg #[.int .i64 ((rd_T33 x8_3 x9_3).f0), .int .i64 ((rd_T33 x8_3 x9_3).f1), .int .i64 ((rd_T33 x8_3 x9_3).f2), .int .i64 ((rd_T33 x8_3 x9_3).f3)], .agg #[.int .i64 ((rd_T33 x8_3 (ji22)).f0), .int .i64 ((rd_T33 x8_3 (ji22)).f1), .int .i64 ((rd_T33 x8_3 (ji22)).f2), .int .i64 ((rd_T33 x8_3 (ji22)).f3)], .int .i64 a1] (by rfl) rfl rfl (by (try simp only [List.map_toArray, List.map_cons, List.map_nil]); first | done | (simp only [hji22]; rfl) | rfl | (simp only [List.length_drop, List.length_take]; rfl)) ?_
                        with_reducible refine (spec_l10Pair.calls k3 ((rd_T33 x8_3 x9_3).f0) ((rd_T33 x8_3 x9_3).f1) ((rd_T33 x8_3 x9_3).f2) ((rd_T33 x8_3 x9_3).f3) ((rd_T33 x8_3 (ji22)).f0) ((rd_T33 x8_3 (ji22)).f1) ((rd_T33 x8_3 (ji22)).f2) ((rd_T33 x8_3 (ji22)).f3) a1 t301 t302 t303 t304 t305 t306 t307 t308 _ A24.out).mono ?_
                        rintro e w60 ⟨rfl, hb⟩
                        have HS0_ := hT hb hHeld.1
                        have HS1_ := hT hb hHeld.2.1
                        have HS2_ := hT hb hHeld.2.2.1
                        have HS3_ := hT hb hHeld.2.2.2.1
                        have HS4_ := hT hb hHeld.2.2.2.2.1
                        have HS5_ := hT hb hHeld.2.2.2.2.2.1
                        have HS6_ := hT hb hHeld.2.2.2.2.2.2.1
                        have HS7_ := hT hb hHeld.2.2.2.2.2.2.2
                        refine ⟨_, rfl, ?_⟩
                        replace HO_8 := Aside0.mk (Kd.R_below (rU HO_8.out) hb)
                        replace BK310 := bB (bV BK310) hb
                        replace HB := bH (lV1 GE310) hb
                        (try clear hb)
                        (try clear hb2)
                        (try clear hk)
                        (try clear hi)
                        refine hK.out _ _ ⟨HS0_, HS1_, HS2_, HS3_, HS4_, HS5_, HS6_, HS7_⟩ (fun hHeld => ?_)
                        clear hK K
                        refine norm_ (a' := ?_) ?_ ?_
                        rotate_left
                        ·show Act.put _ (some 50) _ = _
                         simp only [Act.put, List.setIfInBounds_toArray, List.set_cons_zero, List.set_cons_succ, i64_w, i32_w]
                         rfl
                        refine pureA 11 39 (bz 18 36863) rfl rfl (any_of HT_.out (by kernel_rfl)) ?_
                        refine pureA 12 51 (bz 18 40959) rfl rfl (any_of HT_.out (by kernel_rfl)) ?_
                        refine pureA 13 52 (bz 18 49151) rfl rfl (any_of HT_.out (by kernel_rfl)) ?_
                        exact norm_ nE (hJ10_15 (gb310) _ ⟨hHeld, (rU HO_8.out), (bV BK310), GW310.out, GE310.out, (lV1 GE310)⟩)
                       ·skip
                        refine box_step ?hg (N := 10) ?hd (cs := #[.int .i64 0, .int .i64 0, .int .i64 0, .int .i64 0]) (t := 33) ?hr ?_; (case hd => rfl); (case hg => rfl); (case hr => exact sE)
                        intro gb309 hg w60 hbox hb
                        have HS0_ := hT hb hHeld.1
                        have HS1_ := hT hb hHeld.2.1
                        have HS2_ := hT hb hHeld.2.2.1
                        have HS3_ := hT hb hHeld.2.2.2.1
                        have HS4_ := hT hb hHeld.2.2.2.2.1
                        have HS5_ := hT hb hHeld.2.2.2.2.2.1
                        have HS6_ := hT hb hHeld.2.2.2.2.2.2.1
                        have HS7_ := hT hb hHeld.2.2.2.2.2.2.2
                        replace HO_8 := Aside0.mk (Kd.R_below (Kd.R_elderB (rU HO_8.out) gb309 (Nat.le_of_eq hg.symm)) hb)
                        have BK309 := Aside0.mk hbox
                        have GW309 := gS w hg (lV1 GE310)
                        have GE309 := gS w hg (lV1 GE310)
                        replace HB := bH (lV1 GE310) hb
                        have NB310_309 := nL hg (bV BK310)
                        have NB309_310 := nG hg (bV BK310)
                        replace BK310 := bB (bV BK310) hb
                        clear hb hbox hg
                        refine hK.out _ _ ⟨HS0_, HS1_, HS2_, HS3_, HS4_, HS5_, HS6_, HS7_⟩ (fun hHeld => ?_)
                        clear hK K
                        refine norm_ (a' := ?_) ?_ ?_
                        rotate_left
                        ·show Act.put _ (some 10) _ = _
                         simp only [Act.put, List.setIfInBounds_toArray, List.set_cons_zero, List.set_cons_succ, i64_w, i32_w]
                         rfl
                        exact norm_ nE (hJ14_15 (gb309, gb310) _ ⟨hHeld, (by (with_reducible repeat (first | apply Kd.R_alloc | apply Kd.R_drewN | apply Kd.R_drew)); exact Kd.R_mono HO_8.out (fun _ hk => ⟨hk.2, hk.1⟩)), (bV BK309), (bV BK310), GW309.out, GE309.out, NB310_309.out, NB309_310.out, GW310.out, GE310.out, (lV2 GE310 GE309)⟩)
                     ·skip
                      rintro gb309 w59 ⟨hS_, h0_, h1_, h2_, h3_, h4_⟩
                      replace HO_8 : Aside0 (Kd.R k33 33 w59 w.heap.size (fun k_ => k_ ≠ gb309) (.slice (some ad299) x8_3.length co56) x8_3) := ⟨h0_⟩
                      have BK309 : Aside0 (w59.heap[gb309]? = some (.cells #[.int .i64 0, .int .i64 0, .int .i64 0, .int .i64 0] 33 (0, 0))) := ⟨h1_⟩
                      have GW309 : Aside0 (w.heap.size ≤ gb309) := ⟨h2_⟩
                      have GE309 : Aside0 (w.heap.size ≤ gb309) := ⟨h3_⟩
                      replace HB : Aside0 (Below w.heap.size w w59) := ⟨h4_⟩
                      clear h0_ h1_ h2_ h3_ h4_
                      have hHeld : w59.cell? (ad299.add ((x9_3).toNat * 4)) = some (.int .i64 ((rd_T33 x8_3 x9_3).f0)) ∧ w59.cell? ⟨(ad299.add ((x9_3).toNat * 4)).block, (ad299.add ((x9_3).toNat * 4)).off + 1, none⟩ = some (.int .i64 ((rd_T33 x8_3 x9_3).f1)) ∧ w59.cell? ⟨(ad299.add ((x9_3).toNat * 4)).block, (ad299.add ((x9_3).toNat * 4)).off + 2, none⟩ = some (.int .i64 ((rd_T33 x8_3 x9_3).f2)) ∧ w59.cell? ⟨(ad299.add ((x9_3).toNat * 4)).block, (ad299.add ((x9_3).toNat * 4)).off + 3, none⟩ = some (.int .i64 ((rd_T33 x8_3 x9_3).f3)) ∧ w59.cell? (ad299.add (((ji22)).toNat * 4)) = some (.int .i64 ((rd_T33 x8_3 (ji22)).f0)) ∧ w59.cell? ⟨(ad299.add (((ji22)).toNat * 4)).block, (ad299.add (((ji22)).toNat * 4)).off + 1, none⟩ = some (.int .i64 ((rd_T33 x8_3 (ji22)).f1)) ∧ w59.cell? ⟨(ad299.add (((ji22)).toNat * 4)).block, (ad299.add (((ji22)).toNat * 4)).off + 2, none⟩ = some (.int .i64 ((rd_T33 x8_3 (ji22)).f2)) ∧ w59.cell? ⟨(ad299.add (((ji22)).toNat * 4)).block, (ad299.add (((ji22)).toNat * 4)).off + 3, none⟩ = some (.int .i64 ((rd_T33 x8_3 (ji22)).f3)) := hS_
                      refine norm_ (a' := ?_) ?_ ?_
                      rotate_left
                      ·simp only [putAll, Act.put, List.setIfInBounds_toArray, List.set_cons_zero, List.set_cons_succ]
                       rfl
                      refine two_ (i := 10) (j := 15) (Ni := some 50) (Nj := some 11) #[true, true, true, true, true, true, true, true, true, true, true, false, false, false, true, false, false, false] #[true, true, true, true, true, true, true, true, true, true, false, false, false, false, true, true, false, false] rfl rfl rfl rfl (two_of HT_.out (by kernel_rfl)) (by decide) (by decide) (fun K hK => ?_) (fun K hK => ?_)
                      ·skip
                       refine goes_ Try.func35 (by kernel_rfl) rfl #[.agg #[.int .i64 ((rd_T33 x8_3 x9_3).f0), .int .i64 ((rd_T33 x8_3 x9_3).f1), .int .i64 ((rd_T33 x8_3 x9_3).f2), .int .i64 ((rd_T33 x8_3 x9_3).f3)], .agg #[.int .i64 ((rd_T33 x8_3 (ji22)).f0), .int .i64 ((rd_T33 x8_3 (ji22)).f1), .int .i64 ((rd_T33 x8_3 (ji22)).f2), .int .i64 ((rd_T33 x8_3 (ji22)).f3)], .int .i64 a1] (by rfl) rfl rfl (by (try simp only [List.map_toArray, List.map_cons, List.map_nil]); first | done | (simp only [hji22]; rfl) | rfl | (simp only [List.length_drop, List.length_take]; rfl)) ?_
                       with_reducible refine (spec_l10Pair.calls k3 ((rd_T33 x8_3 x9_3).f0) ((rd_T33 x8_3 x9_3).f1) ((rd_T33 x8_3 x9_3).f2) ((rd_T33 x8_3 x9_3).f3) ((rd_T33 x8_3 (ji22)).f0) ((rd_T33 x8_3 (ji22)).f1) ((rd_T33 x8_3 (ji22)).f2) ((rd_T33 x8_3 (ji22)).f3) a1 t301 t302 t303 t304 t305 t306 t307 t308 _ A24.out).mono ?_
                       rintro e w60 ⟨rfl, hb⟩
                       have HS0_ := hT hb hHeld.1
                       have HS1_ := hT hb hHeld.2.1
                       have HS2_ := hT hb hHeld.2.2.1
                       have HS3_ := hT hb hHeld.2.2.2.1
                       have HS4_ := hT hb hHeld.2.2.2.2.1
                       have HS5_ := hT hb hHeld.2.2.2.2.2.1
                       have HS6_ := hT hb hHeld.2.2.2.2.2.2.1
                       have HS7_ := hT hb hHeld.2.2.2.2.2.2.2
                       refine ⟨_, rfl, ?_⟩
                       replace HO_8 := Aside0.mk (Kd.R_below (rU HO_8.out) hb)
                       replace BK309 := bB (bV BK309) hb
                       replace HB := bH (lV1 GE309) hb
                       (try clear hb)
                       (try clear hb2)
                       (try clear hk)
                       (try clear hi)
                       refine hK.out _ _ ⟨HS0_, HS1_, HS2_, HS3_, HS4_, HS5_, HS6_, HS7_⟩ (fun hHeld => ?_)
                       clear hK K
                       refine norm_ (a' := ?_) ?_ ?_
                       rotate_left
                       ·show Act.put _ (some 50) _ = _
                        simp only [Act.put, List.setIfInBounds_toArray, List.set_cons_zero, List.set_cons_succ, i64_w, i32_w]
                        rfl
                       refine pureA 11 39 (bz 18 20479) rfl rfl (any_of HT_.out (by kernel_rfl)) ?_
                       refine pureA 12 51 (bz 18 24575) rfl rfl (any_of HT_.out (by kernel_rfl)) ?_
                       refine pureA 13 52 (bz 18 32767) rfl rfl (any_of HT_.out (by kernel_rfl)) ?_
                       exact norm_ nE (hJ10_14 (gb309) _ ⟨hHeld, (rU HO_8.out), (bV BK309), GW309.out, GE309.out, (lV1 GE309)⟩)
                      ·skip
                       refine box_step ?hg (N := 11) ?hd (cs := #[.int .i64 0, .int .i64 0, .int .i64 0, .int .i64 0]) (t := 33) ?hr ?_; (case hd => rfl); (case hg => rfl); (case hr => exact sE)
                       intro gb310 hg w60 hbox hb
                       have HS0_ := hT hb hHeld.1
                       have HS1_ := hT hb hHeld.2.1
                       have HS2_ := hT hb hHeld.2.2.1
                       have HS3_ := hT hb hHeld.2.2.2.1
                       have HS4_ := hT hb hHeld.2.2.2.2.1
                       have HS5_ := hT hb hHeld.2.2.2.2.2.1
                       have HS6_ := hT hb hHeld.2.2.2.2.2.2.1
                       have HS7_ := hT hb hHeld.2.2.2.2.2.2.2
                       replace HO_8 := Aside0.mk (Kd.R_below (Kd.R_elderB (rU HO_8.out) gb310 (Nat.le_of_eq hg.symm)) hb)
                       have BK310 := Aside0.mk hbox
                       have GW310 := gS w hg (lV1 GE309)
                       have GE310 := gS w hg (lV1 GE309)
                       replace HB := bH (lV1 GE309) hb
                       have NB309_310 := nL hg (bV BK309)
                       have NB310_309 := nG hg (bV BK309)
                       replace BK309 := bB (bV BK309) hb
                       clear hb hbox hg
                       refine hK.out _ _ ⟨HS0_, HS1_, HS2_, HS3_, HS4_, HS5_, HS6_, HS7_⟩ (fun hHeld => ?_)
                       clear hK K
                       refine norm_ (a' := ?_) ?_ ?_
                       rotate_left
                       ·show Act.put _ (some 11) _ = _
                        simp only [Act.put, List.setIfInBounds_toArray, List.set_cons_zero, List.set_cons_succ, i64_w, i32_w]
                        rfl
                       exact norm_ nE (hJ14_15 (gb309, gb310) _ ⟨hHeld, (rU HO_8.out), (bV BK309), (bV BK310), GW309.out, GE309.out, NB310_309.out, NB309_310.out, GW310.out, GE310.out, (lV2 GE309 GE310)⟩)
                    ·skip
                     rintro _ w59 ⟨hS_, h0_, h1_⟩
                     replace HO_8 : Aside0 (Kd.R k33 33 w59 w.heap.size (fun _ => True) (.slice (some ad299) x8_3.length co56) x8_3) := ⟨h0_⟩
                     replace HB : Aside0 (Below w.heap.size w w59) := ⟨h1_⟩
                     clear h0_ h1_
                     have hHeld : w59.cell? (ad299.add ((x9_3).toNat * 4)) = some (.int .i64 ((rd_T33 x8_3 x9_3).f0)) ∧ w59.cell? ⟨(ad299.add ((x9_3).toNat * 4)).block, (ad299.add ((x9_3).toNat * 4)).off + 1, none⟩ = some (.int .i64 ((rd_T33 x8_3 x9_3).f1)) ∧ w59.cell? ⟨(ad299.add ((x9_3).toNat * 4)).block, (ad299.add ((x9_3).toNat * 4)).off + 2, none⟩ = some (.int .i64 ((rd_T33 x8_3 x9_3).f2)) ∧ w59.cell? ⟨(ad299.add ((x9_3).toNat * 4)).block, (ad299.add ((x9_3).toNat * 4)).off + 3, none⟩ = some (.int .i64 ((rd_T33 x8_3 x9_3).f3)) ∧ w59.cell? (ad299.add (((ji22)).toNat * 4)) = some (.int .i64 ((rd_T33 x8_3 (ji22)).f0)) ∧ w59.cell? ⟨(ad299.add (((ji22)).toNat * 4)).block, (ad299.add (((ji22)).toNat * 4)).off + 1, none⟩ = some (.int .i64 ((rd_T33 x8_3 (ji22)).f1)) ∧ w59.cell? ⟨(ad299.add (((ji22)).toNat * 4)).block, (ad299.add (((ji22)).toNat * 4)).off + 2, none⟩ = some (.int .i64 ((rd_T33 x8_3 (ji22)).f2)) ∧ w59.cell? ⟨(ad299.add (((ji22)).toNat * 4)).block, (ad299.add (((ji22)).toNat * 4)).off + 3, none⟩ = some (.int .i64 ((rd_T33 x8_3 (ji22)).f3)) := hS_
                     refine norm_ (a' := ?_) ?_ ?_
                     rotate_left
                     ·simp only [putAll, Act.put, List.setIfInBounds_toArray, List.set_cons_zero, List.set_cons_succ]
                      rfl
                     refine two_ (i := 14) (j := 15) (Ni := some 10) (Nj := some 11) #[true, true, true, true, true, true, true, true, true, true, true, true, true, true, true, false, false, false] #[true, true, true, true, true, true, true, true, true, true, true, true, true, true, false, true, false, false] rfl rfl rfl rfl (two_of HT_.out (by kernel_rfl)) (by decide) (by decide) (fun K hK => ?_) (fun K hK => ?_)
                     ·skip
                      refine box_step ?hg (N := 10) ?hd (cs := #[.int .i64 0, .int .i64 0, .int .i64 0, .int .i64 0]) (t := 33) ?hr ?_; (case hd => rfl); (case hg => rfl); (case hr => exact sE)
                      intro gb309 hg w60 hbox hb
                      have HS0_ := hT hb hHeld.1
                      have HS1_ := hT hb hHeld.2.1
                      have HS2_ := hT hb hHeld.2.2.1
                      have HS3_ := hT hb hHeld.2.2.2.1
                      have HS4_ := hT hb hHeld.2.2.2.2.1
                      have HS5_ := hT hb hHeld.2.2.2.2.2.1
                      have HS6_ := hT hb hHeld.2.2.2.2.2.2.1
                      have HS7_ := hT hb hHeld.2.2.2.2.2.2.2
                      replace HO_8 := Aside0.mk (Kd.R_below (Kd.R_elderB (rU HO_8.out) gb309 (Nat.le_of_eq hg.symm)) hb)
                      have BK309 := Aside0.mk hbox
                      have GW309 := gS w hg (lU)
                      have GE309 := gS w hg (lU)
                      replace HB := bH (lU) hb
                      clear hb hbox hg
                      refine hK.out _ _ ⟨HS0_, HS1_, HS2_, HS3_, HS4_, HS5_, HS6_, HS7_⟩ (fun hHeld => ?_)
                      clear hK K
                      refine norm_ (a' := ?_) ?_ ?_
                      rotate_left
                      ·show Act.put _ (some 10) _ = _
                       simp only [Act.put, List.setIfInBounds_toArray, List.set_cons_zero, List.set_cons_succ, i64_w, i32_w]
                       rfl
                      exact norm_ nE (hJ10_14 (gb309) _ ⟨hHeld, (by (with_reducible repeat (first | apply Kd.R_alloc | apply Kd.R_drewN | apply Kd.R_drew)); exact Kd.R_mono HO_8.out (fun _ hk => hk.2)), (bV BK309), GW309.out, GE309.out, (lV1 GE309)⟩)
                     ·skip
                      refine box_step ?hg (N := 11) ?hd (cs := #[.int .i64 0, .int .i64 0, .int .i64 0, .int .i64 0]) (t := 33) ?hr ?_; (case hd => rfl); (case hg => rfl); (case hr => exact sE)
                      intro gb310 hg w60 hbox hb
                      have HS0_ := hT hb hHeld.1
                      have HS1_ := hT hb hHeld.2.1
                      have HS2_ := hT hb hHeld.2.2.1
                      have HS3_ := hT hb hHeld.2.2.2.1
                      have HS4_ := hT hb hHeld.2.2.2.2.1
                      have HS5_ := hT hb hHeld.2.2.2.2.2.1
                      have HS6_ := hT hb hHeld.2.2.2.2.2.2.1
                      have HS7_ := hT hb hHeld.2.2.2.2.2.2.2
                      replace HO_8 := Aside0.mk (Kd.R_below (Kd.R_elderB (rU HO_8.out) gb310 (Nat.le_of_eq hg.symm)) hb)
                      have BK310 := Aside0.mk hbox
                      have GW310 := gS w hg (lU)
                      have GE310 := gS w hg (lU)
                      replace HB := bH (lU) hb
                      clear hb hbox hg
                      refine hK.out _ _ ⟨HS0_, HS1_, HS2_, HS3_, HS4_, HS5_, HS6_, HS7_⟩ (fun hHeld => ?_)
                      clear hK K
                      refine norm_ (a' := ?_) ?_ ?_
                      rotate_left
                      ·show Act.put _ (some 11) _ = _
                       simp only [Act.put, List.setIfInBounds_toArray, List.set_cons_zero, List.set_cons_succ, i64_w, i32_w]
                       rfl
                      exact norm_ nE (hJ10_15 (gb310) _ ⟨hHeld, (by (with_reducible repeat (first | apply Kd.R_alloc | apply Kd.R_drewN | apply Kd.R_drew)); exact Kd.R_mono HO_8.out (fun _ hk => hk.2)), (bV BK310), GW310.out, GE310.out, (lV1 GE310)⟩)
                   ·skip
                    rintro ⟨gb309, gb310⟩ w60 ⟨hS_, h0_, h1_, h2_, h3_, h4_, h5_, h6_, h7_, h8_, h9_⟩
                    replace HO_8 : Aside0 (Kd.R k33 33 w60 w.heap.size (fun k_ => k_ ≠ gb309 ∧ k_ ≠ gb310) (.slice (some ad299) x8_3.length co56) x8_3) := ⟨h0_⟩
                    have BK309 : Aside0 (w60.heap[gb309]? = some (.cells #[.int .i64 0, .int .i64 0, .int .i64 0, .int .i64 0] 33 (0, 0))) := ⟨h1_⟩
                    have BK310 : Aside0 (w60.heap[gb310]? = some (.cells #[.int .i64 0, .int .i64 0, .int .i64 0, .int .i64 0] 33 (0, 0))) := ⟨h2_⟩
                    have GW309 : Aside0 (w.heap.size ≤ gb309) := ⟨h3_⟩
                    have GE309 : Aside0 (w.heap.size ≤ gb309) := ⟨h4_⟩
                    have NB310_309 : Aside0 (gb310 ≠ gb309) := ⟨h5_⟩
                    have NB309_310 : Aside0 (gb309 ≠ gb310) := ⟨h6_⟩
                    have GW310 : Aside0 (w.heap.size ≤ gb310) := ⟨h7_⟩
                    have GE310 : Aside0 (w.heap.size ≤ gb310) := ⟨h8_⟩
                    replace HB : Aside0 (Below w.heap.size w w60) := ⟨h9_⟩
                    clear h0_ h1_ h2_ h3_ h4_ h5_ h6_ h7_ h8_ h9_
                    have hHeld : w60.cell? (ad299.add ((x9_3).toNat * 4)) = some (.int .i64 ((rd_T33 x8_3 x9_3).f0)) ∧ w60.cell? ⟨(ad299.add ((x9_3).toNat * 4)).block, (ad299.add ((x9_3).toNat * 4)).off + 1, none⟩ = some (.int .i64 ((rd_T33 x8_3 x9_3).f1)) ∧ w60.cell? ⟨(ad299.add ((x9_3).toNat * 4)).block, (ad299.add ((x9_3).toNat * 4)).off + 2, none⟩ = some (.int .i64 ((rd_T33 x8_3 x9_3).f2)) ∧ w60.cell? ⟨(ad299.add ((x9_3).toNat * 4)).block, (ad299.add ((x9_3).toNat * 4)).off + 3, none⟩ = some (.int .i64 ((rd_T33 x8_3 x9_3).f3)) ∧ w60.cell? (ad299.add (((ji22)).toNat * 4)) = some (.int .i64 ((rd_T33 x8_3 (ji22)).f0)) ∧ w60.cell? ⟨(ad299.add (((ji22)).toNat * 4)).block, (ad299.add (((ji22)).toNat * 4)).off + 1, none⟩ = some (.int .i64 ((rd_T33 x8_3 (ji22)).f1)) ∧ w60.cell? ⟨(ad299.add (((ji22)).toNat * 4)).block, (ad299.add (((ji22)).toNat * 4)).off + 2, none⟩ = some (.int .i64 ((rd_T33 x8_3 (ji22)).f2)) ∧ w60.cell? ⟨(ad299.add (((ji22)).toNat * 4)).block, (ad299.add (((ji22)).toNat * 4)).off + 3, none⟩ = some (.int .i64 ((rd_T33 x8_3 (ji22)).f3)) := hS_
                    refine norm_ (a' := ?_) ?_ ?_
                    rotate_left
                    ·simp only [putAll, Act.put, List.setIfInBounds_toArray, List.set_cons_zero, List.set_cons_succ]
                     rfl
                    refine one_ (i := 10) (N := some 50) (bz 18 51199) rfl rfl (one_of HT_.out (by kernel_rfl)) (by decide) (fun K hK => ?_)
                    refine goes_ Try.func35 (by kernel_rfl) rfl #[.agg #[.int .i64 ((rd_T33 x8_3 x9_3).f0), .int .i64 ((rd_T33 x8_3 x9_3).f1), .int .i64 ((rd_T33 x8_3 x9_3).f2), .int .i64 ((rd_T33 x8_3 x9_3).f3)], .agg #[.int .i64 ((rd_T33 x8_3 (ji22)).f0), .int .i64 ((rd_T33 x8_3 (ji22)).f1), .int .i64 ((rd_T33 x8_3 (ji22)).f2), .int .i64 ((rd_T33 x8_3 (ji22)).f3)], .int .i64 a1] (by rfl) rfl rfl (by (try simp only [List.map_toArray, List.map_cons, List.map_nil]); first | done | (simp only [hji22]; rfl) | rfl | (simp only [List.length_drop, List.length_take]; rfl)) ?_
                    with_reducible refine (spec_l10Pair.calls k3 ((rd_T33 x8_3 x9_3).f0) ((rd_T33 x8_3 x9_3).f1) ((rd_T33 x8_3 x9_3).f2) ((rd_T33 x8_3 x9_3).f3) ((rd_T33 x8_3 (ji22)).f0) ((rd_T33 x8_3 (ji22)).f1) ((rd_T33 x8_3 (ji22)).f2) ((rd_T33 x8_3 (ji22)).f3) a1 t301 t302 t303 t304 t305 t306 t307 t308 _ A24.out).mono ?_
                    rintro e w61 ⟨rfl, hb⟩
                    have HS0_ := hT hb hHeld.1
                    have HS1_ := hT hb hHeld.2.1
                    have HS2_ := hT hb hHeld.2.2.1
                    have HS3_ := hT hb hHeld.2.2.2.1
                    have HS4_ := hT hb hHeld.2.2.2.2.1
                    have HS5_ := hT hb hHeld.2.2.2.2.2.1
                    have HS6_ := hT hb hHeld.2.2.2.2.2.2.1
                    have HS7_ := hT hb hHeld.2.2.2.2.2.2.2
                    refine ⟨_, rfl, ?_⟩
                    replace HO_8 := Aside0.mk (Kd.R_below (rU HO_8.out) hb)
                    replace BK309 := bB (bV BK309) hb
                    replace BK310 := bB (bV BK310) hb
                    replace HB := bH (lV2 GE309 GE310) hb
                    (try clear hb)
                    (try clear hb2)
                    (try clear hk)
                    (try clear hi)
                    refine hK.out _ _ ⟨HS0_, HS1_, HS2_, HS3_, HS4_, HS5_, HS6_, HS7_⟩ (fun hHeld => ?_)
                    clear hK K
                    refine norm_ (a' := ?_) ?_ ?_
                    rotate_left
                    ·show Act.put _ (some 50) _ = _
                     simp only [Act.put, List.setIfInBounds_toArray, List.set_cons_zero, List.set_cons_succ, i64_w, i32_w]
                     rfl
                    refine pureA 11 39 (bz 18 53247) rfl rfl (any_of HT_.out (by kernel_rfl)) ?_
                    refine pureA 12 51 (bz 18 57343) rfl rfl (any_of HT_.out (by kernel_rfl)) ?_
                    refine pureA 13 52 (bz 18 65535) rfl rfl (any_of HT_.out (by kernel_rfl)) ?_
                    exact norm_ nE (hJ10_14_15 (gb309, gb310) _ ⟨hHeld, (rU HO_8.out), (bV BK309), (bV BK310), GW309.out, GE309.out, NB310_309.out, NB309_310.out, GW310.out, GE310.out, (lV2 GE309 GE310)⟩)
                  ·skip
                   rintro gb310 w60 ⟨hS_, h0_, h1_, h2_, h3_, h4_⟩
                   replace HO_8 : Aside0 (Kd.R k33 33 w60 w.heap.size (fun k_ => k_ ≠ gb310) (.slice (some ad299) x8_3.length co56) x8_3) := ⟨h0_⟩
                   have BK310 : Aside0 (w60.heap[gb310]? = some (.cells #[.int .i64 0, .int .i64 0, .int .i64 0, .int .i64 0] 33 (0, 0))) := ⟨h1_⟩
                   have GW310 : Aside0 (w.heap.size ≤ gb310) := ⟨h2_⟩
                   have GE310 : Aside0 (w.heap.size ≤ gb310) := ⟨h3_⟩
                   replace HB : Aside0 (Below w.heap.size w w60) := ⟨h4_⟩
                   clear h0_ h1_ h2_ h3_ h4_
                   have hHeld : w60.cell? (ad299.add ((x9_3).toNat * 4)) = some (.int .i64 ((rd_T33 x8_3 x9_3).f0)) ∧ w60.cell? ⟨(ad299.add ((x9_3).toNat * 4)).block, (ad299.add ((x9_3).toNat * 4)).off + 1, none⟩ = some (.int .i64 ((rd_T33 x8_3 x9_3).f1)) ∧ w60.cell? ⟨(ad299.add ((x9_3).toNat * 4)).block, (ad299.add ((x9_3).toNat * 4)).off + 2, none⟩ = some (.int .i64 ((rd_T33 x8_3 x9_3).f2)) ∧ w60.cell? ⟨(ad299.add ((x9_3).toNat * 4)).block, (ad299.add ((x9_3).toNat * 4)).off + 3, none⟩ = some (.int .i64 ((rd_T33 x8_3 x9_3).f3)) ∧ w60.cell? (ad299.add (((ji22)).toNat * 4)) = some (.int .i64 ((rd_T33 x8_3 (ji22)).f0)) ∧ w60.cell? ⟨(ad299.add (((ji22)).toNat * 4)).block, (ad299.add (((ji22)).toNat * 4)).off + 1, none⟩ = some (.int .i64 ((rd_T33 x8_3 (ji22)).f1)) ∧ w60.cell? ⟨(ad299.add (((ji22)).toNat * 4)).block, (ad299.add (((ji22)).toNat * 4)).off + 2, none⟩ = some (.int .i64 ((rd_T33 x8_3 (ji22)).f2)) ∧ w60.cell? ⟨(ad299.add (((ji22)).toNat * 4)).block, (ad299.add (((ji22)).toNat * 4)).off + 3, none⟩ = some (.int .i64 ((rd_T33 x8_3 (ji22)).f3)) := hS_
                   refine norm_ (a' := ?_) ?_ ?_
                   rotate_left
                   ·simp only [putAll, Act.put, List.setIfInBounds_toArray, List.set_cons_zero, List.set_cons_succ]
                    rfl
                   refine one_ (i := 14) (N := some 10) (bz 18 65535) rfl rfl (one_of HT_.out (by kernel_rfl)) (by decide) (fun K hK => ?_)
                   refine box_step ?hg (N := 10) ?hd (cs := #[.int .i64 0, .int .i64 0, .int .i64 0, .int .i64 0]) (t := 33) ?hr ?_; (case hd => rfl); (case hg => rfl); (case hr => exact sE)
                   intro gb309 hg w61 hbox hb
                   have HS0_ := hT hb hHeld.1
                   have HS1_ := hT hb hHeld.2.1
                   have HS2_ := hT hb hHeld.2.2.1
                   have HS3_ := hT hb hHeld.2.2.2.1
                   have HS4_ := hT hb hHeld.2.2.2.2.1
                   have HS5_ := hT hb hHeld.2.2.2.2.2.1
                   have HS6_ := hT hb hHeld.2.2.2.2.2.2.1
                   have HS7_ := hT hb hHeld.2.2.2.2.2.2.2
                   replace HO_8 := Aside0.mk (Kd.R_below (Kd.R_elderB (rU HO_8.out) gb309 (Nat.le_of_eq hg.symm)) hb)
                   have BK309 := Aside0.mk hbox
                   have GW309 := gS w hg (lV1 GE310)
                   have GE309 := gS w hg (lV1 GE310)
                   replace HB := bH (lV1 GE310) hb
                   have NB310_309 := nL hg (bV BK310)
                   have NB309_310 := nG hg (bV BK310)
                   replace BK310 := bB (bV BK310) hb
                   clear hb hbox hg
                   refine hK.out _ _ ⟨HS0_, HS1_, HS2_, HS3_, HS4_, HS5_, HS6_, HS7_⟩ (fun hHeld => ?_)
                   clear hK K
                   refine norm_ (a' := ?_) ?_ ?_
                   rotate_left
                   ·show Act.put _ (some 10) _ = _
                    simp only [Act.put, List.setIfInBounds_toArray, List.set_cons_zero, List.set_cons_succ, i64_w, i32_w]
                    rfl
                   exact norm_ nE (hJ10_14_15 (gb309, gb310) _ ⟨hHeld, (by (with_reducible repeat (first | apply Kd.R_alloc | apply Kd.R_drewN | apply Kd.R_drew)); exact Kd.R_mono HO_8.out (fun _ hk => ⟨hk.2, hk.1⟩)), (bV BK309), (bV BK310), GW309.out, GE309.out, NB310_309.out, NB309_310.out, GW310.out, GE310.out, (lV2 GE310 GE309)⟩)
                 ·skip
                  rintro gb309 w60 ⟨hS_, h0_, h1_, h2_, h3_, h4_⟩
                  replace HO_8 : Aside0 (Kd.R k33 33 w60 w.heap.size (fun k_ => k_ ≠ gb309) (.slice (some ad299) x8_3.length co56) x8_3) := ⟨h0_⟩
                  have BK309 : Aside0 (w60.heap[gb309]? = some (.cells #[.int .i64 0, .int .i64 0, .int .i64 0, .int .i64 0] 33 (0, 0))) := ⟨h1_⟩
                  have GW309 : Aside0 (w.heap.size ≤ gb309) := ⟨h2_⟩
                  have GE309 : Aside0 (w.heap.size ≤ gb309) := ⟨h3_⟩
                  replace HB : Aside0 (Below w.heap.size w w60) := ⟨h4_⟩
                  clear h0_ h1_ h2_ h3_ h4_
                  have hHeld : w60.cell? (ad299.add ((x9_3).toNat * 4)) = some (.int .i64 ((rd_T33 x8_3 x9_3).f0)) ∧ w60.cell? ⟨(ad299.add ((x9_3).toNat * 4)).block, (ad299.add ((x9_3).toNat * 4)).off + 1, none⟩ = some (.int .i64 ((rd_T33 x8_3 x9_3).f1)) ∧ w60.cell? ⟨(ad299.add ((x9_3).toNat * 4)).block, (ad299.add ((x9_3).toNat * 4)).off + 2, none⟩ = some (.int .i64 ((rd_T33 x8_3 x9_3).f2)) ∧ w60.cell? ⟨(ad299.add ((x9_3).toNat * 4)).block, (ad299.add ((x9_3).toNat * 4)).off + 3, none⟩ = some (.int .i64 ((rd_T33 x8_3 x9_3).f3)) ∧ w60.cell? (ad299.add (((ji22)).toNat * 4)) = some (.int .i64 ((rd_T33 x8_3 (ji22)).f0)) ∧ w60.cell? ⟨(ad299.add (((ji22)).toNat * 4)).block, (ad299.add (((ji22)).toNat * 4)).off + 1, none⟩ = some (.int .i64 ((rd_T33 x8_3 (ji22)).f1)) ∧ w60.cell? ⟨(ad299.add (((ji22)).toNat * 4)).block, (ad299.add (((ji22)).toNat * 4)).off + 2, none⟩ = some (.int .i64 ((rd_T33 x8_3 (ji22)).f2)) ∧ w60.cell? ⟨(ad299.add (((ji22)).toNat * 4)).block, (ad299.add (((ji22)).toNat * 4)).off + 3, none⟩ = some (.int .i64 ((rd_T33 x8_3 (ji22)).f3)) := hS_
                  refine norm_ (a' := ?_) ?_ ?_
                  rotate_left
                  ·simp only [putAll, Act.put, List.setIfInBounds_toArray, List.set_cons_zero, List.set_cons_succ]
                   rfl
                  refine one_ (i := 15) (N := some 11) (bz 18 65535) rfl rfl (one_of HT_.out (by kernel_rfl)) (by decide) (fun K hK => ?_)
                  refine box_step ?hg (N := 11) ?hd (cs := #[.int .i64 0, .int .i64 0, .int .i64 0, .int .i64 0]) (t := 33) ?hr ?_; (case hd => rfl); (case hg => rfl); (case hr => exact sE)
                  intro gb310 hg w61 hbox hb
                  have HS0_ := hT hb hHeld.1
                  have HS1_ := hT hb hHeld.2.1
                  have HS2_ := hT hb hHeld.2.2.1
                  have HS3_ := hT hb hHeld.2.2.2.1
                  have HS4_ := hT hb hHeld.2.2.2.2.1
                  have HS5_ := hT hb hHeld.2.2.2.2.2.1
                  have HS6_ := hT hb hHeld.2.2.2.2.2.2.1
                  have HS7_ := hT hb hHeld.2.2.2.2.2.2.2
                  replace HO_8 := Aside0.mk (Kd.R_below (Kd.R_elderB (rU HO_8.out) gb310 (Nat.le_of_eq hg.symm)) hb)
                  have BK310 := Aside0.mk hbox
                  have GW310 := gS w hg (lV1 GE309)
                  have GE310 := gS w hg (lV1 GE309)
                  replace HB := bH (lV1 GE309) hb
                  have NB309_310 := nL hg (bV BK309)
                  have NB310_309 := nG hg (bV BK309)
                  replace BK309 := bB (bV BK309) hb
                  clear hb hbox hg
                  refine hK.out _ _ ⟨HS0_, HS1_, HS2_, HS3_, HS4_, HS5_, HS6_, HS7_⟩ (fun hHeld => ?_)
                  clear hK K
                  refine norm_ (a' := ?_) ?_ ?_
                  rotate_left
                  ·show Act.put _ (some 11) _ = _
                   simp only [Act.put, List.setIfInBounds_toArray, List.set_cons_zero, List.set_cons_succ, i64_w, i32_w]
                   rfl
                  exact norm_ nE (hJ10_14_15 (gb309, gb310) _ ⟨hHeld, (rU HO_8.out), (bV BK309), (bV BK310), GW309.out, GE309.out, NB310_309.out, NB309_310.out, GW310.out, GE310.out, (lV2 GE309 GE310)⟩)
                rintro ⟨gb309, gb310⟩ w61 ⟨hS_, h0_, h1_, h2_, h3_, h4_, h5_, h6_, h7_, h8_, h9_⟩
                replace HO_8 : Aside0 (Kd.R k33 33 w61 w.heap.size (fun k_ => k_ ≠ gb309 ∧ k_ ≠ gb310) (.slice (some ad299) x8_3.length co56) x8_3) := ⟨h0_⟩
                have BK309 : Aside0 (w61.heap[gb309]? = some (.cells #[.int .i64 0, .int .i64 0, .int .i64 0, .int .i64 0] 33 (0, 0))) := ⟨h1_⟩
                have BK310 : Aside0 (w61.heap[gb310]? = some (.cells #[.int .i64 0, .int .i64 0, .int .i64 0, .int .i64 0] 33 (0, 0))) := ⟨h2_⟩
                have GW309 : Aside0 (w.heap.size ≤ gb309) := ⟨h3_⟩
                have GE309 : Aside0 (w.heap.size ≤ gb309) := ⟨h4_⟩
                have NB310_309 : Aside0 (gb310 ≠ gb309) := ⟨h5_⟩
                have NB309_310 : Aside0 (gb309 ≠ gb310) := ⟨h6_⟩
                have GW310 : Aside0 (w.heap.size ≤ gb310) := ⟨h7_⟩
                have GE310 : Aside0 (w.heap.size ≤ gb310) := ⟨h8_⟩
                replace HB : Aside0 (Below w.heap.size w w61) := ⟨h9_⟩
                clear h0_ h1_ h2_ h3_ h4_ h5_ h6_ h7_ h8_ h9_
                have hHeld : w61.cell? (ad299.add ((x9_3).toNat * 4)) = some (.int .i64 ((rd_T33 x8_3 x9_3).f0)) ∧ w61.cell? ⟨(ad299.add ((x9_3).toNat * 4)).block, (ad299.add ((x9_3).toNat * 4)).off + 1, none⟩ = some (.int .i64 ((rd_T33 x8_3 x9_3).f1)) ∧ w61.cell? ⟨(ad299.add ((x9_3).toNat * 4)).block, (ad299.add ((x9_3).toNat * 4)).off + 2, none⟩ = some (.int .i64 ((rd_T33 x8_3 x9_3).f2)) ∧ w61.cell? ⟨(ad299.add ((x9_3).toNat * 4)).block, (ad299.add ((x9_3).toNat * 4)).off + 3, none⟩ = some (.int .i64 ((rd_T33 x8_3 x9_3).f3)) ∧ w61.cell? (ad299.add (((ji22)).toNat * 4)) = some (.int .i64 ((rd_T33 x8_3 (ji22)).f0)) ∧ w61.cell? ⟨(ad299.add (((ji22)).toNat * 4)).block, (ad299.add (((ji22)).toNat * 4)).off + 1, none⟩ = some (.int .i64 ((rd_T33 x8_3 (ji22)).f1)) ∧ w61.cell? ⟨(ad299.add (((ji22)).toNat * 4)).block, (ad299.add (((ji22)).toNat * 4)).off + 2, none⟩ = some (.int .i64 ((rd_T33 x8_3 (ji22)).f2)) ∧ w61.cell? ⟨(ad299.add (((ji22)).toNat * 4)).block, (ad299.add (((ji22)).toNat * 4)).off + 3, none⟩ = some (.int .i64 ((rd_T33 x8_3 (ji22)).f3)) := hS_
                refine norm_ (a' := ?_) ?_ ?_
                rotate_left
                ·simp only [putAll, Act.put, List.setIfInBounds_toArray, List.set_cons_zero, List.set_cons_succ]
                 rfl
                refine one_ (i := 16) (N := none) (bz 18 131071) rfl rfl (one_of HT_.out (by kernel_rfl)) (by decide) (fun K hK => ?_)
                have hs62 : w61.cell? ⟨gb309, 0, none⟩ = some (.int .i64 0) := (blk_cell BK309.out 0).trans rfl
                have hfs62 := blk_frozen BK309.out 0
                have hns62_1 := NB310_309.out
                have hms62_1 := NB309_310.out
                have hs63 : w61.cell? ⟨gb309, 1, none⟩ = some (.int .i64 0) := (blk_cell BK309.out 1).trans rfl
                have hfs63 := blk_frozen BK309.out 1
                have hns63_1 := NB310_309.out
                have hms63_1 := NB309_310.out
                have hs64 : w61.cell? ⟨gb309, 2, none⟩ = some (.int .i64 0) := (blk_cell BK309.out 2).trans rfl
                have hfs64 := blk_frozen BK309.out 2
                have hns64_1 := NB310_309.out
                have hms64_1 := NB309_310.out
                have hs65 : w61.cell? ⟨gb309, 3, none⟩ = some (.int .i64 0) := (blk_cell BK309.out 3).trans rfl
                have hfs65 := blk_frozen BK309.out 3
                have hns65_1 := NB310_309.out
                have hms65_1 := NB309_310.out
                refine skip_ (w1 := ?_) (by rfl) rfl ?_ ?_
                rotate_left
                ·go_simp
                 rfl
                refine hK.out _ _ ⟨(cf4 (Kd.own_blk (Kd.R_away HO_8.out (fun _ hk => hk.1))) hHeld.1), (cf4 (Kd.own_blk (Kd.R_away HO_8.out (fun _ hk => hk.1))) hHeld.2.1), (cf4 (Kd.own_blk (Kd.R_away HO_8.out (fun _ hk => hk.1))) hHeld.2.2.1), (cf4 (Kd.own_blk (Kd.R_away HO_8.out (fun _ hk => hk.1))) hHeld.2.2.2.1), (cf4 (Kd.own_blk (Kd.R_away HO_8.out (fun _ hk => hk.1))) hHeld.2.2.2.2.1), (cf4 (Kd.own_blk (Kd.R_away HO_8.out (fun _ hk => hk.1))) hHeld.2.2.2.2.2.1), (cf4 (Kd.own_blk (Kd.R_away HO_8.out (fun _ hk => hk.1))) hHeld.2.2.2.2.2.2.1), (cf4 (Kd.own_blk (Kd.R_away HO_8.out (fun _ hk => hk.1))) hHeld.2.2.2.2.2.2.2)⟩ (fun hHeld => ?_)
                clear hK K
                refine one_ (i := 17) (N := none) (bz 18 262143) rfl rfl (one_of HT_.out (by kernel_rfl)) (by decide) (fun K hK => ?_)
                have hs66 : w61.cell? ⟨gb310, 0, none⟩ = some (.int .i64 0) := (blk_cell BK310.out 0).trans rfl
                have hfs66 := blk_frozen BK310.out 0
                have hns66_0 := NB309_310.out
                have hms66_0 := NB310_309.out
                have hs67 : w61.cell? ⟨gb310, 1, none⟩ = some (.int .i64 0) := (blk_cell BK310.out 1).trans rfl
                have hfs67 := blk_frozen BK310.out 1
                have hns67_0 := NB309_310.out
                have hms67_0 := NB310_309.out
                have hs68 : w61.cell? ⟨gb310, 2, none⟩ = some (.int .i64 0) := (blk_cell BK310.out 2).trans rfl
                have hfs68 := blk_frozen BK310.out 2
                have hns68_0 := NB309_310.out
                have hms68_0 := NB310_309.out
                have hs69 : w61.cell? ⟨gb310, 3, none⟩ = some (.int .i64 0) := (blk_cell BK310.out 3).trans rfl
                have hfs69 := blk_frozen BK310.out 3
                have hns69_0 := NB309_310.out
                have hms69_0 := NB310_309.out
                refine skip_ (w1 := ?_) (by rfl) rfl ?_ ?_
                rotate_left
                ·go_simp
                 rfl
                refine hK.out _ _ ⟨(cf4 (Kd.own_blk (Kd.R_away HO_8.out (fun _ hk => hk.2))) hHeld.1), (cf4 (Kd.own_blk (Kd.R_away HO_8.out (fun _ hk => hk.2))) hHeld.2.1), (cf4 (Kd.own_blk (Kd.R_away HO_8.out (fun _ hk => hk.2))) hHeld.2.2.1), (cf4 (Kd.own_blk (Kd.R_away HO_8.out (fun _ hk => hk.2))) hHeld.2.2.2.1), (cf4 (Kd.own_blk (Kd.R_away HO_8.out (fun _ hk => hk.2))) hHeld.2.2.2.2.1), (cf4 (Kd.own_blk (Kd.R_away HO_8.out (fun _ hk => hk.2))) hHeld.2.2.2.2.2.1), (cf4 (Kd.own_blk (Kd.R_away HO_8.out (fun _ hk => hk.2))) hHeld.2.2.2.2.2.2.1), (cf4 (Kd.own_blk (Kd.R_away HO_8.out (fun _ hk => hk.2))) hHeld.2.2.2.2.2.2.2)⟩ (fun hHeld => ?_)
                clear hK K
                refine done_ (done_of HT_.out (by kernel_rfl)) ?_
                have hnb70 := NB309_310.out
                have hnc70 := NB310_309.out
                have hcz71_0 := cz BK309 0 (.int .i64 0)
                have hcz71_1 := cz BK309 1 (.int .i64 0)
                have hcz71_2 := cz BK309 2 (.int .i64 0)
                have hcz71_3 := cz BK309 3 (.int .i64 0)
                have hfz71_0 := fz BK309 0
                have hfz71_1 := fz BK309 1
                have hfz71_2 := fz BK309 2
                have hfz71_3 := fz BK309 3
                try go_wp2_with (first | ((with_reducible refine gate_callee (f := 36) rfl ?_); refine goesL_ (some 54) rfl rfl Try.func36 (by kernel_rfl) rfl #[.agg #[.int .i64 t301, .int .i64 t302, .int .i64 t303, .int .i64 t304]] rfl aE ?_; (with_reducible refine (spec_l10Body.calls t301 t302 t303 t304 true _ A25.out).mono ?_); rintro e w72 ⟨rfl, hb⟩; refine ⟨_, rfl, ?_⟩; replace HO_8 := Aside0.mk (Kd.R_below (rU (Kd.R_mono (Kd.R_mono (Kd.R_far (p := ⟨gb310, 3, none⟩) (Kd.R_far (p := ⟨gb310, 2, none⟩) (Kd.R_far (p := ⟨gb310, 1, none⟩) (Kd.R_far (p := ⟨gb310, 0, none⟩) (Kd.R_far (p := ⟨gb309, 3, none⟩) (Kd.R_far (p := ⟨gb309, 2, none⟩) (Kd.R_far (p := ⟨gb309, 1, none⟩) (Kd.R_far (p := ⟨gb309, 0, none⟩) (Kd.R_mono (Kd.R_mono HO_8.out (fun k_ hk => (⟨hk, hk.1⟩ : _ ∧ k_ ≠ gb309))) (fun k_ hk => (⟨hk, hk.1.2⟩ : _ ∧ k_ ≠ gb310))) (fun _ hk => hk.1.2) (.int .i64 t301)) (fun _ hk => hk.1.2) (.int .i64 t302)) (fun _ hk => hk.1.2) (.int .i64 t303)) (fun _ hk => hk.1.2) (.int .i64 t304)) (fun _ hk => hk.2) (.int .i64 t305)) (fun _ hk => hk.2) (.int .i64 t306)) (fun _ hk => hk.2) (.int .i64 t307)) (fun _ hk => hk.2) (.int .i64 t308)) (fun _ h_ => h_.1)) (fun _ h_ => h_.1))) hb); replace BK309 := Aside0.mk (blk_below (g := gb309) (o := .cells #[.int .i64 t301, .int .i64 t302, .int .i64 t303, .int .i64 t304] 33 (0, 0)) (by refine bU ?_; refine blk_far ?_ NB309_310.out _; refine bU ?_; refine blk_far ?_ NB309_310.out _; refine bU ?_; refine blk_far ?_ NB309_310.out _; refine bU ?_; refine blk_far ?_ NB309_310.out _; refine bU ?_; refine blk_put (cs := #[.int .i64 t301, .int .i64 t302, .int .i64 t303, .int .i64 0]) ?_ 3 _ rfl; refine bU ?_; refine blk_put (cs := #[.int .i64 t301, .int .i64 t302, .int .i64 0, .int .i64 0]) ?_ 2 _ rfl; refine bU ?_; refine blk_put (cs := #[.int .i64 t301, .int .i64 0, .int .i64 0, .int .i64 0]) ?_ 1 _ rfl; refine bU ?_; refine blk_put (cs := #[.int .i64 0, .int .i64 0, .int .i64 0, .int .i64 0]) ?_ 0 _ rfl; refine bU ?_; exact BK309.out) hb); replace BK310 := Aside0.mk (blk_below (g := gb310) (o := .cells #[.int .i64 t305, .int .i64 t306, .int .i64 t307, .int .i64 t308] 33 (0, 0)) (by refine bU ?_; refine blk_put (cs := #[.int .i64 t305, .int .i64 t306, .int .i64 t307, .int .i64 0]) ?_ 3 _ rfl; refine bU ?_; refine blk_put (cs := #[.int .i64 t305, .int .i64 t306, .int .i64 0, .int .i64 0]) ?_ 2 _ rfl; refine bU ?_; refine blk_put (cs := #[.int .i64 t305, .int .i64 0, .int .i64 0, .int .i64 0]) ?_ 1 _ rfl; refine bU ?_; refine blk_put (cs := #[.int .i64 0, .int .i64 0, .int .i64 0, .int .i64 0]) ?_ 0 _ rfl; refine bU ?_; refine blk_far ?_ NB310_309.out _; refine bU ?_; refine blk_far ?_ NB310_309.out _; refine bU ?_; refine blk_far ?_ NB310_309.out _; refine bU ?_; refine blk_far ?_ NB310_309.out _; refine bU ?_; exact BK310.out) hb); replace HB := bH (lV2 GE309 GE310) hb; (try clear hb); have hcz73_0 := cz BK310 0 (.int .i64 t305); have hcz73_1 := cz BK310 1 (.int .i64 t306); have hcz73_2 := cz BK310 2 (.int .i64 t307); have hcz73_3 := cz BK310 3 (.int .i64 t308); have hfz73_0 := fz BK310 0; have hfz73_1 := fz BK310 1; have hfz73_2 := fz BK310 2; have hfz73_3 := fz BK310 3) | (go_at_call 36; (with_reducible refine (spec_l10Body.calls t305 t306 t307 t308 false _ A27.out).mono ?_); rintro e w74 ⟨rfl, hb⟩; replace HO_8 := Aside0.mk (Kd.R_below (rU HO_8.out) hb); replace BK309 := bB (bV BK309) hb; replace BK310 := bB (bV BK310) hb; replace HB := bH (lV2 GE309 GE310) hb; (try clear hb)))
                go_ret2
                exact ⟨_, by first | rfl | (simp [errW_none, errW_some] <;> rfl) | (simp only [← hji22]; first | rfl | (simp [errW_none, errW_some] <;> rfl)) | (simp [*, errW_none, errW_some] <;> rfl), by first | exact Kd.R_nil _ _ _ _ _ | exact Kd.N_nil _ _ _ _ _ | exact Kd.V_nil _ _ _ _ _ | exact Kd.Q_nil _ _ _ _ _ | exact Kd.S_nil _ _ _ _ _, lV2 GE309 GE310⟩
              ·replace c26 := Bool.eq_false_iff.mpr c26
               subst c26
               have H1 : (some (([] : List (S33)), false)) = some (r1, r2) := by rw [if_neg (show ¬ (false = true) by decide)] at H; exact H
               clear H
               have H := H1
               clear H1
               simp only [Option.some.injEq, Prod.mk.injEq] at H
               obtain ⟨rfl, rfl⟩ := H
               obtain ⟨Ao75, co75, eo75⟩ := Kd.R_slice HO_8.out
               subst eo75
               try go_wp2
               replace HO_8 := Aside0.mk (Kd.R_drew HO_8.out)
               replace HB := Aside0.mk (below_drew1 HB.out)
               have p299 : 0 ≤ (x9_3 : Int) := of_decide_eq_true hE
               have q299 : x9_3 < (x8_3.length : Int) := of_decide_eq_true hE
               obtain ⟨ad299, e299, hx299_0, hx299_1, hx299_2, hx299_3⟩ := at_T33 (Kd.R_reads' HO_8.out).2.2 x9_3 p299 q299
               cases e299
               replace p299 := eq_true p299
               replace q299 := eq_true q299
               have p300 : 0 ≤ ((ji22) : Int) := of_decide_eq_true hE
               have q300 : (ji22) < (x8_3.length : Int) := of_decide_eq_true hE
               obtain ⟨ad300, e300, hx300_0, hx300_1, hx300_2, hx300_3⟩ := at_T33 (Kd.R_reads' HO_8.out).2.2 (ji22) p300 q300
               obtain rfl : ad299 = ad300 := (by injection e300)
               replace p300 := eq_true p300
               replace q300 := eq_true q300
               refine start_ (n := 18) (S := fun w' => w'.cell? (ad299.add ((x9_3).toNat * 4)) = some (.int .i64 ((rd_T33 x8_3 x9_3).f0)) ∧ w'.cell? ⟨(ad299.add ((x9_3).toNat * 4)).block, (ad299.add ((x9_3).toNat * 4)).off + 1, none⟩ = some (.int .i64 ((rd_T33 x8_3 x9_3).f1)) ∧ w'.cell? ⟨(ad299.add ((x9_3).toNat * 4)).block, (ad299.add ((x9_3).toNat * 4)).off + 2, none⟩ = some (.int .i64 ((rd_T33 x8_3 x9_3).f2)) ∧ w'.cell? ⟨(ad299.add ((x9_3).toNat * 4)).block, (ad299.add ((x9_3).toNat * 4)).off + 3, none⟩ = some (.int .i64 ((rd_T33 x8_3 x9_3).f3)) ∧ w'.cell? (ad299.add (((ji22)).toNat * 4)) = some (.int .i64 ((rd_T33 x8_3 (ji22)).f0)) ∧ w'.cell? ⟨(ad299.add (((ji22)).toNat * 4)).block, (ad299.add (((ji22)).toNat * 4)).off + 1, none⟩ = some (.int .i64 ((rd_T33 x8_3 (ji22)).f1)) ∧ w'.cell? ⟨(ad299.add (((ji22)).toNat * 4)).block, (ad299.add (((ji22)).toNat * 4)).off + 2, none⟩ = some (.int .i64 ((rd_T33 x8_3 (ji22)).f2)) ∧ w'.cell? ⟨(ad299.add (((ji22)).toNat * 4)).block, (ad299.add (((ji22)).toNat * 4)).off + 3, none⟩ = some (.int .i64 ((rd_T33 x8_3 (ji22)).f3))) (ds := []) #[false, false, false, false, false, false, false, false, false, false, false, false, false, false, false, false, false, false] (by kernel_rfl) rfl rfl ⟨hx299_0, hx299_1, hx299_2, hx299_3, hx300_0, hx300_1, hx300_2, hx300_3⟩ (fun hHeld => ?_); refine with_tabW spec_l10Push.tab9 spec_l10Push.bits9 (fun HT_ HW_ => ?_)
               generalize wr.drew = w76 at HO_8 HB hx299_0 hx299_1 hx299_2 hx299_3 hx300_0 hx300_1 hx300_2 hx300_3 hHeld ⊢
               refine pureA 0 40 (bz 18 1) rfl rfl (any_of HT_.out (by kernel_rfl)) ?_
               refine pureA 1 41 (bz 18 3) rfl rfl (any_of HT_.out (by kernel_rfl)) ?_
               refine pureA 2 42 (bz 18 7) rfl rfl (any_of HT_.out (by kernel_rfl)) ?_
               refine pureA 4 44 (bz 18 23) rfl rfl (any_of HT_.out (by kernel_rfl)) ?_
               refine pureA 5 45 (bz 18 55) rfl rfl (any_of HT_.out (by kernel_rfl)) ?_
               refine pureA 6 46 (bz 18 119) rfl rfl (any_of HT_.out (by kernel_rfl)) ?_
               refine pureA 7 47 (bz 18 247) rfl rfl (any_of HT_.out (by kernel_rfl)) ?_
               refine pureA 9 49 (bz 18 759) rfl rfl (any_of HT_.out (by kernel_rfl)) ?_
               refine takeA 3 43 (bz 18 767) rfl rfl (take_ofW HT_.out HW_.out (by kernel_rfl)) hHeld (by rintro w' ⟨s0, s1, s2, s3, s4, s5, s6, s7⟩; go_simp; with_reducible rfl) ?_
               refine takeA 8 48 (bz 18 1023) rfl rfl (take_ofW HT_.out HW_.out (by kernel_rfl)) hHeld (by rintro w' ⟨s0, s1, s2, s3, s4, s5, s6, s7⟩; go_simp; with_reducible rfl) ?_
               refine join_ (σ := Nat × Nat) 2 #[true, true, true, true, true, true, true, true, true, true, true, true, true, true, true, true, false, false] (fun s_ => [(50, .tuple #[.agg #[.int .i64 t301, .int .i64 t302, .int .i64 t303, .int .i64 t304], .agg #[.int .i64 t305, .int .i64 t306, .int .i64 t307, .int .i64 t308]]), (10, .pointer (some ⟨s_.1, 0, none⟩)), (11, .pointer (some ⟨s_.2, 0, none⟩)), (39, .tuple #[.agg #[.int .i64 t301, .int .i64 t302, .int .i64 t303, .int .i64 t304], .agg #[.int .i64 t305, .int .i64 t306, .int .i64 t307, .int .i64 t308]]), (51, .agg #[.int .i64 t301, .int .i64 t302, .int .i64 t303, .int .i64 t304]), (52, .agg #[.int .i64 t305, .int .i64 t306, .int .i64 t307, .int .i64 t308])]) (fun s_ w' => (w'.cell? (ad299.add ((x9_3).toNat * 4)) = some (.int .i64 ((rd_T33 x8_3 x9_3).f0)) ∧ w'.cell? ⟨(ad299.add ((x9_3).toNat * 4)).block, (ad299.add ((x9_3).toNat * 4)).off + 1, none⟩ = some (.int .i64 ((rd_T33 x8_3 x9_3).f1)) ∧ w'.cell? ⟨(ad299.add ((x9_3).toNat * 4)).block, (ad299.add ((x9_3).toNat * 4)).off + 2, none⟩ = some (.int .i64 ((rd_T33 x8_3 x9_3).f2)) ∧ w'.cell? ⟨(ad299.add ((x9_3).toNat * 4)).block, (ad299.add ((x9_3).toNat * 4)).off + 3, none⟩ = some (.int .i64 ((rd_T33 x8_3 x9_3).f3)) ∧ w'.cell? (ad299.add (((ji22)).toNat * 4)) = some (.int .i64 ((rd_T33 x8_3 (ji22)).f0)) ∧ w'.cell? ⟨(ad299.add (((ji22)).toNat * 4)).block, (ad299.add (((ji22)).toNat * 4)).off + 1, none⟩ = some (.int .i64 ((rd_T33 x8_3 (ji22)).f1)) ∧ w'.cell? ⟨(ad299.add (((ji22)).toNat * 4)).block, (ad299.add (((ji22)).toNat * 4)).off + 2, none⟩ = some (.int .i64 ((rd_T33 x8_3 (ji22)).f2)) ∧ w'.cell? ⟨(ad299.add (((ji22)).toNat * 4)).block, (ad299.add (((ji22)).toNat * 4)).off + 3, none⟩ = some (.int .i64 ((rd_T33 x8_3 (ji22)).f3))) ∧ (Kd.R k33 33 w' w.heap.size (fun k_ => k_ ≠ s_.1 ∧ k_ ≠ s_.2) (.slice (some ad299) x8_3.length co75) x8_3) ∧ (w'.heap[s_.1]? = some (.cells #[.int .i64 0, .int .i64 0, .int .i64 0, .int .i64 0] 33 (0, 0))) ∧ (w'.heap[s_.2]? = some (.cells #[.int .i64 0, .int .i64 0, .int .i64 0, .int .i64 0] 33 (0, 0))) ∧ (w.heap.size ≤ s_.1) ∧ (w.heap.size ≤ s_.1) ∧ (s_.2 ≠ s_.1) ∧ (s_.1 ≠ s_.2) ∧ (w.heap.size ≤ s_.2) ∧ (w.heap.size ≤ s_.2) ∧ (Below w.heap.size w w')) ?_ ?_
               rotate_left
               ·intro hJ10_14_15
                refine join_ (σ := Nat) 3 #[true, true, true, true, true, true, true, true, true, true, true, true, true, true, true, false, false, false] (fun s_ => [(50, .tuple #[.agg #[.int .i64 t301, .int .i64 t302, .int .i64 t303, .int .i64 t304], .agg #[.int .i64 t305, .int .i64 t306, .int .i64 t307, .int .i64 t308]]), (10, .pointer (some ⟨s_, 0, none⟩)), (39, .tuple #[.agg #[.int .i64 t301, .int .i64 t302, .int .i64 t303, .int .i64 t304], .agg #[.int .i64 t305, .int .i64 t306, .int .i64 t307, .int .i64 t308]]), (51, .agg #[.int .i64 t301, .int .i64 t302, .int .i64 t303, .int .i64 t304]), (52, .agg #[.int .i64 t305, .int .i64 t306, .int .i64 t307, .int .i64 t308])]) (fun s_ w' => (w'.cell? (ad299.add ((x9_3).toNat * 4)) = some (.int .i64 ((rd_T33 x8_3 x9_3).f0)) ∧ w'.cell? ⟨(ad299.add ((x9_3).toNat * 4)).block, (ad299.add ((x9_3).toNat * 4)).off + 1, none⟩ = some (.int .i64 ((rd_T33 x8_3 x9_3).f1)) ∧ w'.cell? ⟨(ad299.add ((x9_3).toNat * 4)).block, (ad299.add ((x9_3).toNat * 4)).off + 2, none⟩ = some (.int .i64 ((rd_T33 x8_3 x9_3).f2)) ∧ w'.cell? ⟨(ad299.add ((x9_3).toNat * 4)).block, (ad299.add ((x9_3).toNat * 4)).off + 3, none⟩ = some (.int .i64 ((rd_T33 x8_3 x9_3).f3)) ∧ w'.cell? (ad299.add (((ji22)).toNat * 4)) = some (.int .i64 ((rd_T33 x8_3 (ji22)).f0)) ∧ w'.cell? ⟨(ad299.add (((ji22)).toNat * 4)).block, (ad299.add (((ji22)).toNat * 4)).off + 1, none⟩ = some (.int .i64 ((rd_T33 x8_3 (ji22)).f1)) ∧ w'.cell? ⟨(ad299.add (((ji22)).toNat * 4)).block, (ad299.add (((ji22)).toNat * 4)).off + 2, none⟩ = some (.int .i64 ((rd_T33 x8_3 (ji22)).f2)) ∧ w'.cell? ⟨(ad299.add (((ji22)).toNat * 4)).block, (ad299.add (((ji22)).toNat * 4)).off + 3, none⟩ = some (.int .i64 ((rd_T33 x8_3 (ji22)).f3))) ∧ (Kd.R k33 33 w' w.heap.size (fun k_ => k_ ≠ s_) (.slice (some ad299) x8_3.length co75) x8_3) ∧ (w'.heap[s_]? = some (.cells #[.int .i64 0, .int .i64 0, .int .i64 0, .int .i64 0] 33 (0, 0))) ∧ (w.heap.size ≤ s_) ∧ (w.heap.size ≤ s_) ∧ (Below w.heap.size w w')) ?_ ?_
                rotate_left
                ·intro hJ10_14
                 refine join_ (σ := Nat) 3 #[true, true, true, true, true, true, true, true, true, true, true, true, true, true, false, true, false, false] (fun s_ => [(50, .tuple #[.agg #[.int .i64 t301, .int .i64 t302, .int .i64 t303, .int .i64 t304], .agg #[.int .i64 t305, .int .i64 t306, .int .i64 t307, .int .i64 t308]]), (11, .pointer (some ⟨s_, 0, none⟩)), (39, .tuple #[.agg #[.int .i64 t301, .int .i64 t302, .int .i64 t303, .int .i64 t304], .agg #[.int .i64 t305, .int .i64 t306, .int .i64 t307, .int .i64 t308]]), (51, .agg #[.int .i64 t301, .int .i64 t302, .int .i64 t303, .int .i64 t304]), (52, .agg #[.int .i64 t305, .int .i64 t306, .int .i64 t307, .int .i64 t308])]) (fun s_ w' => (w'.cell? (ad299.add ((x9_3).toNat * 4)) = some (.int .i64 ((rd_T33 x8_3 x9_3).f0)) ∧ w'.cell? ⟨(ad299.add ((x9_3).toNat * 4)).block, (ad299.add ((x9_3).toNat * 4)).off + 1, none⟩ = some (.int .i64 ((rd_T33 x8_3 x9_3).f1)) ∧ w'.cell? ⟨(ad299.add ((x9_3).toNat * 4)).block, (ad299.add ((x9_3).toNat * 4)).off + 2, none⟩ = some (.int .i64 ((rd_T33 x8_3 x9_3).f2)) ∧ w'.cell? ⟨(ad299.add ((x9_3).toNat * 4)).block, (ad299.add ((x9_3).toNat * 4)).off + 3, none⟩ = some (.int .i64 ((rd_T33 x8_3 x9_3).f3)) ∧ w'.cell? (ad299.add (((ji22)).toNat * 4)) = some (.int .i64 ((rd_T33 x8_3 (ji22)).f0)) ∧ w'.cell? ⟨(ad299.add (((ji22)).toNat * 4)).block, (ad299.add (((ji22)).toNat * 4)).off + 1, none⟩ = some (.int .i64 ((rd_T33 x8_3 (ji22)).f1)) ∧ w'.cell? ⟨(ad299.add (((ji22)).toNat * 4)).block, (ad299.add (((ji22)).toNat * 4)).off + 2, none⟩ = some (.int .i64 ((rd_T33 x8_3 (ji22)).f2)) ∧ w'.cell? ⟨(ad299.add (((ji22)).toNat * 4)).block, (ad299.add (((ji22)).toNat * 4)).off + 3, none⟩ = some (.int .i64 ((rd_T33 x8_3 (ji22)).f3))) ∧ (Kd.R k33 33 w' w.heap.size (fun k_ => k_ ≠ s_) (.slice (some ad299) x8_3.length co75) x8_3) ∧ (w'.heap[s_]? = some (.cells #[.int .i64 0, .int .i64 0, .int .i64 0, .int .i64 0] 33 (0, 0))) ∧ (w.heap.size ≤ s_) ∧ (w.heap.size ≤ s_) ∧ (Below w.heap.size w w')) ?_ ?_
                 rotate_left
                 ·intro hJ10_15
                  refine join_ (σ := Nat × Nat) 6 #[true, true, true, true, true, true, true, true, true, true, false, false, false, false, true, true, false, false] (fun s_ => [(10, .pointer (some ⟨s_.1, 0, none⟩)), (11, .pointer (some ⟨s_.2, 0, none⟩))]) (fun s_ w' => (w'.cell? (ad299.add ((x9_3).toNat * 4)) = some (.int .i64 ((rd_T33 x8_3 x9_3).f0)) ∧ w'.cell? ⟨(ad299.add ((x9_3).toNat * 4)).block, (ad299.add ((x9_3).toNat * 4)).off + 1, none⟩ = some (.int .i64 ((rd_T33 x8_3 x9_3).f1)) ∧ w'.cell? ⟨(ad299.add ((x9_3).toNat * 4)).block, (ad299.add ((x9_3).toNat * 4)).off + 2, none⟩ = some (.int .i64 ((rd_T33 x8_3 x9_3).f2)) ∧ w'.cell? ⟨(ad299.add ((x9_3).toNat * 4)).block, (ad299.add ((x9_3).toNat * 4)).off + 3, none⟩ = some (.int .i64 ((rd_T33 x8_3 x9_3).f3)) ∧ w'.cell? (ad299.add (((ji22)).toNat * 4)) = some (.int .i64 ((rd_T33 x8_3 (ji22)).f0)) ∧ w'.cell? ⟨(ad299.add (((ji22)).toNat * 4)).block, (ad299.add (((ji22)).toNat * 4)).off + 1, none⟩ = some (.int .i64 ((rd_T33 x8_3 (ji22)).f1)) ∧ w'.cell? ⟨(ad299.add (((ji22)).toNat * 4)).block, (ad299.add (((ji22)).toNat * 4)).off + 2, none⟩ = some (.int .i64 ((rd_T33 x8_3 (ji22)).f2)) ∧ w'.cell? ⟨(ad299.add (((ji22)).toNat * 4)).block, (ad299.add (((ji22)).toNat * 4)).off + 3, none⟩ = some (.int .i64 ((rd_T33 x8_3 (ji22)).f3))) ∧ (Kd.R k33 33 w' w.heap.size (fun k_ => k_ ≠ s_.1 ∧ k_ ≠ s_.2) (.slice (some ad299) x8_3.length co75) x8_3) ∧ (w'.heap[s_.1]? = some (.cells #[.int .i64 0, .int .i64 0, .int .i64 0, .int .i64 0] 33 (0, 0))) ∧ (w'.heap[s_.2]? = some (.cells #[.int .i64 0, .int .i64 0, .int .i64 0, .int .i64 0] 33 (0, 0))) ∧ (w.heap.size ≤ s_.1) ∧ (w.heap.size ≤ s_.1) ∧ (s_.2 ≠ s_.1) ∧ (s_.1 ≠ s_.2) ∧ (w.heap.size ≤ s_.2) ∧ (w.heap.size ≤ s_.2) ∧ (Below w.heap.size w w')) ?_ ?_
                  rotate_left
                  ·intro hJ14_15
                   refine join_ (σ := Unit) 4 #[true, true, true, true, true, true, true, true, true, true, true, true, true, true, false, false, false, false] (fun s_ => [(50, .tuple #[.agg #[.int .i64 t301, .int .i64 t302, .int .i64 t303, .int .i64 t304], .agg #[.int .i64 t305, .int .i64 t306, .int .i64 t307, .int .i64 t308]]), (39, .tuple #[.agg #[.int .i64 t301, .int .i64 t302, .int .i64 t303, .int .i64 t304], .agg #[.int .i64 t305, .int .i64 t306, .int .i64 t307, .int .i64 t308]]), (51, .agg #[.int .i64 t301, .int .i64 t302, .int .i64 t303, .int .i64 t304]), (52, .agg #[.int .i64 t305, .int .i64 t306, .int .i64 t307, .int .i64 t308])]) (fun s_ w' => (w'.cell? (ad299.add ((x9_3).toNat * 4)) = some (.int .i64 ((rd_T33 x8_3 x9_3).f0)) ∧ w'.cell? ⟨(ad299.add ((x9_3).toNat * 4)).block, (ad299.add ((x9_3).toNat * 4)).off + 1, none⟩ = some (.int .i64 ((rd_T33 x8_3 x9_3).f1)) ∧ w'.cell? ⟨(ad299.add ((x9_3).toNat * 4)).block, (ad299.add ((x9_3).toNat * 4)).off + 2, none⟩ = some (.int .i64 ((rd_T33 x8_3 x9_3).f2)) ∧ w'.cell? ⟨(ad299.add ((x9_3).toNat * 4)).block, (ad299.add ((x9_3).toNat * 4)).off + 3, none⟩ = some (.int .i64 ((rd_T33 x8_3 x9_3).f3)) ∧ w'.cell? (ad299.add (((ji22)).toNat * 4)) = some (.int .i64 ((rd_T33 x8_3 (ji22)).f0)) ∧ w'.cell? ⟨(ad299.add (((ji22)).toNat * 4)).block, (ad299.add (((ji22)).toNat * 4)).off + 1, none⟩ = some (.int .i64 ((rd_T33 x8_3 (ji22)).f1)) ∧ w'.cell? ⟨(ad299.add (((ji22)).toNat * 4)).block, (ad299.add (((ji22)).toNat * 4)).off + 2, none⟩ = some (.int .i64 ((rd_T33 x8_3 (ji22)).f2)) ∧ w'.cell? ⟨(ad299.add (((ji22)).toNat * 4)).block, (ad299.add (((ji22)).toNat * 4)).off + 3, none⟩ = some (.int .i64 ((rd_T33 x8_3 (ji22)).f3))) ∧ (Kd.R k33 33 w' w.heap.size (fun _ => True) (.slice (some ad299) x8_3.length co75) x8_3) ∧ (Below w.heap.size w w')) ?_ ?_
                   rotate_left
                   ·intro hJ10
                    refine join_ (σ := Nat) 7 #[true, true, true, true, true, true, true, true, true, true, false, false, false, false, true, false, false, false] (fun s_ => [(10, .pointer (some ⟨s_, 0, none⟩))]) (fun s_ w' => (w'.cell? (ad299.add ((x9_3).toNat * 4)) = some (.int .i64 ((rd_T33 x8_3 x9_3).f0)) ∧ w'.cell? ⟨(ad299.add ((x9_3).toNat * 4)).block, (ad299.add ((x9_3).toNat * 4)).off + 1, none⟩ = some (.int .i64 ((rd_T33 x8_3 x9_3).f1)) ∧ w'.cell? ⟨(ad299.add ((x9_3).toNat * 4)).block, (ad299.add ((x9_3).toNat * 4)).off + 2, none⟩ = some (.int .i64 ((rd_T33 x8_3 x9_3).f2)) ∧ w'.cell? ⟨(ad299.add ((x9_3).toNat * 4)).block, (ad299.add ((x9_3).toNat * 4)).off + 3, none⟩ = some (.int .i64 ((rd_T33 x8_3 x9_3).f3)) ∧ w'.cell? (ad299.add (((ji22)).toNat * 4)) = some (.int .i64 ((rd_T33 x8_3 (ji22)).f0)) ∧ w'.cell? ⟨(ad299.add (((ji22)).toNat * 4)).block, (ad299.add (((ji22)).toNat * 4)).off + 1, none⟩ = some (.int .i64 ((rd_T33 x8_3 (ji22)).f1)) ∧ w'.cell? ⟨(ad299.add (((ji22)).toNat * 4)).block, (ad299.add (((ji22)).toNat * 4)).off + 2, none⟩ = some (.int .i64 ((rd_T33 x8_3 (ji22)).f2)) ∧ w'.cell? ⟨(ad299.add (((ji22)).toNat * 4)).block, (ad299.add (((ji22)).toNat * 4)).off + 3, none⟩ = some (.int .i64 ((rd_T33 x8_3 (ji22)).f3))) ∧ (Kd.R k33 33 w' w.heap.size (fun k_ => k_ ≠ s_) (.slice (some ad299) x8_3.length co75) x8_3) ∧ (w'.heap[s_]? = some (.cells #[.int .i64 0, .int .i64 0, .int .i64 0, .int .i64 0] 33 (0, 0))) ∧ (w.heap.size ≤ s_) ∧ (w.heap.size ≤ s_) ∧ (Below w.heap.size w w')) ?_ ?_
                    rotate_left
                    ·intro hJ14
                     refine join_ (σ := Nat) 7 #[true, true, true, true, true, true, true, true, true, true, false, false, false, false, false, true, false, false] (fun s_ => [(11, .pointer (some ⟨s_, 0, none⟩))]) (fun s_ w' => (w'.cell? (ad299.add ((x9_3).toNat * 4)) = some (.int .i64 ((rd_T33 x8_3 x9_3).f0)) ∧ w'.cell? ⟨(ad299.add ((x9_3).toNat * 4)).block, (ad299.add ((x9_3).toNat * 4)).off + 1, none⟩ = some (.int .i64 ((rd_T33 x8_3 x9_3).f1)) ∧ w'.cell? ⟨(ad299.add ((x9_3).toNat * 4)).block, (ad299.add ((x9_3).toNat * 4)).off + 2, none⟩ = some (.int .i64 ((rd_T33 x8_3 x9_3).f2)) ∧ w'.cell? ⟨(ad299.add ((x9_3).toNat * 4)).block, (ad299.add ((x9_3).toNat * 4)).off + 3, none⟩ = some (.int .i64 ((rd_T33 x8_3 x9_3).f3)) ∧ w'.cell? (ad299.add (((ji22)).toNat * 4)) = some (.int .i64 ((rd_T33 x8_3 (ji22)).f0)) ∧ w'.cell? ⟨(ad299.add (((ji22)).toNat * 4)).block, (ad299.add (((ji22)).toNat * 4)).off + 1, none⟩ = some (.int .i64 ((rd_T33 x8_3 (ji22)).f1)) ∧ w'.cell? ⟨(ad299.add (((ji22)).toNat * 4)).block, (ad299.add (((ji22)).toNat * 4)).off + 2, none⟩ = some (.int .i64 ((rd_T33 x8_3 (ji22)).f2)) ∧ w'.cell? ⟨(ad299.add (((ji22)).toNat * 4)).block, (ad299.add (((ji22)).toNat * 4)).off + 3, none⟩ = some (.int .i64 ((rd_T33 x8_3 (ji22)).f3))) ∧ (Kd.R k33 33 w' w.heap.size (fun k_ => k_ ≠ s_) (.slice (some ad299) x8_3.length co75) x8_3) ∧ (w'.heap[s_]? = some (.cells #[.int .i64 0, .int .i64 0, .int .i64 0, .int .i64 0] 33 (0, 0))) ∧ (w.heap.size ≤ s_) ∧ (w.heap.size ≤ s_) ∧ (Below w.heap.size w w')) ?_ ?_
                     rotate_left
                     ·intro hJ15
                      refine three_ (i := 10) (j := 14) (k := 15) (Ni := some 50) (Nj := some 10) (Nk := some 11) #[true, true, true, true, true, true, true, true, true, true, true, false, false, false, false, false, false, false] #[true, true, true, true, true, true, true, true, true, true, false, false, false, false, true, false, false, false] #[true, true, true, true, true, true, true, true, true, true, false, false, false, false, false, true, false, false] rfl rfl rfl rfl rfl rfl (three_of HT_.out (by kernel_rfl)) (by decide) (by decide) (by decide) (fun K hK => ?_) (fun K hK => ?_) (fun K hK => ?_)
                      ·skip
                       refine goes_ Try.func35 (by kernel_rfl) rfl #[.agg #[.int .i64 ((rd_T33 x8_3 x9_3).f0), .int .i64 ((rd_T33 x8_3 x9_3).f1), .int .i64 ((rd_T33 x8_3 x9_3).f2), .int .i64 ((rd_T33 x8_3 x9_3).f3)], .agg #[.int .i64 ((rd_T33 x8_3 (ji22)).f0), .int .i64 ((rd_T33 x8_3 (ji22)).f1), .int .i64 ((rd_T33 x8_3 (ji22)).f2), .int .i64 ((rd_T33 x8_3 (ji22)).f3)], .int .i64 a1] (by rfl) rfl rfl (by (try simp only [List.map_toArray, List.map_cons, List.map_nil]); first | done | (simp only [hji22]; rfl) | rfl | (simp only [List.length_drop, List.length_take]; rfl)) ?_
                       with_reducible refine (spec_l10Pair.calls k3 ((rd_T33 x8_3 x9_3).f0) ((rd_T33 x8_3 x9_3).f1) ((rd_T33 x8_3 x9_3).f2) ((rd_T33 x8_3 x9_3).f3) ((rd_T33 x8_3 (ji22)).f0) ((rd_T33 x8_3 (ji22)).f1) ((rd_T33 x8_3 (ji22)).f2) ((rd_T33 x8_3 (ji22)).f3) a1 t301 t302 t303 t304 t305 t306 t307 t308 _ A24.out).mono ?_
                       rintro e w77 ⟨rfl, hb⟩
                       have HS0_ := hT hb hHeld.1
                       have HS1_ := hT hb hHeld.2.1
                       have HS2_ := hT hb hHeld.2.2.1
                       have HS3_ := hT hb hHeld.2.2.2.1
                       have HS4_ := hT hb hHeld.2.2.2.2.1
                       have HS5_ := hT hb hHeld.2.2.2.2.2.1
                       have HS6_ := hT hb hHeld.2.2.2.2.2.2.1
                       have HS7_ := hT hb hHeld.2.2.2.2.2.2.2
                       refine ⟨_, rfl, ?_⟩
                       replace HO_8 := Aside0.mk (Kd.R_below (rU HO_8.out) hb)
                       replace HB := bH (lU) hb
                       (try clear hb)
                       (try clear hb2)
                       (try clear hk)
                       (try clear hi)
                       refine hK.out _ _ ⟨HS0_, HS1_, HS2_, HS3_, HS4_, HS5_, HS6_, HS7_⟩ (fun hHeld => ?_)
                       clear hK K
                       refine norm_ (a' := ?_) ?_ ?_
                       rotate_left
                       ·show Act.put _ (some 50) _ = _
                        simp only [Act.put, List.setIfInBounds_toArray, List.set_cons_zero, List.set_cons_succ, i64_w, i32_w]
                        rfl
                       refine pureA 11 39 (bz 18 4095) rfl rfl (any_of HT_.out (by kernel_rfl)) ?_
                       refine pureA 12 51 (bz 18 8191) rfl rfl (any_of HT_.out (by kernel_rfl)) ?_
                       refine pureA 13 52 (bz 18 16383) rfl rfl (any_of HT_.out (by kernel_rfl)) ?_
                       exact norm_ nE (hJ10 () _ ⟨hHeld, (rU HO_8.out), (lU)⟩)
                      ·skip
                       refine box_step ?hg (N := 10) ?hd (cs := #[.int .i64 0, .int .i64 0, .int .i64 0, .int .i64 0]) (t := 33) ?hr ?_; (case hd => rfl); (case hg => rfl); (case hr => exact sE)
                       intro gb309 hg w77 hbox hb
                       have HS0_ := hT hb hHeld.1
                       have HS1_ := hT hb hHeld.2.1
                       have HS2_ := hT hb hHeld.2.2.1
                       have HS3_ := hT hb hHeld.2.2.2.1
                       have HS4_ := hT hb hHeld.2.2.2.2.1
                       have HS5_ := hT hb hHeld.2.2.2.2.2.1
                       have HS6_ := hT hb hHeld.2.2.2.2.2.2.1
                       have HS7_ := hT hb hHeld.2.2.2.2.2.2.2
                       replace HO_8 := Aside0.mk (Kd.R_below (Kd.R_elderB (rU HO_8.out) gb309 (Nat.le_of_eq hg.symm)) hb)
                       have BK309 := Aside0.mk hbox
                       have GW309 := gS w hg (lU)
                       have GE309 := gS w hg (lU)
                       replace HB := bH (lU) hb
                       clear hb hbox hg
                       refine hK.out _ _ ⟨HS0_, HS1_, HS2_, HS3_, HS4_, HS5_, HS6_, HS7_⟩ (fun hHeld => ?_)
                       clear hK K
                       refine norm_ (a' := ?_) ?_ ?_
                       rotate_left
                       ·show Act.put _ (some 10) _ = _
                        simp only [Act.put, List.setIfInBounds_toArray, List.set_cons_zero, List.set_cons_succ, i64_w, i32_w]
                        rfl
                       exact norm_ nE (hJ14 (gb309) _ ⟨hHeld, (by (with_reducible repeat (first | apply Kd.R_alloc | apply Kd.R_drewN | apply Kd.R_drew)); exact Kd.R_mono HO_8.out (fun _ hk => hk.2)), (bV BK309), GW309.out, GE309.out, (lV1 GE309)⟩)
                      ·skip
                       refine box_step ?hg (N := 11) ?hd (cs := #[.int .i64 0, .int .i64 0, .int .i64 0, .int .i64 0]) (t := 33) ?hr ?_; (case hd => rfl); (case hg => rfl); (case hr => exact sE)
                       intro gb310 hg w77 hbox hb
                       have HS0_ := hT hb hHeld.1
                       have HS1_ := hT hb hHeld.2.1
                       have HS2_ := hT hb hHeld.2.2.1
                       have HS3_ := hT hb hHeld.2.2.2.1
                       have HS4_ := hT hb hHeld.2.2.2.2.1
                       have HS5_ := hT hb hHeld.2.2.2.2.2.1
                       have HS6_ := hT hb hHeld.2.2.2.2.2.2.1
                       have HS7_ := hT hb hHeld.2.2.2.2.2.2.2
                       replace HO_8 := Aside0.mk (Kd.R_below (Kd.R_elderB (rU HO_8.out) gb310 (Nat.le_of_eq hg.symm)) hb)
                       have BK310 := Aside0.mk hbox
                       have GW310 := gS w hg (lU)
                       have GE310 := gS w hg (lU)
                       replace HB := bH (lU) hb
                       clear hb hbox hg
                       refine hK.out _ _ ⟨HS0_, HS1_, HS2_, HS3_, HS4_, HS5_, HS6_, HS7_⟩ (fun hHeld => ?_)
                       clear hK K
                       refine norm_ (a' := ?_) ?_ ?_
                       rotate_left
                       ·show Act.put _ (some 11) _ = _
                        simp only [Act.put, List.setIfInBounds_toArray, List.set_cons_zero, List.set_cons_succ, i64_w, i32_w]
                        rfl
                       exact norm_ nE (hJ15 (gb310) _ ⟨hHeld, (by (with_reducible repeat (first | apply Kd.R_alloc | apply Kd.R_drewN | apply Kd.R_drew)); exact Kd.R_mono HO_8.out (fun _ hk => hk.2)), (bV BK310), GW310.out, GE310.out, (lV1 GE310)⟩)
                     ·skip
                      rintro gb310 w78 ⟨hS_, h0_, h1_, h2_, h3_, h4_⟩
                      replace HO_8 : Aside0 (Kd.R k33 33 w78 w.heap.size (fun k_ => k_ ≠ gb310) (.slice (some ad299) x8_3.length co75) x8_3) := ⟨h0_⟩
                      have BK310 : Aside0 (w78.heap[gb310]? = some (.cells #[.int .i64 0, .int .i64 0, .int .i64 0, .int .i64 0] 33 (0, 0))) := ⟨h1_⟩
                      have GW310 : Aside0 (w.heap.size ≤ gb310) := ⟨h2_⟩
                      have GE310 : Aside0 (w.heap.size ≤ gb310) := ⟨h3_⟩
                      replace HB : Aside0 (Below w.heap.size w w78) := ⟨h4_⟩
                      clear h0_ h1_ h2_ h3_ h4_
                      have hHeld : w78.cell? (ad299.add ((x9_3).toNat * 4)) = some (.int .i64 ((rd_T33 x8_3 x9_3).f0)) ∧ w78.cell? ⟨(ad299.add ((x9_3).toNat * 4)).block, (ad299.add ((x9_3).toNat * 4)).off + 1, none⟩ = some (.int .i64 ((rd_T33 x8_3 x9_3).f1)) ∧ w78.cell? ⟨(ad299.add ((x9_3).toNat * 4)).block, (ad299.add ((x9_3).toNat * 4)).off + 2, none⟩ = some (.int .i64 ((rd_T33 x8_3 x9_3).f2)) ∧ w78.cell? ⟨(ad299.add ((x9_3).toNat * 4)).block, (ad299.add ((x9_3).toNat * 4)).off + 3, none⟩ = some (.int .i64 ((rd_T33 x8_3 x9_3).f3)) ∧ w78.cell? (ad299.add (((ji22)).toNat * 4)) = some (.int .i64 ((rd_T33 x8_3 (ji22)).f0)) ∧ w78.cell? ⟨(ad299.add (((ji22)).toNat * 4)).block, (ad299.add (((ji22)).toNat * 4)).off + 1, none⟩ = some (.int .i64 ((rd_T33 x8_3 (ji22)).f1)) ∧ w78.cell? ⟨(ad299.add (((ji22)).toNat * 4)).block, (ad299.add (((ji22)).toNat * 4)).off + 2, none⟩ = some (.int .i64 ((rd_T33 x8_3 (ji22)).f2)) ∧ w78.cell? ⟨(ad299.add (((ji22)).toNat * 4)).block, (ad299.add (((ji22)).toNat * 4)).off + 3, none⟩ = some (.int .i64 ((rd_T33 x8_3 (ji22)).f3)) := hS_
                      refine norm_ (a' := ?_) ?_ ?_
                      rotate_left
                      ·simp only [putAll, Act.put, List.setIfInBounds_toArray, List.set_cons_zero, List.set_cons_succ]
                       rfl
                      refine two_ (i := 10) (j := 14) (Ni := some 50) (Nj := some 10) #[true, true, true, true, true, true, true, true, true, true, true, false, false, false, false, true, false, false] #[true, true, true, true, true, true, true, true, true, true, false, false, false, false, true, true, false, false] rfl rfl rfl rfl (two_of HT_.out (by kernel_rfl)) (by decide) (by decide) (fun K hK => ?_) (fun K hK => ?_)
                      ·skip
                       refine goes_ Try.func35 (by kernel_rfl) rfl #[.agg #[.int .i64 ((rd_T33 x8_3 x9_3).f0), .int .i64 ((rd_T33 x8_3 x9_3).f1), .int .i64 ((rd_T33 x8_3 x9_3).f2), .int .i64 ((rd_T33 x8_3 x9_3).f3)], .agg #[.int .i64 ((rd_T33 x8_3 (ji22)).f0), .int .i64 ((rd_T33 x8_3 (ji22)).f1), .int .i64 ((rd_T33 x8_3 (ji22)).f2), .int .i64 ((rd_T33 x8_3 (ji22)).f3)], .int .i64 a1] (by rfl) rfl rfl (by (try simp only [List.map_toArray, List.map_cons, List.map_nil]); first | done | (simp only [hji22]; rfl) | rfl | (simp only [List.length_drop, List.length_take]; rfl)) ?_
                       with_reducible refine (spec_l10Pair.calls k3 ((rd_T33 x8_3 x9_3).f0) ((rd_T33 x8_3 x9_3).f1) ((rd_T33 x8_3 x9_3).f2) ((rd_T33 x8_3 x9_3).f3) ((rd_T33 x8_3 (ji22)).f0) ((rd_T33 x8_3 (ji22)).f1) ((rd_T33 x8_3 (ji22)).f2) ((rd_T33 x8_3 (ji22)).f3) a1 t301 t302 t303 t304 t305 t306 t307 t308 _ A24.out).mono ?_
                       rintro e w79 ⟨rfl, hb⟩
                       have HS0_ := hT hb hHeld.1
                       have HS1_ := hT hb hHeld.2.1
                       have HS2_ := hT hb hHeld.2.2.1
                       have HS3_ := hT hb hHeld.2.2.2.1
                       have HS4_ := hT hb hHeld.2.2.2.2.1
                       have HS5_ := hT hb hHeld.2.2.2.2.2.1
                       have HS6_ := hT hb hHeld.2.2.2.2.2.2.1
                       have HS7_ := hT hb hHeld.2.2.2.2.2.2.2
                       refine ⟨_, rfl, ?_⟩
                       replace HO_8 := Aside0.mk (Kd.R_below (rU HO_8.out) hb)
                       replace BK310 := bB (bV BK310) hb
                       replace HB := bH (lV1 GE310) hb
                       (try clear hb)
                       (try clear hb2)
                       (try clear hk)
                       (try clear hi)
                       refine hK.out _ _ ⟨HS0_, HS1_, HS2_, HS3_, HS4_, HS5_, HS6_, HS7_⟩ (fun hHeld => ?_)
                       clear hK K
                       refine norm_ (a' := ?_) ?_ ?_
                       rotate_left
                       ·show Act.put _ (some 50) _ = _
                        simp only [Act.put, List.setIfInBounds_toArray, List.set_cons_zero, List.set_cons_succ, i64_w, i32_w]
                        rfl
                       refine pureA 11 39 (bz 18 36863) rfl rfl (any_of HT_.out (by kernel_rfl)) ?_
                       refine pureA 12 51 (bz 18 40959) rfl rfl (any_of HT_.out (by kernel_rfl)) ?_
                       refine pureA 13 52 (bz 18 49151) rfl rfl (any_of HT_.out (by kernel_rfl)) ?_
                       exact norm_ nE (hJ10_15 (gb310) _ ⟨hHeld, (rU HO_8.out), (bV BK310), GW310.out, GE310.out, (lV1 GE310)⟩)
                      ·skip
                       refine box_step ?hg (N := 10) ?hd (cs := #[.int .i64 0, .int .i64 0, .int .i64 0, .int .i64 0]) (t := 33) ?hr ?_; (case hd => rfl); (case hg => rfl); (case hr => exact sE)
                       intro gb309 hg w79 hbox hb
                       have HS0_ := hT hb hHeld.1
                       have HS1_ := hT hb hHeld.2.1
                       have HS2_ := hT hb hHeld.2.2.1
                       have HS3_ := hT hb hHeld.2.2.2.1
                       have HS4_ := hT hb hHeld.2.2.2.2.1
                       have HS5_ := hT hb hHeld.2.2.2.2.2.1
                       have HS6_ := hT hb hHeld.2.2.2.2.2.2.1
                       have HS7_ := hT hb hHeld.2.2.2.2.2.2.2
                       replace HO_8 := Aside0.mk (Kd.R_below (Kd.R_elderB (rU HO_8.out) gb309 (Nat.le_of_eq hg.symm)) hb)
                       have BK309 := Aside0.mk hbox
                       have GW309 := gS w hg (lV1 GE310)
                       have GE309 := gS w hg (lV1 GE310)
                       replace HB := bH (lV1 GE310) hb
                       have NB310_309 := nL hg (bV BK310)
                       have NB309_310 := nG hg (bV BK310)
                       replace BK310 := bB (bV BK310) hb
                       clear hb hbox hg
                       refine hK.out _ _ ⟨HS0_, HS1_, HS2_, HS3_, HS4_, HS5_, HS6_, HS7_⟩ (fun hHeld => ?_)
                       clear hK K
                       refine norm_ (a' := ?_) ?_ ?_
                       rotate_left
                       ·show Act.put _ (some 10) _ = _
                        simp only [Act.put, List.setIfInBounds_toArray, List.set_cons_zero, List.set_cons_succ, i64_w, i32_w]
                        rfl
                       exact norm_ nE (hJ14_15 (gb309, gb310) _ ⟨hHeld, (by (with_reducible repeat (first | apply Kd.R_alloc | apply Kd.R_drewN | apply Kd.R_drew)); exact Kd.R_mono HO_8.out (fun _ hk => ⟨hk.2, hk.1⟩)), (bV BK309), (bV BK310), GW309.out, GE309.out, NB310_309.out, NB309_310.out, GW310.out, GE310.out, (lV2 GE310 GE309)⟩)
                    ·skip
                     rintro gb309 w78 ⟨hS_, h0_, h1_, h2_, h3_, h4_⟩
                     replace HO_8 : Aside0 (Kd.R k33 33 w78 w.heap.size (fun k_ => k_ ≠ gb309) (.slice (some ad299) x8_3.length co75) x8_3) := ⟨h0_⟩
                     have BK309 : Aside0 (w78.heap[gb309]? = some (.cells #[.int .i64 0, .int .i64 0, .int .i64 0, .int .i64 0] 33 (0, 0))) := ⟨h1_⟩
                     have GW309 : Aside0 (w.heap.size ≤ gb309) := ⟨h2_⟩
                     have GE309 : Aside0 (w.heap.size ≤ gb309) := ⟨h3_⟩
                     replace HB : Aside0 (Below w.heap.size w w78) := ⟨h4_⟩
                     clear h0_ h1_ h2_ h3_ h4_
                     have hHeld : w78.cell? (ad299.add ((x9_3).toNat * 4)) = some (.int .i64 ((rd_T33 x8_3 x9_3).f0)) ∧ w78.cell? ⟨(ad299.add ((x9_3).toNat * 4)).block, (ad299.add ((x9_3).toNat * 4)).off + 1, none⟩ = some (.int .i64 ((rd_T33 x8_3 x9_3).f1)) ∧ w78.cell? ⟨(ad299.add ((x9_3).toNat * 4)).block, (ad299.add ((x9_3).toNat * 4)).off + 2, none⟩ = some (.int .i64 ((rd_T33 x8_3 x9_3).f2)) ∧ w78.cell? ⟨(ad299.add ((x9_3).toNat * 4)).block, (ad299.add ((x9_3).toNat * 4)).off + 3, none⟩ = some (.int .i64 ((rd_T33 x8_3 x9_3).f3)) ∧ w78.cell? (ad299.add (((ji22)).toNat * 4)) = some (.int .i64 ((rd_T33 x8_3 (ji22)).f0)) ∧ w78.cell? ⟨(ad299.add (((ji22)).toNat * 4)).block, (ad299.add (((ji22)).toNat * 4)).off + 1, none⟩ = some (.int .i64 ((rd_T33 x8_3 (ji22)).f1)) ∧ w78.cell? ⟨(ad299.add (((ji22)).toNat * 4)).block, (ad299.add (((ji22)).toNat * 4)).off + 2, none⟩ = some (.int .i64 ((rd_T33 x8_3 (ji22)).f2)) ∧ w78.cell? ⟨(ad299.add (((ji22)).toNat * 4)).block, (ad299.add (((ji22)).toNat * 4)).off + 3, none⟩ = some (.int .i64 ((rd_T33 x8_3 (ji22)).f3)) := hS_
                     refine norm_ (a' := ?_) ?_ ?_
                     rotate_left
                     ·simp only [putAll, Act.put, List.setIfInBounds_toArray, List.set_cons_zero, List.set_cons_succ]
                      rfl
                     refine two_ (i := 10) (j := 15) (Ni := some 50) (Nj := some 11) #[true, true, true, true, true, true, true, true, true, true, true, false, false, false, true, false, false, false] #[true, true, true, true, true, true, true, true, true, true, false, false, false, false, true, true, false, false] rfl rfl rfl rfl (two_of HT_.out (by kernel_rfl)) (by decide) (by decide) (fun K hK => ?_) (fun K hK => ?_)
                     ·skip
                      refine goes_ Try.func35 (by kernel_rfl) rfl #[.agg #[.int .i64 ((rd_T33 x8_3 x9_3).f0), .int .i64 ((rd_T33 x8_3 x9_3).f1), .int .i64 ((rd_T33 x8_3 x9_3).f2), .int .i64 ((rd_T33 x8_3 x9_3).f3)], .agg #[.int .i64 ((rd_T33 x8_3 (ji22)).f0), .int .i64 ((rd_T33 x8_3 (ji22)).f1), .int .i64 ((rd_T33 x8_3 (ji22)).f2), .int .i64 ((rd_T33 x8_3 (ji22)).f3)], .int .i64 a1] (by rfl) rfl rfl (by (try simp only [List.map_toArray, List.map_cons, List.map_nil]); first | done | (simp only [hji22]; rfl) | rfl | (simp only [List.length_drop, List.length_take]; rfl)) ?_
                      with_reducible refine (spec_l10Pair.calls k3 ((rd_T33 x8_3 x9_3).f0) ((rd_T33 x8_3 x9_3).f1) ((rd_T33 x8_3 x9_3).f2) ((rd_T33 x8_3 x9_3).f3) ((rd_T33 x8_3 (ji22)).f0) ((rd_T33 x8_3 (ji22)).f1) ((rd_T33 x8_3 (ji22)).f2) ((rd_T33 x8_3 (ji22)).f3) a1 t301 t302 t303 t304 t305 t306 t307 t308 _ A24.out).mono ?_
                      rintro e w79 ⟨rfl, hb⟩
                      have HS0_ := hT hb hHeld.1
                      have HS1_ := hT hb hHeld.2.1
                      have HS2_ := hT hb hHeld.2.2.1
                      have HS3_ := hT hb hHeld.2.2.2.1
                      have HS4_ := hT hb hHeld.2.2.2.2.1
                      have HS5_ := hT hb hHeld.2.2.2.2.2.1
                      have HS6_ := hT hb hHeld.2.2.2.2.2.2.1
                      have HS7_ := hT hb hHeld.2.2.2.2.2.2.2
                      refine ⟨_, rfl, ?_⟩
                      replace HO_8 := Aside0.mk (Kd.R_below (rU HO_8.out) hb)
                      replace BK309 := bB (bV BK309) hb
                      replace HB := bH (lV1 GE309) hb
                      (try clear hb)
                      (try clear hb2)
                      (try clear hk)
                      (try clear hi)
                      refine hK.out _ _ ⟨HS0_, HS1_, HS2_, HS3_, HS4_, HS5_, HS6_, HS7_⟩ (fun hHeld => ?_)
                      clear hK K
                      refine norm_ (a' := ?_) ?_ ?_
                      rotate_left
                      ·show Act.put _ (some 50) _ = _
                       simp only [Act.put, List.setIfInBounds_toArray, List.set_cons_zero, List.set_cons_succ, i64_w, i32_w]
                       rfl
                      refine pureA 11 39 (bz 18 20479) rfl rfl (any_of HT_.out (by kernel_rfl)) ?_
                      refine pureA 12 51 (bz 18 24575) rfl rfl (any_of HT_.out (by kernel_rfl)) ?_
                      refine pureA 13 52 (bz 18 32767) rfl rfl (any_of HT_.out (by kernel_rfl)) ?_
                      exact norm_ nE (hJ10_14 (gb309) _ ⟨hHeld, (rU HO_8.out), (bV BK309), GW309.out, GE309.out, (lV1 GE309)⟩)
                     ·skip
                      refine box_step ?hg (N := 11) ?hd (cs := #[.int .i64 0, .int .i64 0, .int .i64 0, .int .i64 0]) (t := 33) ?hr ?_; (case hd => rfl); (case hg => rfl); (case hr => exact sE)
                      intro gb310 hg w79 hbox hb
                      have HS0_ := hT hb hHeld.1
                      have HS1_ := hT hb hHeld.2.1
                      have HS2_ := hT hb hHeld.2.2.1
                      have HS3_ := hT hb hHeld.2.2.2.1
                      have HS4_ := hT hb hHeld.2.2.2.2.1
                      have HS5_ := hT hb hHeld.2.2.2.2.2.1
                      have HS6_ := hT hb hHeld.2.2.2.2.2.2.1
                      have HS7_ := hT hb hHeld.2.2.2.2.2.2.2
                      replace HO_8 := Aside0.mk (Kd.R_below (Kd.R_elderB (rU HO_8.out) gb310 (Nat.le_of_eq hg.symm)) hb)
                      have BK310 := Aside0.mk hbox
                      have GW310 := gS w hg (lV1 GE309)
                      have GE310 := gS w hg (lV1 GE309)
                      replace HB := bH (lV1 GE309) hb
                      have NB309_310 := nL hg (bV BK309)
                      have NB310_309 := nG hg (bV BK309)
                      replace BK309 := bB (bV BK309) hb
                      clear hb hbox hg
                      refine hK.out _ _ ⟨HS0_, HS1_, HS2_, HS3_, HS4_, HS5_, HS6_, HS7_⟩ (fun hHeld => ?_)
                      clear hK K
                      refine norm_ (a' := ?_) ?_ ?_
                      rotate_left
                      ·show Act.put _ (some 11) _ = _
                       simp only [Act.put, List.setIfInBounds_toArray, List.set_cons_zero, List.set_cons_succ, i64_w, i32_w]
                       rfl
                      exact norm_ nE (hJ14_15 (gb309, gb310) _ ⟨hHeld, (rU HO_8.out), (bV BK309), (bV BK310), GW309.out, GE309.out, NB310_309.out, NB309_310.out, GW310.out, GE310.out, (lV2 GE309 GE310)⟩)
                   ·skip
                    rintro _ w78 ⟨hS_, h0_, h1_⟩
                    replace HO_8 : Aside0 (Kd.R k33 33 w78 w.heap.size (fun _ => True) (.slice (some ad299) x8_3.length co75) x8_3) := ⟨h0_⟩
                    replace HB : Aside0 (Below w.heap.size w w78) := ⟨h1_⟩
                    clear h0_ h1_
                    have hHeld : w78.cell? (ad299.add ((x9_3).toNat * 4)) = some (.int .i64 ((rd_T33 x8_3 x9_3).f0)) ∧ w78.cell? ⟨(ad299.add ((x9_3).toNat * 4)).block, (ad299.add ((x9_3).toNat * 4)).off + 1, none⟩ = some (.int .i64 ((rd_T33 x8_3 x9_3).f1)) ∧ w78.cell? ⟨(ad299.add ((x9_3).toNat * 4)).block, (ad299.add ((x9_3).toNat * 4)).off + 2, none⟩ = some (.int .i64 ((rd_T33 x8_3 x9_3).f2)) ∧ w78.cell? ⟨(ad299.add ((x9_3).toNat * 4)).block, (ad299.add ((x9_3).toNat * 4)).off + 3, none⟩ = some (.int .i64 ((rd_T33 x8_3 x9_3).f3)) ∧ w78.cell? (ad299.add (((ji22)).toNat * 4)) = some (.int .i64 ((rd_T33 x8_3 (ji22)).f0)) ∧ w78.cell? ⟨(ad299.add (((ji22)).toNat * 4)).block, (ad299.add (((ji22)).toNat * 4)).off + 1, none⟩ = some (.int .i64 ((rd_T33 x8_3 (ji22)).f1)) ∧ w78.cell? ⟨(ad299.add (((ji22)).toNat * 4)).block, (ad299.add (((ji22)).toNat * 4)).off + 2, none⟩ = some (.int .i64 ((rd_T33 x8_3 (ji22)).f2)) ∧ w78.cell? ⟨(ad299.add (((ji22)).toNat * 4)).block, (ad299.add (((ji22)).toNat * 4)).off + 3, none⟩ = some (.int .i64 ((rd_T33 x8_3 (ji22)).f3)) := hS_
                    refine norm_ (a' := ?_) ?_ ?_
                    rotate_left
                    ·simp only [putAll, Act.put, List.setIfInBounds_toArray, List.set_cons_zero, List.set_cons_succ]
                     rfl
                    refine two_ (i := 14) (j := 15) (Ni := some 10) (Nj := some 11) #[true, true, true, true, true, true, true, true, true, true, true, true, true, true, true, false, false, false] #[true, true, true, true, true, true, true, true, true, true, true, true, true, true, false, true, false, false] rfl rfl rfl rfl (two_of HT_.out (by kernel_rfl)) (by decide) (by decide) (fun K hK => ?_) (fun K hK => ?_)
                    ·skip
                     refine box_step ?hg (N := 10) ?hd (cs := #[.int .i64 0, .int .i64 0, .int .i64 0, .int .i64 0]) (t := 33) ?hr ?_; (case hd => rfl); (case hg => rfl); (case hr => exact sE)
                     intro gb309 hg w79 hbox hb
                     have HS0_ := hT hb hHeld.1
                     have HS1_ := hT hb hHeld.2.1
                     have HS2_ := hT hb hHeld.2.2.1
                     have HS3_ := hT hb hHeld.2.2.2.1
                     have HS4_ := hT hb hHeld.2.2.2.2.1
                     have HS5_ := hT hb hHeld.2.2.2.2.2.1
                     have HS6_ := hT hb hHeld.2.2.2.2.2.2.1
                     have HS7_ := hT hb hHeld.2.2.2.2.2.2.2
                     replace HO_8 := Aside0.mk (Kd.R_below (Kd.R_elderB (rU HO_8.out) gb309 (Nat.le_of_eq hg.symm)) hb)
                     have BK309 := Aside0.mk hbox
                     have GW309 := gS w hg (lU)
                     have GE309 := gS w hg (lU)
                     replace HB := bH (lU) hb
                     clear hb hbox hg
                     refine hK.out _ _ ⟨HS0_, HS1_, HS2_, HS3_, HS4_, HS5_, HS6_, HS7_⟩ (fun hHeld => ?_)
                     clear hK K
                     refine norm_ (a' := ?_) ?_ ?_
                     rotate_left
                     ·show Act.put _ (some 10) _ = _
                      simp only [Act.put, List.setIfInBounds_toArray, List.set_cons_zero, List.set_cons_succ, i64_w, i32_w]
                      rfl
                     exact norm_ nE (hJ10_14 (gb309) _ ⟨hHeld, (by (with_reducible repeat (first | apply Kd.R_alloc | apply Kd.R_drewN | apply Kd.R_drew)); exact Kd.R_mono HO_8.out (fun _ hk => hk.2)), (bV BK309), GW309.out, GE309.out, (lV1 GE309)⟩)
                    ·skip
                     refine box_step ?hg (N := 11) ?hd (cs := #[.int .i64 0, .int .i64 0, .int .i64 0, .int .i64 0]) (t := 33) ?hr ?_; (case hd => rfl); (case hg => rfl); (case hr => exact sE)
                     intro gb310 hg w79 hbox hb
                     have HS0_ := hT hb hHeld.1
                     have HS1_ := hT hb hHeld.2.1
                     have HS2_ := hT hb hHeld.2.2.1
                     have HS3_ := hT hb hHeld.2.2.2.1
                     have HS4_ := hT hb hHeld.2.2.2.2.1
                     have HS5_ := hT hb hHeld.2.2.2.2.2.1
                     have HS6_ := hT hb hHeld.2.2.2.2.2.2.1
                     have HS7_ := hT hb hHeld.2.2.2.2.2.2.2
                     replace HO_8 := Aside0.mk (Kd.R_below (Kd.R_elderB (rU HO_8.out) gb310 (Nat.le_of_eq hg.symm)) hb)
                     have BK310 := Aside0.mk hbox
                     have GW310 := gS w hg (lU)
                     have GE310 := gS w hg (lU)
                     replace HB := bH (lU) hb
                     clear hb hbox hg
                     refine hK.out _ _ ⟨HS0_, HS1_, HS2_, HS3_, HS4_, HS5_, HS6_, HS7_⟩ (fun hHeld => ?_)
                     clear hK K
                     refine norm_ (a' := ?_) ?_ ?_
                     rotate_left
                     ·show Act.put _ (some 11) _ = _
                      simp only [Act.put, List.setIfInBounds_toArray, List.set_cons_zero, List.set_cons_succ, i64_w, i32_w]
                      rfl
                     exact norm_ nE (hJ10_15 (gb310) _ ⟨hHeld, (by (with_reducible repeat (first | apply Kd.R_alloc | apply Kd.R_drewN | apply Kd.R_drew)); exact Kd.R_mono HO_8.out (fun _ hk => hk.2)), (bV BK310), GW310.out, GE310.out, (lV1 GE310)⟩)
                  ·skip
                   rintro ⟨gb309, gb310⟩ w79 ⟨hS_, h0_, h1_, h2_, h3_, h4_, h5_, h6_, h7_, h8_, h9_⟩
                   replace HO_8 : Aside0 (Kd.R k33 33 w79 w.heap.size (fun k_ => k_ ≠ gb309 ∧ k_ ≠ gb310) (.slice (some ad299) x8_3.length co75) x8_3) := ⟨h0_⟩
                   have BK309 : Aside0 (w79.heap[gb309]? = some (.cells #[.int .i64 0, .int .i64 0, .int .i64 0, .int .i64 0] 33 (0, 0))) := ⟨h1_⟩
                   have BK310 : Aside0 (w79.heap[gb310]? = some (.cells #[.int .i64 0, .int .i64 0, .int .i64 0, .int .i64 0] 33 (0, 0))) := ⟨h2_⟩
                   have GW309 : Aside0 (w.heap.size ≤ gb309) := ⟨h3_⟩
                   have GE309 : Aside0 (w.heap.size ≤ gb309) := ⟨h4_⟩
                   have NB310_309 : Aside0 (gb310 ≠ gb309) := ⟨h5_⟩
                   have NB309_310 : Aside0 (gb309 ≠ gb310) := ⟨h6_⟩
                   have GW310 : Aside0 (w.heap.size ≤ gb310) := ⟨h7_⟩
                   have GE310 : Aside0 (w.heap.size ≤ gb310) := ⟨h8_⟩
                   replace HB : Aside0 (Below w.heap.size w w79) := ⟨h9_⟩
                   clear h0_ h1_ h2_ h3_ h4_ h5_ h6_ h7_ h8_ h9_
                   have hHeld : w79.cell? (ad299.add ((x9_3).toNat * 4)) = some (.int .i64 ((rd_T33 x8_3 x9_3).f0)) ∧ w79.cell? ⟨(ad299.add ((x9_3).toNat * 4)).block, (ad299.add ((x9_3).toNat * 4)).off + 1, none⟩ = some (.int .i64 ((rd_T33 x8_3 x9_3).f1)) ∧ w79.cell? ⟨(ad299.add ((x9_3).toNat * 4)).block, (ad299.add ((x9_3).toNat * 4)).off + 2, none⟩ = some (.int .i64 ((rd_T33 x8_3 x9_3).f2)) ∧ w79.cell? ⟨(ad299.add ((x9_3).toNat * 4)).block, (ad299.add ((x9_3).toNat * 4)).off + 3, none⟩ = some (.int .i64 ((rd_T33 x8_3 x9_3).f3)) ∧ w79.cell? (ad299.add (((ji22)).toNat * 4)) = some (.int .i64 ((rd_T33 x8_3 (ji22)).f0)) ∧ w79.cell? ⟨(ad299.add (((ji22)).toNat * 4)).block, (ad299.add (((ji22)).toNat * 4)).off + 1, none⟩ = some (.int .i64 ((rd_T33 x8_3 (ji22)).f1)) ∧ w79.cell? ⟨(ad299.add (((ji22)).toNat * 4)).block, (ad299.add (((ji22)).toNat * 4)).off + 2, none⟩ = some (.int .i64 ((rd_T33 x8_3 (ji22)).f2)) ∧ w79.cell? ⟨(ad299.add (((ji22)).toNat * 4)).block, (ad299.add (((ji22)).toNat * 4)).off + 3, none⟩ = some (.int .i64 ((rd_T33 x8_3 (ji22)).f3)) := hS_
                   refine norm_ (a' := ?_) ?_ ?_
                   rotate_left
                   ·simp only [putAll, Act.put, List.setIfInBounds_toArray, List.set_cons_zero, List.set_cons_succ]
                    rfl
                   refine one_ (i := 10) (N := some 50) (bz 18 51199) rfl rfl (one_of HT_.out (by kernel_rfl)) (by decide) (fun K hK => ?_)
                   refine goes_ Try.func35 (by kernel_rfl) rfl #[.agg #[.int .i64 ((rd_T33 x8_3 x9_3).f0), .int .i64 ((rd_T33 x8_3 x9_3).f1), .int .i64 ((rd_T33 x8_3 x9_3).f2), .int .i64 ((rd_T33 x8_3 x9_3).f3)], .agg #[.int .i64 ((rd_T33 x8_3 (ji22)).f0), .int .i64 ((rd_T33 x8_3 (ji22)).f1), .int .i64 ((rd_T33 x8_3 (ji22)).f2), .int .i64 ((rd_T33 x8_3 (ji22)).f3)], .int .i64 a1] (by rfl) rfl rfl (by (try simp only [List.map_toArray, List.map_cons, List.map_nil]); first | done | (simp only [hji22]; rfl) | rfl | (simp only [List.length_drop, List.length_take]; rfl)) ?_
                   with_reducible refine (spec_l10Pair.calls k3 ((rd_T33 x8_3 x9_3).f0) ((rd_T33 x8_3 x9_3).f1) ((rd_T33 x8_3 x9_3).f2) ((rd_T33 x8_3 x9_3).f3) ((rd_T33 x8_3 (ji22)).f0) ((rd_T33 x8_3 (ji22)).f1) ((rd_T33 x8_3 (ji22)).f2) ((rd_T33 x8_3 (ji22)).f3) a1 t301 t302 t303 t304 t305 t306 t307 t308 _ A24.out).mono ?_
                   rintro e w80 ⟨rfl, hb⟩
                   have HS0_ := hT hb hHeld.1
                   have HS1_ := hT hb hHeld.2.1
                   have HS2_ := hT hb hHeld.2.2.1
                   have HS3_ := hT hb hHeld.2.2.2.1
                   have HS4_ := hT hb hHeld.2.2.2.2.1
                   have HS5_ := hT hb hHeld.2.2.2.2.2.1
                   have HS6_ := hT hb hHeld.2.2.2.2.2.2.1
                   have HS7_ := hT hb hHeld.2.2.2.2.2.2.2
                   refine ⟨_, rfl, ?_⟩
                   replace HO_8 := Aside0.mk (Kd.R_below (rU HO_8.out) hb)
                   replace BK309 := bB (bV BK309) hb
                   replace BK310 := bB (bV BK310) hb
                   replace HB := bH (lV2 GE309 GE310) hb
                   (try clear hb)
                   (try clear hb2)
                   (try clear hk)
                   (try clear hi)
                   refine hK.out _ _ ⟨HS0_, HS1_, HS2_, HS3_, HS4_, HS5_, HS6_, HS7_⟩ (fun hHeld => ?_)
                   clear hK K
                   refine norm_ (a' := ?_) ?_ ?_
                   rotate_left
                   ·show Act.put _ (some 50) _ = _
                    simp only [Act.put, List.setIfInBounds_toArray, List.set_cons_zero, List.set_cons_succ, i64_w, i32_w]
                    rfl
                   refine pureA 11 39 (bz 18 53247) rfl rfl (any_of HT_.out (by kernel_rfl)) ?_
                   refine pureA 12 51 (bz 18 57343) rfl rfl (any_of HT_.out (by kernel_rfl)) ?_
                   refine pureA 13 52 (bz 18 65535) rfl rfl (any_of HT_.out (by kernel_rfl)) ?_
                   exact norm_ nE (hJ10_14_15 (gb309, gb310) _ ⟨hHeld, (rU HO_8.out), (bV BK309), (bV BK310), GW309.out, GE309.out, NB310_309.out, NB309_310.out, GW310.out, GE310.out, (lV2 GE309 GE310)⟩)
                 ·skip
                  rintro gb310 w79 ⟨hS_, h0_, h1_, h2_, h3_, h4_⟩
                  replace HO_8 : Aside0 (Kd.R k33 33 w79 w.heap.size (fun k_ => k_ ≠ gb310) (.slice (some ad299) x8_3.length co75) x8_3) := ⟨h0_⟩
                  have BK310 : Aside0 (w79.heap[gb310]? = some (.cells #[.int .i64 0, .int .i64 0, .int .i64 0, .int .i64 0] 33 (0, 0))) := ⟨h1_⟩
                  have GW310 : Aside0 (w.heap.size ≤ gb310) := ⟨h2_⟩
                  have GE310 : Aside0 (w.heap.size ≤ gb310) := ⟨h3_⟩
                  replace HB : Aside0 (Below w.heap.size w w79) := ⟨h4_⟩
                  clear h0_ h1_ h2_ h3_ h4_
                  have hHeld : w79.cell? (ad299.add ((x9_3).toNat * 4)) = some (.int .i64 ((rd_T33 x8_3 x9_3).f0)) ∧ w79.cell? ⟨(ad299.add ((x9_3).toNat * 4)).block, (ad299.add ((x9_3).toNat * 4)).off + 1, none⟩ = some (.int .i64 ((rd_T33 x8_3 x9_3).f1)) ∧ w79.cell? ⟨(ad299.add ((x9_3).toNat * 4)).block, (ad299.add ((x9_3).toNat * 4)).off + 2, none⟩ = some (.int .i64 ((rd_T33 x8_3 x9_3).f2)) ∧ w79.cell? ⟨(ad299.add ((x9_3).toNat * 4)).block, (ad299.add ((x9_3).toNat * 4)).off + 3, none⟩ = some (.int .i64 ((rd_T33 x8_3 x9_3).f3)) ∧ w79.cell? (ad299.add (((ji22)).toNat * 4)) = some (.int .i64 ((rd_T33 x8_3 (ji22)).f0)) ∧ w79.cell? ⟨(ad299.add (((ji22)).toNat * 4)).block, (ad299.add (((ji22)).toNat * 4)).off + 1, none⟩ = some (.int .i64 ((rd_T33 x8_3 (ji22)).f1)) ∧ w79.cell? ⟨(ad299.add (((ji22)).toNat * 4)).block, (ad299.add (((ji22)).toNat * 4)).off + 2, none⟩ = some (.int .i64 ((rd_T33 x8_3 (ji22)).f2)) ∧ w79.cell? ⟨(ad299.add (((ji22)).toNat * 4)).block, (ad299.add (((ji22)).toNat * 4)).off + 3, none⟩ = some (.int .i64 ((rd_T33 x8_3 (ji22)).f3)) := hS_
                  refine norm_ (a' := ?_) ?_ ?_
                  rotate_left
                  ·simp only [putAll, Act.put, List.setIfInBounds_toArray, List.set_cons_zero, List.set_cons_succ]
                   rfl
                  refine one_ (i := 14) (N := some 10) (bz 18 65535) rfl rfl (one_of HT_.out (by kernel_rfl)) (by decide) (fun K hK => ?_)
                  refine box_step ?hg (N := 10) ?hd (cs := #[.int .i64 0, .int .i64 0, .int .i64 0, .int .i64 0]) (t := 33) ?hr ?_; (case hd => rfl); (case hg => rfl); (case hr => exact sE)
                  intro gb309 hg w80 hbox hb
                  have HS0_ := hT hb hHeld.1
                  have HS1_ := hT hb hHeld.2.1
                  have HS2_ := hT hb hHeld.2.2.1
                  have HS3_ := hT hb hHeld.2.2.2.1
                  have HS4_ := hT hb hHeld.2.2.2.2.1
                  have HS5_ := hT hb hHeld.2.2.2.2.2.1
                  have HS6_ := hT hb hHeld.2.2.2.2.2.2.1
                  have HS7_ := hT hb hHeld.2.2.2.2.2.2.2
                  replace HO_8 := Aside0.mk (Kd.R_below (Kd.R_elderB (rU HO_8.out) gb309 (Nat.le_of_eq hg.symm)) hb)
                  have BK309 := Aside0.mk hbox
                  have GW309 := gS w hg (lV1 GE310)
                  have GE309 := gS w hg (lV1 GE310)
                  replace HB := bH (lV1 GE310) hb
                  have NB310_309 := nL hg (bV BK310)
                  have NB309_310 := nG hg (bV BK310)
                  replace BK310 := bB (bV BK310) hb
                  clear hb hbox hg
                  refine hK.out _ _ ⟨HS0_, HS1_, HS2_, HS3_, HS4_, HS5_, HS6_, HS7_⟩ (fun hHeld => ?_)
                  clear hK K
                  refine norm_ (a' := ?_) ?_ ?_
                  rotate_left
                  ·show Act.put _ (some 10) _ = _
                   simp only [Act.put, List.setIfInBounds_toArray, List.set_cons_zero, List.set_cons_succ, i64_w, i32_w]
                   rfl
                  exact norm_ nE (hJ10_14_15 (gb309, gb310) _ ⟨hHeld, (by (with_reducible repeat (first | apply Kd.R_alloc | apply Kd.R_drewN | apply Kd.R_drew)); exact Kd.R_mono HO_8.out (fun _ hk => ⟨hk.2, hk.1⟩)), (bV BK309), (bV BK310), GW309.out, GE309.out, NB310_309.out, NB309_310.out, GW310.out, GE310.out, (lV2 GE310 GE309)⟩)
                ·skip
                 rintro gb309 w79 ⟨hS_, h0_, h1_, h2_, h3_, h4_⟩
                 replace HO_8 : Aside0 (Kd.R k33 33 w79 w.heap.size (fun k_ => k_ ≠ gb309) (.slice (some ad299) x8_3.length co75) x8_3) := ⟨h0_⟩
                 have BK309 : Aside0 (w79.heap[gb309]? = some (.cells #[.int .i64 0, .int .i64 0, .int .i64 0, .int .i64 0] 33 (0, 0))) := ⟨h1_⟩
                 have GW309 : Aside0 (w.heap.size ≤ gb309) := ⟨h2_⟩
                 have GE309 : Aside0 (w.heap.size ≤ gb309) := ⟨h3_⟩
                 replace HB : Aside0 (Below w.heap.size w w79) := ⟨h4_⟩
                 clear h0_ h1_ h2_ h3_ h4_
                 have hHeld : w79.cell? (ad299.add ((x9_3).toNat * 4)) = some (.int .i64 ((rd_T33 x8_3 x9_3).f0)) ∧ w79.cell? ⟨(ad299.add ((x9_3).toNat * 4)).block, (ad299.add ((x9_3).toNat * 4)).off + 1, none⟩ = some (.int .i64 ((rd_T33 x8_3 x9_3).f1)) ∧ w79.cell? ⟨(ad299.add ((x9_3).toNat * 4)).block, (ad299.add ((x9_3).toNat * 4)).off + 2, none⟩ = some (.int .i64 ((rd_T33 x8_3 x9_3).f2)) ∧ w79.cell? ⟨(ad299.add ((x9_3).toNat * 4)).block, (ad299.add ((x9_3).toNat * 4)).off + 3, none⟩ = some (.int .i64 ((rd_T33 x8_3 x9_3).f3)) ∧ w79.cell? (ad299.add (((ji22)).toNat * 4)) = some (.int .i64 ((rd_T33 x8_3 (ji22)).f0)) ∧ w79.cell? ⟨(ad299.add (((ji22)).toNat * 4)).block, (ad299.add (((ji22)).toNat * 4)).off + 1, none⟩ = some (.int .i64 ((rd_T33 x8_3 (ji22)).f1)) ∧ w79.cell? ⟨(ad299.add (((ji22)).toNat * 4)).block, (ad299.add (((ji22)).toNat * 4)).off + 2, none⟩ = some (.int .i64 ((rd_T33 x8_3 (ji22)).f2)) ∧ w79.cell? ⟨(ad299.add (((ji22)).toNat * 4)).block, (ad299.add (((ji22)).toNat * 4)).off + 3, none⟩ = some (.int .i64 ((rd_T33 x8_3 (ji22)).f3)) := hS_
                 refine norm_ (a' := ?_) ?_ ?_
                 rotate_left
                 ·simp only [putAll, Act.put, List.setIfInBounds_toArray, List.set_cons_zero, List.set_cons_succ]
                  rfl
                 refine one_ (i := 15) (N := some 11) (bz 18 65535) rfl rfl (one_of HT_.out (by kernel_rfl)) (by decide) (fun K hK => ?_)
                 refine box_step ?hg (N := 11) ?hd (cs := #[.int .i64 0, .int .i64 0, .int .i64 0, .int .i64 0]) (t := 33) ?hr ?_; (case hd => rfl); (case hg => rfl); (case hr => exact sE)
                 intro gb310 hg w80 hbox hb
                 have HS0_ := hT hb hHeld.1
                 have HS1_ := hT hb hHeld.2.1
                 have HS2_ := hT hb hHeld.2.2.1
                 have HS3_ := hT hb hHeld.2.2.2.1
                 have HS4_ := hT hb hHeld.2.2.2.2.1
                 have HS5_ := hT hb hHeld.2.2.2.2.2.1
                 have HS6_ := hT hb hHeld.2.2.2.2.2.2.1
                 have HS7_ := hT hb hHeld.2.2.2.2.2.2.2
                 replace HO_8 := Aside0.mk (Kd.R_below (Kd.R_elderB (rU HO_8.out) gb310 (Nat.le_of_eq hg.symm)) hb)
                 have BK310 := Aside0.mk hbox
                 have GW310 := gS w hg (lV1 GE309)
                 have GE310 := gS w hg (lV1 GE309)
                 replace HB := bH (lV1 GE309) hb
                 have NB309_310 := nL hg (bV BK309)
                 have NB310_309 := nG hg (bV BK309)
                 replace BK309 := bB (bV BK309) hb
                 clear hb hbox hg
                 refine hK.out _ _ ⟨HS0_, HS1_, HS2_, HS3_, HS4_, HS5_, HS6_, HS7_⟩ (fun hHeld => ?_)
                 clear hK K
                 refine norm_ (a' := ?_) ?_ ?_
                 rotate_left
                 ·show Act.put _ (some 11) _ = _
                  simp only [Act.put, List.setIfInBounds_toArray, List.set_cons_zero, List.set_cons_succ, i64_w, i32_w]
                  rfl
                 exact norm_ nE (hJ10_14_15 (gb309, gb310) _ ⟨hHeld, (rU HO_8.out), (bV BK309), (bV BK310), GW309.out, GE309.out, NB310_309.out, NB309_310.out, GW310.out, GE310.out, (lV2 GE309 GE310)⟩)
               rintro ⟨gb309, gb310⟩ w80 ⟨hS_, h0_, h1_, h2_, h3_, h4_, h5_, h6_, h7_, h8_, h9_⟩
               replace HO_8 : Aside0 (Kd.R k33 33 w80 w.heap.size (fun k_ => k_ ≠ gb309 ∧ k_ ≠ gb310) (.slice (some ad299) x8_3.length co75) x8_3) := ⟨h0_⟩
               have BK309 : Aside0 (w80.heap[gb309]? = some (.cells #[.int .i64 0, .int .i64 0, .int .i64 0, .int .i64 0] 33 (0, 0))) := ⟨h1_⟩
               have BK310 : Aside0 (w80.heap[gb310]? = some (.cells #[.int .i64 0, .int .i64 0, .int .i64 0, .int .i64 0] 33 (0, 0))) := ⟨h2_⟩
               have GW309 : Aside0 (w.heap.size ≤ gb309) := ⟨h3_⟩
               have GE309 : Aside0 (w.heap.size ≤ gb309) := ⟨h4_⟩
               have NB310_309 : Aside0 (gb310 ≠ gb309) := ⟨h5_⟩
               have NB309_310 : Aside0 (gb309 ≠ gb310) := ⟨h6_⟩
               have GW310 : Aside0 (w.heap.size ≤ gb310) := ⟨h7_⟩
               have GE310 : Aside0 (w.heap.size ≤ gb310) := ⟨h8_⟩
               replace HB : Aside0 (Below w.heap.size w w80) := ⟨h9_⟩
               clear h0_ h1_ h2_ h3_ h4_ h5_ h6_ h7_ h8_ h9_
               have hHeld : w80.cell? (ad299.add ((x9_3).toNat * 4)) = some (.int .i64 ((rd_T33 x8_3 x9_3).f0)) ∧ w80.cell? ⟨(ad299.add ((x9_3).toNat * 4)).block, (ad299.add ((x9_3).toNat * 4)).off + 1, none⟩ = some (.int .i64 ((rd_T33 x8_3 x9_3).f1)) ∧ w80.cell? ⟨(ad299.add ((x9_3).toNat * 4)).block, (ad299.add ((x9_3).toNat * 4)).off + 2, none⟩ = some (.int .i64 ((rd_T33 x8_3 x9_3).f2)) ∧ w80.cell? ⟨(ad299.add ((x9_3).toNat * 4)).block, (ad299.add ((x9_3).toNat * 4)).off + 3, none⟩ = some (.int .i64 ((rd_T33 x8_3 x9_3).f3)) ∧ w80.cell? (ad299.add (((ji22)).toNat * 4)) = some (.int .i64 ((rd_T33 x8_3 (ji22)).f0)) ∧ w80.cell? ⟨(ad299.add (((ji22)).toNat * 4)).block, (ad299.add (((ji22)).toNat * 4)).off + 1, none⟩ = some (.int .i64 ((rd_T33 x8_3 (ji22)).f1)) ∧ w80.cell? ⟨(ad299.add (((ji22)).toNat * 4)).block, (ad299.add (((ji22)).toNat * 4)).off + 2, none⟩ = some (.int .i64 ((rd_T33 x8_3 (ji22)).f2)) ∧ w80.cell? ⟨(ad299.add (((ji22)).toNat * 4)).block, (ad299.add (((ji22)).toNat * 4)).off + 3, none⟩ = some (.int .i64 ((rd_T33 x8_3 (ji22)).f3)) := hS_
               refine norm_ (a' := ?_) ?_ ?_
               rotate_left
               ·simp only [putAll, Act.put, List.setIfInBounds_toArray, List.set_cons_zero, List.set_cons_succ]
                rfl
               refine one_ (i := 16) (N := none) (bz 18 131071) rfl rfl (one_of HT_.out (by kernel_rfl)) (by decide) (fun K hK => ?_)
               have hs81 : w80.cell? ⟨gb309, 0, none⟩ = some (.int .i64 0) := (blk_cell BK309.out 0).trans rfl
               have hfs81 := blk_frozen BK309.out 0
               have hns81_1 := NB310_309.out
               have hms81_1 := NB309_310.out
               have hs82 : w80.cell? ⟨gb309, 1, none⟩ = some (.int .i64 0) := (blk_cell BK309.out 1).trans rfl
               have hfs82 := blk_frozen BK309.out 1
               have hns82_1 := NB310_309.out
               have hms82_1 := NB309_310.out
               have hs83 : w80.cell? ⟨gb309, 2, none⟩ = some (.int .i64 0) := (blk_cell BK309.out 2).trans rfl
               have hfs83 := blk_frozen BK309.out 2
               have hns83_1 := NB310_309.out
               have hms83_1 := NB309_310.out
               have hs84 : w80.cell? ⟨gb309, 3, none⟩ = some (.int .i64 0) := (blk_cell BK309.out 3).trans rfl
               have hfs84 := blk_frozen BK309.out 3
               have hns84_1 := NB310_309.out
               have hms84_1 := NB309_310.out
               refine skip_ (w1 := ?_) (by rfl) rfl ?_ ?_
               rotate_left
               ·go_simp
                rfl
               refine hK.out _ _ ⟨(cf4 (Kd.own_blk (Kd.R_away HO_8.out (fun _ hk => hk.1))) hHeld.1), (cf4 (Kd.own_blk (Kd.R_away HO_8.out (fun _ hk => hk.1))) hHeld.2.1), (cf4 (Kd.own_blk (Kd.R_away HO_8.out (fun _ hk => hk.1))) hHeld.2.2.1), (cf4 (Kd.own_blk (Kd.R_away HO_8.out (fun _ hk => hk.1))) hHeld.2.2.2.1), (cf4 (Kd.own_blk (Kd.R_away HO_8.out (fun _ hk => hk.1))) hHeld.2.2.2.2.1), (cf4 (Kd.own_blk (Kd.R_away HO_8.out (fun _ hk => hk.1))) hHeld.2.2.2.2.2.1), (cf4 (Kd.own_blk (Kd.R_away HO_8.out (fun _ hk => hk.1))) hHeld.2.2.2.2.2.2.1), (cf4 (Kd.own_blk (Kd.R_away HO_8.out (fun _ hk => hk.1))) hHeld.2.2.2.2.2.2.2)⟩ (fun hHeld => ?_)
               clear hK K
               refine one_ (i := 17) (N := none) (bz 18 262143) rfl rfl (one_of HT_.out (by kernel_rfl)) (by decide) (fun K hK => ?_)
               have hs85 : w80.cell? ⟨gb310, 0, none⟩ = some (.int .i64 0) := (blk_cell BK310.out 0).trans rfl
               have hfs85 := blk_frozen BK310.out 0
               have hns85_0 := NB309_310.out
               have hms85_0 := NB310_309.out
               have hs86 : w80.cell? ⟨gb310, 1, none⟩ = some (.int .i64 0) := (blk_cell BK310.out 1).trans rfl
               have hfs86 := blk_frozen BK310.out 1
               have hns86_0 := NB309_310.out
               have hms86_0 := NB310_309.out
               have hs87 : w80.cell? ⟨gb310, 2, none⟩ = some (.int .i64 0) := (blk_cell BK310.out 2).trans rfl
               have hfs87 := blk_frozen BK310.out 2
               have hns87_0 := NB309_310.out
               have hms87_0 := NB310_309.out
               have hs88 : w80.cell? ⟨gb310, 3, none⟩ = some (.int .i64 0) := (blk_cell BK310.out 3).trans rfl
               have hfs88 := blk_frozen BK310.out 3
               have hns88_0 := NB309_310.out
               have hms88_0 := NB310_309.out
               refine skip_ (w1 := ?_) (by rfl) rfl ?_ ?_
               rotate_left
               ·go_simp
                rfl
               refine hK.out _ _ ⟨(cf4 (Kd.own_blk (Kd.R_away HO_8.out (fun _ hk => hk.2))) hHeld.1), (cf4 (Kd.own_blk (Kd.R_away HO_8.out (fun _ hk => hk.2))) hHeld.2.1), (cf4 (Kd.own_blk (Kd.R_away HO_8.out (fun _ hk => hk.2))) hHeld.2.2.1), (cf4 (Kd.own_blk (Kd.R_away HO_8.out (fun _ hk => hk.2))) hHeld.2.2.2.1), (cf4 (Kd.own_blk (Kd.R_away HO_8.out (fun _ hk => hk.2))) hHeld.2.2.2.2.1), (cf4 (Kd.own_blk (Kd.R_away HO_8.out (fun _ hk => hk.2))) hHeld.2.2.2.2.2.1), (cf4 (Kd.own_blk (Kd.R_away HO_8.out (fun _ hk => hk.2))) hHeld.2.2.2.2.2.2.1), (cf4 (Kd.own_blk (Kd.R_away HO_8.out (fun _ hk => hk.2))) hHeld.2.2.2.2.2.2.2)⟩ (fun hHeld => ?_)
               clear hK K
               refine done_ (done_of HT_.out (by kernel_rfl)) ?_
               have hnb89 := NB309_310.out
               have hnc89 := NB310_309.out
               have hcz90_0 := cz BK309 0 (.int .i64 0)
               have hcz90_1 := cz BK309 1 (.int .i64 0)
               have hcz90_2 := cz BK309 2 (.int .i64 0)
               have hcz90_3 := cz BK309 3 (.int .i64 0)
               have hfz90_0 := fz BK309 0
               have hfz90_1 := fz BK309 1
               have hfz90_2 := fz BK309 2
               have hfz90_3 := fz BK309 3
               try go_wp2_with (first | ((with_reducible refine gate_callee (f := 36) rfl ?_); refine goesL_ (some 54) rfl rfl Try.func36 (by kernel_rfl) rfl #[.agg #[.int .i64 t301, .int .i64 t302, .int .i64 t303, .int .i64 t304]] rfl aE ?_; (with_reducible refine (spec_l10Body.calls t301 t302 t303 t304 false _ A25.out).mono ?_); rintro e w91 ⟨rfl, hb⟩; refine ⟨_, rfl, ?_⟩; replace HO_8 := Aside0.mk (Kd.R_below (rU (Kd.R_mono (Kd.R_mono (Kd.R_far (p := ⟨gb310, 3, none⟩) (Kd.R_far (p := ⟨gb310, 2, none⟩) (Kd.R_far (p := ⟨gb310, 1, none⟩) (Kd.R_far (p := ⟨gb310, 0, none⟩) (Kd.R_far (p := ⟨gb309, 3, none⟩) (Kd.R_far (p := ⟨gb309, 2, none⟩) (Kd.R_far (p := ⟨gb309, 1, none⟩) (Kd.R_far (p := ⟨gb309, 0, none⟩) (Kd.R_mono (Kd.R_mono HO_8.out (fun k_ hk => (⟨hk, hk.1⟩ : _ ∧ k_ ≠ gb309))) (fun k_ hk => (⟨hk, hk.1.2⟩ : _ ∧ k_ ≠ gb310))) (fun _ hk => hk.1.2) (.int .i64 t301)) (fun _ hk => hk.1.2) (.int .i64 t302)) (fun _ hk => hk.1.2) (.int .i64 t303)) (fun _ hk => hk.1.2) (.int .i64 t304)) (fun _ hk => hk.2) (.int .i64 t305)) (fun _ hk => hk.2) (.int .i64 t306)) (fun _ hk => hk.2) (.int .i64 t307)) (fun _ hk => hk.2) (.int .i64 t308)) (fun _ h_ => h_.1)) (fun _ h_ => h_.1))) hb); replace BK309 := Aside0.mk (blk_below (g := gb309) (o := .cells #[.int .i64 t301, .int .i64 t302, .int .i64 t303, .int .i64 t304] 33 (0, 0)) (by refine bU ?_; refine blk_far ?_ NB309_310.out _; refine bU ?_; refine blk_far ?_ NB309_310.out _; refine bU ?_; refine blk_far ?_ NB309_310.out _; refine bU ?_; refine blk_far ?_ NB309_310.out _; refine bU ?_; refine blk_put (cs := #[.int .i64 t301, .int .i64 t302, .int .i64 t303, .int .i64 0]) ?_ 3 _ rfl; refine bU ?_; refine blk_put (cs := #[.int .i64 t301, .int .i64 t302, .int .i64 0, .int .i64 0]) ?_ 2 _ rfl; refine bU ?_; refine blk_put (cs := #[.int .i64 t301, .int .i64 0, .int .i64 0, .int .i64 0]) ?_ 1 _ rfl; refine bU ?_; refine blk_put (cs := #[.int .i64 0, .int .i64 0, .int .i64 0, .int .i64 0]) ?_ 0 _ rfl; refine bU ?_; exact BK309.out) hb); replace BK310 := Aside0.mk (blk_below (g := gb310) (o := .cells #[.int .i64 t305, .int .i64 t306, .int .i64 t307, .int .i64 t308] 33 (0, 0)) (by refine bU ?_; refine blk_put (cs := #[.int .i64 t305, .int .i64 t306, .int .i64 t307, .int .i64 0]) ?_ 3 _ rfl; refine bU ?_; refine blk_put (cs := #[.int .i64 t305, .int .i64 t306, .int .i64 0, .int .i64 0]) ?_ 2 _ rfl; refine bU ?_; refine blk_put (cs := #[.int .i64 t305, .int .i64 0, .int .i64 0, .int .i64 0]) ?_ 1 _ rfl; refine bU ?_; refine blk_put (cs := #[.int .i64 0, .int .i64 0, .int .i64 0, .int .i64 0]) ?_ 0 _ rfl; refine bU ?_; refine blk_far ?_ NB310_309.out _; refine bU ?_; refine blk_far ?_ NB310_309.out _; refine bU ?_; refine blk_far ?_ NB310_309.out _; refine bU ?_; refine blk_far ?_ NB310_309.out _; refine bU ?_; exact BK310.out) hb); replace HB := bH (lV2 GE309 GE310) hb; (try clear hb)))
               go_ret2
               exact ⟨_, by first | rfl | (simp [errW_none, errW_some] <;> rfl) | (simp only [← hji22]; first | rfl | (simp [errW_none, errW_some] <;> rfl)) | (simp [*, errW_none, errW_some] <;> rfl), by first | exact Kd.R_nil _ _ _ _ _ | exact Kd.N_nil _ _ _ _ _ | exact Kd.V_nil _ _ _ _ _ | exact Kd.Q_nil _ _ _ _ _ | exact Kd.S_nil _ _ _ _ _, lV2 GE309 GE310⟩
             ·rw [if_neg c23] at H
              exact absurd H (by simp)
            ·rw [if_neg c21] at H
             exact absurd H (by simp)
           ·rw [if_neg c20] at H
            exact absurd H (by simp)
          ·rw [if_neg c19] at H
           have c19b0 : decide ((wrap64 (x9_3 + 1)) < (x8_3.length : Int)) = false := decide_eq_false c19
           clear c19
           have H' := Aside0.mk H
           clear H
           obtain ⟨Ao92, co92, eo92⟩ := Kd.R_slice HO_8.out
           subst eo92
           go_wp2
           go_roundg k3
           case measure => have := HJ3.out; have := HK2.out; have := HK3.out; omega
           case rel => exact ⟨(wrap64 (x2_2 - 1)), (x8_3), tE, H', ⟨by have := HJ3.out; have := HK2.out; have := HK3.out; omega⟩, ⟨by (with_reducible repeat (first | apply Kd.R_alloc | apply Kd.R_drewN | apply Kd.R_drew)); exact HO_8.out⟩, ⟨by repeat (first | (with_reducible first | exact HB.out | apply below_alloc | apply pw_below_drewN | apply below_drew1) | exact HB.out)⟩⟩
       ·rw [if_neg c18] at H
        have c18b0 : decide (0 < x2_2) = false := decide_eq_false c18
        clear c18
        simp only [Option.some.injEq, Prod.mk.injEq] at H
        obtain ⟨rfl, rfl⟩ := H
        go_wp2
        go_ret2
        exact ⟨_, eE, by (with_reducible repeat (first | apply Kd.R_alloc | apply Kd.R_drewN | apply Kd.R_drew)); exact HO_8.out, lU⟩
    ·rw [if_neg c14] at H
     exact absurd H (by simp)
end Go.Proofs.Ytnacjhgpanedoab.PFnPushed
namespace Go.Proofs.Ytnacjhgpanedoab.PFnPushed
open Go.RowKit Go.Proofs.YtnacjhgpanedoabW.PrintWords Go.Proofs.YtnacjhgpanedoabW.PrintLast Go.Proofs.YtnacjhgpanedoabW.PrintMore
attribute [local go_sem] max2_int min2_int max_two min_two max_three min_three max_four min_four   -- for this text's walks alone
set_option linter.unusedVariables false
set_option linter.unusedSimpArgs false
def spec_PushLine.f (k : Nat) (l0 : List (S33)) (a1 : Int) (a2 : Int) : Option ((List (S33)) × Bool) := (spec_l10Push.f k l0 a1 a2).bind fun bt315 => (some (bt315.1, bt315.2))
theorem spec_PushLine.mono : ∀ a0 a1 a2 k, LeO (spec_PushLine.f k a0 a1 a2) (spec_PushLine.f (k + 1) a0 a1 a2) := by
 intro a0 a1 a2 k
 unfold spec_PushLine.f
 repeat' first
   | (with_reducible exact spec_l10Push.mono _ _ _ _)
   | (with_reducible first | exact LeO.refl _ | exact LeO.none _ | refine LeO.ite ?_ ?_ | refine LeO.bind ?_ (fun _ => ?_))
   | exact spec_l10Push.mono _ _ _ _ | exact LeO.none _ | refine LeO.ite ?_ ?_ | refine LeO.bind ?_ (fun _ => ?_)
set_option maxHeartbeats 8000000 in
set_option maxRecDepth 100000 in
theorem spec_PushLine.calls (k : Nat) (A0 : Option Addr) (c0 : Nat) (l0 : List (S33)) (a1 : Int) (a2 : Int) (r1 : List (S33)) (r2 : Bool) (w : World) (hr0 : Kd.C k33 w A0 l0.length l0) (hc0 : l0.length ≤ c0) (h : spec_PushLine.f k l0 a1 a2 = some (r1, r2)) :
  Calls Try.prog 6 #[.slice A0 l0.length c0, .int .i64 a1, .int .i64 a2] w fun e w' => ∃ v0_ : Value, e = .returned (.tuple #[v0_, .bool r2]) ∧ Kd.R k33 33 w' w.heap.size (fun _ => True) v0_ r1 ∧ Below w.heap.size w w' := by
 have HR0 := Aside0.mk hr0
 have HC0 := Aside0.mk hc0
 clear hr0 hc0
 have HB := Aside0.mk (Below.refl w.heap.size w)
 have H : ((spec_l10Push.f k l0 a1 a2).bind fun bt315 => (some (bt315.1, bt315.2))) = some (r1, r2) := h
 clear h
 replace H := Option.bind_eq_some_iff.mp H
 obtain ⟨⟨t315, t316⟩, A40, H⟩ := H
 replace H : (some (t315, t316)) = some (r1, r2) := H
 have A4 := Aside0.mk A40
 clear A40
 simp only [Option.some.injEq, Prod.mk.injEq] at H
 obtain ⟨rfl, rfl⟩ := H
 go_enter Try.func6, Try.ntmps6
 go_wp2_with (first | ((with_reducible refine gate_callee (f := 24) rfl ?_); refine goesL_ (some 11) rfl rfl Try.func24 (by kernel_rfl) rfl #[.slice A0 l0.length c0, .int .i64 a1, .int .i64 a2] rfl aE ?_; (with_reducible refine (spec_l10Push.calls k _ _ l0 a1 a2 t315 t316 _ ?side1 ?side2 A4.out).mono ?_); (case side1 => repeat (first | exact HR0.out | (with_reducible refine Kd.C_alloc ?_ _) | (with_reducible refine Kd.C_drewN ?_ _) | (with_reducible refine Kd.C_drew ?_))); (case side2 => exact HC0.out); rintro e w5 ⟨v317, rfl, ho0, hb⟩; refine ⟨_, rfl, ?_⟩; have HO318 := Aside0.mk (Kd.R_lower ho0 (below_size (lU))); replace HB := bH (lU) hb; (try clear hb); (try clear ho0)))
 go_ret2
 exact ⟨_, eE, by (with_reducible repeat (first | apply Kd.R_alloc | apply Kd.R_drewN | apply Kd.R_drew)); exact HO318.out, lU⟩
def impl_common.l0 : Nat → Int → Int → Option (Int)
 | 0, _, _ => none
 | k + 1, x0, x1 => if x1 = 0 then (some x0) else (impl_common.l0 k x1 (Int.tmod x0 x1))
def impl_common.f (k : Nat) (a0 : Int) (a1 : Int) : Option (Int) := impl_common.l0 k a0 a1
theorem impl_common.mono_l : ∀ k, (∀ y0 y1, LeO (impl_common.l0 k y0 y1) (impl_common.l0 (k + 1) y0 y1))
 | 0 => fun _ _ r h => by simp [impl_common.l0] at h
 | k + 1 => by
  have ih0 := impl_common.mono_l k
  ·intro y0 y1
   unfold impl_common.l0
   repeat' first
   | (with_reducible exact ih0 _ _)
   | (with_reducible first | exact LeO.refl _ | exact LeO.none _ | refine LeO.ite ?_ ?_ | refine LeO.bind ?_ (fun _ => ?_))
   | exact ih0 _ _ | exact LeO.none _ | refine LeO.ite ?_ ?_ | refine LeO.bind ?_ (fun _ => ?_)
theorem impl_common.mono : ∀ a0 a1 k, LeO (impl_common.f k a0 a1) (impl_common.f (k + 1) a0 a1) := by
 intro a0 a1 k
 have ih0 := impl_common.mono_l k
 unfold impl_common.f
 repeat' first
   | (with_reducible exact ih0 _ _)
   | (with_reducible first | exact LeO.refl _ | exact LeO.none _ | refine LeO.ite ?_ ?_ | refine LeO.bind ?_ (fun _ => ?_))
   | exact ih0 _ _ | exact LeO.none _ | refine LeO.ite ?_ ?_ | refine LeO.bind ?_ (fun _ => ?_)
set_option maxHeartbeats 8000000 in
set_option maxRecDepth 100000 in
theorem impl_common.calls (k : Nat) (a0 : Int) (a1 : Int) (r : Int) (w : World) (h : impl_common.f k a0 a1 = some r) :
  Calls Try.prog 25 #[.int .i64 a0, .int .i64 a1] w fun e w' => e = .returned (.int .i64 r) ∧ Drawn0 w w' := by
 have H : (impl_common.l0 k a0 a1) = some r := h
 clear h
 have H' := Aside0.mk H
 clear H
 go_enter Try.func25, Try.ntmps25
 go_wp2
 repeat (go_quiet (fail); try go_wp2)
 go_loopg [0, 1] k (fun kq v0 v1 w' => ∃ (x0_1 : Int) (x1_1 : Int), v0 = .int .i64 x0_1 ∧ v1 = .int .i64 x1_1 ∧ Aside0 (impl_common.l0 kq x0_1 x1_1 = some r) ∧ Aside0 (kq ≤ k) ∧ Drawn0 w w')
 case atStart => exact ⟨(a0), (a1), tE, tE, H', ⟨Nat.le_refl _⟩, by repeat (first | exact Drawn0.refl _ | apply Drawn0.step)⟩
 case round =>
  clear H'
  obtain ⟨x0_1, x1_1, rfl, rfl, HA, HK1, ⟨m1, rfl⟩⟩ := hrel
  cases gk with
  | zero => exact absurd HA.out (by simp [impl_common.l0])
  | succ k1 =>
   have H := HA.out
   clear HA
   simp only [impl_common.l0] at H
   by_cases c3 : x1_1 = 0
   ·rw [if_pos c3] at H
    have c3b0 : (x1_1 == 0) = true := beq_iff_eq.mpr c3
    have c3b1 : (x1_1 != 0) = false := bne_eq_false_iff_eq.mpr c3
    clear c3
    obtain rfl := Option.some.inj H
    go_wp2
    repeat (go_quiet (fail); try go_wp2)
    go_ret
    exact ⟨by first | rfl | (simp; done) | (simp [*]; done) | exact not_isEmpty _ | exact (not_isEmpty _).symm | exact is_empty _ | exact (is_empty _).symm, by repeat (first | exact Drawn0.refl _ | apply Drawn0.step)⟩
   ·rw [if_neg c3] at H
    have c3b0 : (x1_1 == 0) = false := beq_eq_false_iff_ne.mpr c3
    have c3b1 : (x1_1 != 0) = true := bne_iff_ne.mpr c3
    have H' := Aside0.mk H
    clear H
    go_wp2
    repeat (go_quiet (fail); try go_wp2)
    go_roundg k1
    case measure => have := HK1.out; omega
    case rel => exact ⟨(x1_1), (Int.tmod x0_1 x1_1), tE, tE, H', ⟨by have := HK1.out; omega⟩, by repeat (first | exact Drawn0.refl _ | apply Drawn0.step)⟩
def impl_BookOf.l0 : Nat → List (S33) → Int → Int → Int → Int → Int → Option (Int × Int × Int × Bool)
 | 0, _, _, _, _, _, _ => none
 | k + 1, x13, x14, x15, x322000, x322001, x322002 => if x15 < x14 then (if 0 ≤ x15 then (if x15 < (x13.length : Int) then (if ((rd_T33 x13 x15).f2) > 0 then (if (wrap64 (2 * ((rd_T33 x13 x15).f2))) = 0 then (none) else (impl_BookOf.l0 k x13 x14 (wrap64 (x15 + 1)) (wrap64 (x322000 + ((rd_T33 x13 x15).f1))) (wrap64 (x322001 + (wrap64 ((wrap64 (((rd_T33 x13 x15).f1) * ((rd_T33 x13 x15).f1))) * (wrap64 (Int.tdiv (55440 : Int) (wrap64 (2 * ((rd_T33 x13 x15).f2))))))))) x322002)) else (impl_BookOf.l0 k x13 x14 (wrap64 (x15 + 1)) (wrap64 (x322000 + ((rd_T33 x13 x15).f1))) x322001 x322002)) else (none)) else (none)) else ((impl_common.f k x322001 x322002).bind fun t324 => (if t324 = 0 then (none) else (some (x322000, wrap64 (Int.tdiv x322001 t324), wrap64 (Int.tdiv x322002 t324), true))))
def impl_BookOf.f (k : Nat) (l0 : List (S33)) : Option (Int × Int × Int × Bool) := (impl_GoodLine.f k l0).bind fun t320 => (if t320 = true then (impl_BookOf.l0 k l0 (l0.length : Int) 0 0 0 55440) else (some (0, 0, 0, false)))
theorem impl_BookOf.mono_l : ∀ k, (∀ y0 y1 y2 y3 y4 y5, LeO (impl_BookOf.l0 k y0 y1 y2 y3 y4 y5) (impl_BookOf.l0 (k + 1) y0 y1 y2 y3 y4 y5))
 | 0 => fun _ _ _ _ _ _ r h => by simp [impl_BookOf.l0] at h
 | k + 1 => by
  have ih0 := impl_BookOf.mono_l k
  ·intro y0 y1 y2 y3 y4 y5
   unfold impl_BookOf.l0
   repeat' first
   | (with_reducible exact ih0 _ _ _ _ _ _)
   | (with_reducible exact impl_GoodLine.mono _ _)
   | (with_reducible exact impl_common.mono _ _ _)
   | (with_reducible first | exact LeO.refl _ | exact LeO.none _ | refine LeO.ite ?_ ?_ | refine LeO.bind ?_ (fun _ => ?_))
   | exact ih0 _ _ _ _ _ _
   | exact impl_GoodLine.mono _ _
   | exact impl_common.mono _ _ _ | exact LeO.none _ | refine LeO.ite ?_ ?_ | refine LeO.bind ?_ (fun _ => ?_)
theorem impl_BookOf.mono : ∀ a0 k, LeO (impl_BookOf.f k a0) (impl_BookOf.f (k + 1) a0) := by
 intro a0 k
 have ih0 := impl_BookOf.mono_l k
 unfold impl_BookOf.f
 repeat' first
   | (with_reducible exact ih0 _ _ _ _ _ _)
   | (with_reducible exact impl_GoodLine.mono _ _)
   | (with_reducible exact impl_common.mono _ _ _)
   | (with_reducible first | exact LeO.refl _ | exact LeO.none _ | refine LeO.ite ?_ ?_ | refine LeO.bind ?_ (fun _ => ?_))
   | exact ih0 _ _ _ _ _ _
   | exact impl_GoodLine.mono _ _
   | exact impl_common.mono _ _ _ | exact LeO.none _ | refine LeO.ite ?_ ?_ | refine LeO.bind ?_ (fun _ => ?_)
def impl_BookOf.T9 : Bool × List (List Nat × List Nat) := (true, [([], []), ([0], [0]), ([], []), ([2], [2]), ([], []), ([4], [4]), ([3, 5], [3, 5]), ([], []), ([7], [7]), ([8], [8]), ([9], [9]), ([6, 10], [6, 10]), ([1, 11], [1, 11]), ([0, 1, 2, 3, 4, 5, 6, 7, 8, 9, 10, 11, 12], []), ([13, 12, 0, 1, 2, 3, 4, 5, 6, 7, 8, 9, 10, 11, 12], [12, 13])])
def impl_BookOf.B9 : List Nat := [0, 1, 0, 4, 0, 16, 60, 0, 128, 384, 896, 2044, 4095, 8191, 16383]
theorem impl_BookOf.tab9 : rtab .any (opsOf Try.f7 9) = impl_BookOf.T9 := by kernel_rfl
theorem impl_BookOf.bits9 : waitsOk impl_BookOf.T9.2 impl_BookOf.B9 = true := by kernel_rfl
def impl_BookOf.T12 : Bool × List (List Nat × List Nat) := (true, [([], []), ([0], [0]), ([], []), ([1, 2], [1, 2]), ([], []), ([4], [4]), ([], []), ([5, 6], [5, 6]), ([0, 1, 2, 3, 4, 5], []), ([8, 3, 0, 1, 2, 3, 4, 5], [3, 8]), ([0, 1, 2, 3, 4, 5, 6, 7, 8, 9], []), ([10, 7, 9, 0, 1, 2, 3, 4, 5, 6, 7, 8, 9], [7, 10])])
def impl_BookOf.B12 : List Nat := [0, 1, 0, 7, 0, 16, 0, 112, 63, 319, 1023, 2047]
theorem impl_BookOf.tab12 : rtab .any (opsOf Try.f7 12) = impl_BookOf.T12 := by kernel_rfl
theorem impl_BookOf.bits12 : waitsOk impl_BookOf.T12.2 impl_BookOf.B12 = true := by kernel_rfl
set_option maxHeartbeats 8000000 in
set_option maxRecDepth 100000 in
theorem impl_BookOf.calls (k : Nat) (A0 : Option Addr) (c0 : Nat) (l0 : List (S33)) (r1 : Int) (r2 : Int) (r3 : Int) (r4 : Bool) (w : World) (hr0 : Kd.C k33 w A0 l0.length l0) (hc0 : l0.length ≤ c0) (h : impl_BookOf.f k l0 = some (r1, r2, r3, r4)) :
  Calls Try.prog 7 #[.slice A0 l0.length c0] w fun e w' => e = .returned (.tuple #[.agg #[.int .i64 r1, .int .i64 r2, .int .i64 r3], .bool r4]) ∧ Below w.heap.size w w' := by
 have hu29 := Try.underlying29
 have hu33 := Try.underlying33
 have HR0 := Aside0.mk hr0
 have HC0 := Aside0.mk hc0
 clear hr0 hc0
 have HB := Aside0.mk (Below.refl w.heap.size w)
 have H : ((impl_GoodLine.f k l0).bind fun t320 => (if t320 = true then (impl_BookOf.l0 k l0 (l0.length : Int) 0 0 0 55440) else (some (0, 0, 0, false)))) = some (r1, r2, r3, r4) := h
 clear h
 replace H := Option.bind_eq_some_iff.mp H
 obtain ⟨t320, A20, H⟩ := H
 replace H : (if t320 = true then (impl_BookOf.l0 k l0 (l0.length : Int) 0 0 0 55440) else (some (0, 0, 0, false))) = some (r1, r2, r3, r4) := H
 have A2 := Aside0.mk A20
 clear A20
 by_cases c3 : t320 = true
 ·subst c3
  have H1 : (impl_BookOf.l0 k l0 (l0.length : Int) 0 0 0 55440) = some (r1, r2, r3, r4) := by rw [if_pos rfl] at H; exact H
  clear H
  have H := H1
  clear H1
  have H' := Aside0.mk H
  clear H
  go_enter Try.func7, Try.ntmps7
  go_wp2_with (first | ((with_reducible refine gate_dst (N := 2) rfl ?_); refine box_event rfl (N := 2) rfl (cs := #[.int .i64 0, .int .i64 0, .int .i64 0]) (t := 29) sE ?_; intro gb319 hg w4 hbox hb; have BK319 := Aside0.mk hbox; have GW319 := gS w hg (lU); have GE319 := gS w hg (lU); replace HB := bH (lU) hb; clear hb hbox hg) | ((with_reducible refine gate_callee (f := 18) rfl ?_); refine goesL_ (some 9) rfl rfl Try.func18 (by kernel_rfl) rfl #[.slice A0 l0.length c0] rfl aE ?_; (with_reducible refine (impl_GoodLine.calls k _ _ l0 true _ ?side1 ?side2 A2.out).mono ?_); (case side1 => exact cU (Kd.C_below HR0.out HB.out)); (case side2 => exact HC0.out); rintro e w5 ⟨rfl, hb⟩; refine ⟨_, rfl, ?_⟩; replace BK319 := bB (bV BK319) hb; replace HB := bH (lV1 GE319) hb; (try clear hb)) | ((with_reducible refine gate_dst (N := 4) rfl ?_); refine box_event rfl (N := 4) rfl (cs := #[.int .i64 0, .int .i64 0, .int .i64 0]) (t := 29) sE ?_; intro gb321 hg w6 hbox hb; have BK321 := Aside0.mk hbox; have GW321 := gS w hg (lV1 GE319); have GE321 := gS w hg (lV1 GE319); replace HB := bH (lV1 GE319) hb; have NB319_321 := nL hg (bV BK319); have NB321_319 := nG hg (bV BK319); replace BK319 := bB (bV BK319) hb; clear hb hbox hg; have hnb7 := NB321_319.out; have hnc7 := NB319_321.out; have hcz8_0 := cz BK321 0 (.int .i64 0); have hcz8_1 := cz BK321 1 (.int .i64 0); have hcz8_2 := cz BK321 2 (.int .i64 0); have hfz8_0 := fz BK321 0; have hfz8_1 := fz BK321 1; have hfz8_2 := fz BK321 2))
  (try simp only [Act.put, List.setIfInBounds_toArray, List.set_cons_zero, List.set_cons_succ])
  go_loopg [15] k (fun kq v15 w' => ∃ (x15_1 : Int) (x322000_1 : Int) (x322001_1 : Int), v15 = .int .i64 x15_1 ∧ Aside0 (impl_BookOf.l0 kq l0 (l0.length : Int) x15_1 x322000_1 x322001_1 55440 = some (r1, r2, r3, r4)) ∧ Aside0 (kq ≤ k) ∧ Aside0 (w'.heap[gb319]? = some (.cells #[.int .i64 0, .int .i64 0, .int .i64 0] 29 (0, 0))) ∧ Aside0 (w'.heap[gb321]? = some (.cells #[.int .i64 x322000_1, .int .i64 x322001_1, .int .i64 55440] 29 (0, 0))) ∧ Aside0 (Below w.heap.size w w'))
  case atStart => exact ⟨(0), (0), (0), tE, H', ⟨Nat.le_refl _⟩, ⟨by refine bU ?_; refine blk_far ?_ NB319_321.out _; refine bU ?_; refine blk_far ?_ NB319_321.out _; refine bU ?_; refine blk_far ?_ NB319_321.out _; refine bU ?_; exact BK319.out⟩, ⟨by refine bU ?_; refine blk_put (cs := #[.int .i64 0, .int .i64 0, .int .i64 0]) ?_ 2 _ rfl; refine bU ?_; refine blk_put (cs := #[.int .i64 0, .int .i64 0, .int .i64 0]) ?_ 1 _ rfl; refine bU ?_; refine blk_put (cs := #[.int .i64 0, .int .i64 0, .int .i64 0]) ?_ 0 _ rfl; refine bU ?_; exact BK321.out⟩, ⟨by repeat (first | (with_reducible first | exact HB.out | apply below_alloc | apply pw_below_drewN | apply below_drew1 | refine below_set ?_ GE319.out | refine below_set ?_ GE321.out) | exact HB.out)⟩⟩
  case round =>
   clear H'
   try clear c3; try clear hcz8_0; try clear hcz8_1; try clear hcz8_2; try clear hfz8_0; try clear hfz8_1; try clear hfz8_2
   obtain ⟨x15_1, x322000_1, x322001_1, rfl, HA, HK1, BK319, BK321, HB⟩ := hrel
   cases gk with
   | zero => exact absurd HA.out (by simp [impl_BookOf.l0])
   | succ k1 =>
    have H := HA.out
    clear HA
    simp only [impl_BookOf.l0] at H
    by_cases c9 : x15_1 < (l0.length : Int)
    ·rw [if_pos c9] at H
     have c9b0 : decide (x15_1 < (l0.length : Int)) = true := decide_eq_true c9
     clear c9
     by_cases c10 : 0 ≤ x15_1
     ·rw [if_pos c10] at H
      have c10b0 : decide (0 ≤ x15_1) = true := decide_eq_true c10
      clear c10
      by_cases c11 : x15_1 < (l0.length : Int)
      ·rw [if_pos c11] at H
       have c11b0 : decide (x15_1 < (l0.length : Int)) = true := decide_eq_true c11
       clear c11
       by_cases c12 : ((rd_T33 l0 x15_1).f2) > 0
       ·rw [if_pos c12] at H
        have c12b0 : decide (0 < ((rd_T33 l0 x15_1).f2)) = true := decide_eq_true c12
        clear c12
        by_cases c13 : (wrap64 (2 * ((rd_T33 l0 x15_1).f2))) = 0
        ·rw [if_pos c13] at H
         exact absurd H (by simp)
        ·rw [if_neg c13] at H
         have c13b0 : ((wrap64 (2 * ((rd_T33 l0 x15_1).f2))) == 0) = false := beq_eq_false_iff_ne.mpr c13
         have c13b1 : ((wrap64 (2 * ((rd_T33 l0 x15_1).f2))) != 0) = true := bne_iff_ne.mpr c13
         have H' := Aside0.mk H
         clear H
         have p322 : 0 ≤ (x15_1 : Int) := of_decide_eq_true hE
         have q322 : x15_1 < (l0.length : Int) := of_decide_eq_true hE
         obtain ⟨ad322, e322, hx322_0, hx322_1, hx322_2, hx322_3⟩ := at_T33 HR0.out x15_1 p322 q322
         cases e322
         replace hx322_0 := (HB.out.cell (World.block_lt_of_cell? w _ hx322_0)).trans hx322_0
         replace hx322_1 := (HB.out.cell (World.block_lt_of_cell? w _ hx322_1)).trans hx322_1
         replace hx322_2 := (HB.out.cell (World.block_lt_of_cell? w _ hx322_2)).trans hx322_2
         replace hx322_3 := (HB.out.cell (World.block_lt_of_cell? w _ hx322_3)).trans hx322_3
         replace p322 := eq_true p322
         replace q322 := eq_true q322
         try go_wp2_with (first | ((with_reducible refine gate_dst (N := 6) rfl ?_); refine box_event rfl (N := 6) rfl (cs := #[.int .i64 0, .int .i64 0, .int .i64 0, .int .i64 0]) (t := 33) sE ?_; intro gb323 hg w14 hbox hb; have BK323 := Aside0.mk hbox; have GW323 := gS w hg (lV2 GE319 GE321); have GE323 := gS w hg (lV2 GE319 GE321); replace HB := bH (lV2 GE319 GE321) hb; have NB319_323 := nL hg (bV BK319); have NB323_319 := nG hg (bV BK319); replace BK319 := bB (bV BK319) hb; have NB321_323 := nL hg (bV BK321); have NB323_321 := nG hg (bV BK321); replace BK321 := bB (bV BK321) hb; clear hb hbox hg; have hnb15 := NB323_319.out; have hnc15 := NB319_323.out; have hnb16 := NB323_321.out; have hnc16 := NB321_323.out; have hcz17_0 := cz BK323 0 (.int .i64 0); have hcz17_1 := cz BK323 1 (.int .i64 0); have hcz17_2 := cz BK323 2 (.int .i64 0); have hcz17_3 := cz BK323 3 (.int .i64 0); have hfz17_0 := fz BK323 0; have hfz17_1 := fz BK323 1; have hfz17_2 := fz BK323 2; have hfz17_3 := fz BK323 3; have hnb18 := NB321_319.out; have hnc18 := NB319_321.out; have hcz19_0 := cz BK321 0 (.int .i64 x322000_1); have hcz19_1 := cz BK321 1 (.int .i64 x322001_1); have hcz19_2 := cz BK321 2 (.int .i64 55440); have hfz19_0 := fz BK321 0; have hfz19_1 := fz BK321 1; have hfz19_2 := fz BK321 2))
         have n0_ : Aside0 ((((((w14.setCell ⟨gb323, 0, none⟩ (.int .i64 ((rd_T33 l0 x15_1).f0))).setCell ⟨gb323, 1, none⟩ (.int .i64 ((rd_T33 l0 x15_1).f1))).setCell ⟨gb323, 2, none⟩ (.int .i64 ((rd_T33 l0 x15_1).f2))).setCell ⟨gb323, 3, none⟩ (.int .i64 ((rd_T33 l0 x15_1).f3))).setCell ⟨gb321, 0, none⟩ (.int .i64 (wrap64 (x322000_1 + ((rd_T33 l0 x15_1).f1))))).heap[gb319]? = some (.cells #[.int .i64 0, .int .i64 0, .int .i64 0] 29 (0, 0))) := ⟨by refine bU ?_; refine blk_far ?_ NB319_321.out _; refine bU ?_; refine blk_far ?_ NB319_323.out _; refine bU ?_; refine blk_far ?_ NB319_323.out _; refine bU ?_; refine blk_far ?_ NB319_323.out _; refine bU ?_; refine blk_far ?_ NB319_323.out _; refine bU ?_; exact BK319.out⟩
         have n1_ : Aside0 ((((((w14.setCell ⟨gb323, 0, none⟩ (.int .i64 ((rd_T33 l0 x15_1).f0))).setCell ⟨gb323, 1, none⟩ (.int .i64 ((rd_T33 l0 x15_1).f1))).setCell ⟨gb323, 2, none⟩ (.int .i64 ((rd_T33 l0 x15_1).f2))).setCell ⟨gb323, 3, none⟩ (.int .i64 ((rd_T33 l0 x15_1).f3))).setCell ⟨gb321, 0, none⟩ (.int .i64 (wrap64 (x322000_1 + ((rd_T33 l0 x15_1).f1))))).heap[gb321]? = some (.cells #[.int .i64 (wrap64 (x322000_1 + ((rd_T33 l0 x15_1).f1))), .int .i64 x322001_1, .int .i64 55440] 29 (0, 0))) := ⟨by refine bU ?_; refine blk_put (cs := #[.int .i64 x322000_1, .int .i64 x322001_1, .int .i64 55440]) ?_ 0 _ rfl; refine bU ?_; refine blk_far ?_ NB321_323.out _; refine bU ?_; refine blk_far ?_ NB321_323.out _; refine bU ?_; refine blk_far ?_ NB321_323.out _; refine bU ?_; refine blk_far ?_ NB321_323.out _; refine bU ?_; exact BK321.out⟩
         have n2_ : Aside0 ((((((w14.setCell ⟨gb323, 0, none⟩ (.int .i64 ((rd_T33 l0 x15_1).f0))).setCell ⟨gb323, 1, none⟩ (.int .i64 ((rd_T33 l0 x15_1).f1))).setCell ⟨gb323, 2, none⟩ (.int .i64 ((rd_T33 l0 x15_1).f2))).setCell ⟨gb323, 3, none⟩ (.int .i64 ((rd_T33 l0 x15_1).f3))).setCell ⟨gb321, 0, none⟩ (.int .i64 (wrap64 (x322000_1 + ((rd_T33 l0 x15_1).f1))))).heap[gb323]? = some (.cells #[.int .i64 ((rd_T33 l0 x15_1).f0), .int .i64 ((rd_T33 l0 x15_1).f1), .int .i64 ((rd_T33 l0 x15_1).f2), .int .i64 ((rd_T33 l0 x15_1).f3)] 33 (0, 0))) := ⟨by refine bU ?_; refine blk_far ?_ NB323_321.out _; refine bU ?_; refine blk_put (cs := #[.int .i64 ((rd_T33 l0 x15_1).f0), .int .i64 ((rd_T33 l0 x15_1).f1), .int .i64 ((rd_T33 l0 x15_1).f2), .int .i64 0]) ?_ 3 _ rfl; refine bU ?_; refine blk_put (cs := #[.int .i64 ((rd_T33 l0 x15_1).f0), .int .i64 ((rd_T33 l0 x15_1).f1), .int .i64 0, .int .i64 0]) ?_ 2 _ rfl; refine bU ?_; refine blk_put (cs := #[.int .i64 ((rd_T33 l0 x15_1).f0), .int .i64 0, .int .i64 0, .int .i64 0]) ?_ 1 _ rfl; refine bU ?_; refine blk_put (cs := #[.int .i64 0, .int .i64 0, .int .i64 0, .int .i64 0]) ?_ 0 _ rfl; refine bU ?_; exact BK323.out⟩
         have n3_ : Aside0 (Below w.heap.size w (((((w14.setCell ⟨gb323, 0, none⟩ (.int .i64 ((rd_T33 l0 x15_1).f0))).setCell ⟨gb323, 1, none⟩ (.int .i64 ((rd_T33 l0 x15_1).f1))).setCell ⟨gb323, 2, none⟩ (.int .i64 ((rd_T33 l0 x15_1).f2))).setCell ⟨gb323, 3, none⟩ (.int .i64 ((rd_T33 l0 x15_1).f3))).setCell ⟨gb321, 0, none⟩ (.int .i64 (wrap64 (x322000_1 + ((rd_T33 l0 x15_1).f1)))))) := ⟨by repeat (first | (with_reducible first | exact HB.out | apply below_alloc | apply pw_below_drewN | apply below_drew1 | refine below_set ?_ GE319.out | refine below_set ?_ GE321.out | refine below_set ?_ GE323.out) | exact HB.out)⟩
         (try clear BK319)
         (try clear BK321)
         (try clear BK323)
         (try clear HB)
         generalize (((((w14.setCell ⟨gb323, 0, none⟩ (.int .i64 ((rd_T33 l0 x15_1).f0))).setCell ⟨gb323, 1, none⟩ (.int .i64 ((rd_T33 l0 x15_1).f1))).setCell ⟨gb323, 2, none⟩ (.int .i64 ((rd_T33 l0 x15_1).f2))).setCell ⟨gb323, 3, none⟩ (.int .i64 ((rd_T33 l0 x15_1).f3))).setCell ⟨gb321, 0, none⟩ (.int .i64 (wrap64 (x322000_1 + ((rd_T33 l0 x15_1).f1))))) = w20 at n0_ n1_ n2_ n3_ ⊢
         have BK319 := n0_
         have BK321 := n1_
         have BK323 := n2_
         have HB := n3_
         clear n0_ n1_ n2_ n3_
         replace BK319 := Aside0.mk (blk_drew BK319.out)
         replace BK321 := Aside0.mk (blk_drew BK321.out)
         replace BK323 := Aside0.mk (blk_drew BK323.out)
         replace HB := Aside0.mk (below_drew1 HB.out)
         refine start_ (n := 15) (S := fun w' => w'.cell? ⟨gb321, 0, none⟩ = some (.int .i64 (wrap64 (x322000_1 + ((rd_T33 l0 x15_1).f1)))) ∧ w'.cell? ⟨gb321, 1, none⟩ = some (.int .i64 x322001_1) ∧ w'.cell? ⟨gb321, 2, none⟩ = some (.int .i64 55440) ∧ w'.cell? ⟨gb323, 0, none⟩ = some (.int .i64 ((rd_T33 l0 x15_1).f0)) ∧ w'.cell? ⟨gb323, 1, none⟩ = some (.int .i64 ((rd_T33 l0 x15_1).f1)) ∧ w'.cell? ⟨gb323, 2, none⟩ = some (.int .i64 ((rd_T33 l0 x15_1).f2)) ∧ w'.cell? ⟨gb323, 3, none⟩ = some (.int .i64 ((rd_T33 l0 x15_1).f3))) (ds := [14]) #[false, false, false, false, false, false, false, false, false, false, false, false, false, false, false] (by kernel_rfl) rfl rfl ⟨cz BK321 0 _, cz BK321 1 _, cz BK321 2 _, cz BK323 0 _, cz BK323 1 _, cz BK323 2 _, cz BK323 3 _⟩ (fun hHeld => ?_); refine with_tabW impl_BookOf.tab9 impl_BookOf.bits9 (fun HT_ HW_ => ?_)
         generalize w20.drew = w21 at BK319 BK321 BK323 HB hHeld ⊢
         refine pureA 0 28 (bz 15 1) rfl rfl (any_of HT_.out (by kernel_rfl)) ?_
         refine pureA 2 30 (bz 15 5) rfl rfl (any_of HT_.out (by kernel_rfl)) ?_
         refine pureA 4 32 (bz 15 21) rfl rfl (any_of HT_.out (by kernel_rfl)) ?_
         refine pureA 7 35 (bz 15 149) rfl rfl (any_of HT_.out (by kernel_rfl)) ?_
         refine takeA 1 29 (bz 15 151) rfl rfl (take_ofW HT_.out HW_.out (by kernel_rfl)) hHeld (by rintro w' ⟨s0, s1, s2, s3, s4, s5, s6⟩; go_simp; with_reducible rfl) ?_
         refine takeA 3 31 (bz 15 159) rfl rfl (take_ofW HT_.out HW_.out (by kernel_rfl)) hHeld (by rintro w' ⟨s0, s1, s2, s3, s4, s5, s6⟩; go_simp; with_reducible rfl) ?_
         refine takeA 5 33 (bz 15 191) rfl rfl (take_ofW HT_.out HW_.out (by kernel_rfl)) hHeld (by rintro w' ⟨s0, s1, s2, s3, s4, s5, s6⟩; go_simp; with_reducible rfl) ?_
         refine pureA 6 34 (bz 15 255) rfl rfl (any_of HT_.out (by kernel_rfl)) ?_
         refine takeA 8 36 (bz 15 511) rfl rfl (take_ofW HT_.out HW_.out (by kernel_rfl)) hHeld (by rintro w' ⟨s0, s1, s2, s3, s4, s5, s6⟩; go_simp; with_reducible rfl) ?_
         refine pureA 9 37 (bz 15 1023) rfl rfl (any_of HT_.out (by kernel_rfl)) ?_
         refine pureA 10 38 (bz 15 2047) rfl rfl (any_of HT_.out (by kernel_rfl)) ?_
         refine pureA 11 39 (bz 15 4095) rfl rfl (any_of HT_.out (by kernel_rfl)) ?_
         refine pureA 12 40 (bz 15 8191) rfl rfl (any_of HT_.out (by kernel_rfl)) ?_
         refine pureA 13 41 (bz 15 16383) rfl rfl (any_of HT_.out (by kernel_rfl)) ?_
         refine last_ (i := 14) (N := none) (bz 15 32767) rfl rfl (one_of HT_.out (by kernel_rfl)) (by decide) (fun K hK => ?_)
         have hs22 : w21.cell? ⟨gb321, 1, none⟩ = some (.int .i64 x322001_1) := (blk_cell BK321.out 1).trans rfl
         have hfs22 := blk_frozen BK321.out 1
         have hns22_0 := NB319_321.out
         have hns22_2 := NB323_321.out
         have hms22_0 := NB321_319.out
         have hms22_2 := NB321_323.out
         refine skip_ (w1 := ?_) (by rfl) rfl ?_ ?_
         rotate_left
         ·go_simp
          rfl
         refine hK.out _ _ ?_
         clear hK K
         refine done_ (done_of HT_.out (by kernel_rfl)) ?_
         try go_wp2
         go_roundg k1
         case measure => have := HK1.out; omega
         case rel => exact ⟨(wrap64 (x15_1 + 1)), (wrap64 (x322000_1 + ((rd_T33 l0 x15_1).f1))), (wrap64 (x322001_1 + (wrap64 ((wrap64 (((rd_T33 l0 x15_1).f1) * ((rd_T33 l0 x15_1).f1))) * (wrap64 (Int.tdiv (55440 : Int) (wrap64 (2 * ((rd_T33 l0 x15_1).f2))))))))), tE, H', ⟨by have := HK1.out; omega⟩, ⟨by refine bU ?_; refine blk_far ?_ NB319_321.out _; refine bU ?_; exact BK319.out⟩, ⟨by refine bU ?_; refine blk_put (cs := #[.int .i64 (wrap64 (x322000_1 + ((rd_T33 l0 x15_1).f1))), .int .i64 x322001_1, .int .i64 55440]) ?_ 1 _ rfl; refine bU ?_; exact BK321.out⟩, ⟨by repeat (first | (with_reducible first | exact HB.out | apply below_alloc | apply pw_below_drewN | apply below_drew1 | refine below_set ?_ GE319.out | refine below_set ?_ GE321.out | refine below_set ?_ GE323.out) | exact HB.out)⟩⟩
       ·rw [if_neg c12] at H
        have c12b0 : decide (0 < ((rd_T33 l0 x15_1).f2)) = false := decide_eq_false c12
        clear c12
        have H' := Aside0.mk H
        clear H
        have p322 : 0 ≤ (x15_1 : Int) := of_decide_eq_true hE
        have q322 : x15_1 < (l0.length : Int) := of_decide_eq_true hE
        obtain ⟨ad322, e322, hx322_0, hx322_1, hx322_2, hx322_3⟩ := at_T33 HR0.out x15_1 p322 q322
        cases e322
        replace hx322_0 := (HB.out.cell (World.block_lt_of_cell? w _ hx322_0)).trans hx322_0
        replace hx322_1 := (HB.out.cell (World.block_lt_of_cell? w _ hx322_1)).trans hx322_1
        replace hx322_2 := (HB.out.cell (World.block_lt_of_cell? w _ hx322_2)).trans hx322_2
        replace hx322_3 := (HB.out.cell (World.block_lt_of_cell? w _ hx322_3)).trans hx322_3
        replace p322 := eq_true p322
        replace q322 := eq_true q322
        go_wp2_with (first | ((with_reducible refine gate_dst (N := 6) rfl ?_); refine box_event rfl (N := 6) rfl (cs := #[.int .i64 0, .int .i64 0, .int .i64 0, .int .i64 0]) (t := 33) sE ?_; intro gb323 hg w23 hbox hb; have BK323 := Aside0.mk hbox; have GW323 := gS w hg (lV2 GE319 GE321); have GE323 := gS w hg (lV2 GE319 GE321); replace HB := bH (lV2 GE319 GE321) hb; have NB319_323 := nL hg (bV BK319); have NB323_319 := nG hg (bV BK319); replace BK319 := bB (bV BK319) hb; have NB321_323 := nL hg (bV BK321); have NB323_321 := nG hg (bV BK321); replace BK321 := bB (bV BK321) hb; clear hb hbox hg; have hnb24 := NB323_319.out; have hnc24 := NB319_323.out; have hnb25 := NB323_321.out; have hnc25 := NB321_323.out; have hcz26_0 := cz BK323 0 (.int .i64 0); have hcz26_1 := cz BK323 1 (.int .i64 0); have hcz26_2 := cz BK323 2 (.int .i64 0); have hcz26_3 := cz BK323 3 (.int .i64 0); have hfz26_0 := fz BK323 0; have hfz26_1 := fz BK323 1; have hfz26_2 := fz BK323 2; have hfz26_3 := fz BK323 3; have hnb27 := NB321_319.out; have hnc27 := NB319_321.out; have hcz28_0 := cz BK321 0 (.int .i64 x322000_1); have hcz28_1 := cz BK321 1 (.int .i64 x322001_1); have hcz28_2 := cz BK321 2 (.int .i64 55440); have hfz28_0 := fz BK321 0; have hfz28_1 := fz BK321 1; have hfz28_2 := fz BK321 2))
        go_roundg k1
        case measure => have := HK1.out; omega
        case rel => exact ⟨(wrap64 (x15_1 + 1)), (wrap64 (x322000_1 + ((rd_T33 l0 x15_1).f1))), (x322001_1), tE, H', ⟨by have := HK1.out; omega⟩, ⟨by refine bU ?_; refine blk_far ?_ NB319_321.out _; refine bU ?_; refine blk_far ?_ NB319_323.out _; refine bU ?_; refine blk_far ?_ NB319_323.out _; refine bU ?_; refine blk_far ?_ NB319_323.out _; refine bU ?_; refine blk_far ?_ NB319_323.out _; refine bU ?_; exact BK319.out⟩, ⟨by refine bU ?_; refine blk_put (cs := #[.int .i64 x322000_1, .int .i64 x322001_1, .int .i64 55440]) ?_ 0 _ rfl; refine bU ?_; refine blk_far ?_ NB321_323.out _; refine bU ?_; refine blk_far ?_ NB321_323.out _; refine bU ?_; refine blk_far ?_ NB321_323.out _; refine bU ?_; refine blk_far ?_ NB321_323.out _; refine bU ?_; exact BK321.out⟩, ⟨by repeat (first | (with_reducible first | exact HB.out | apply below_alloc | apply pw_below_drewN | apply below_drew1 | refine below_set ?_ GE319.out | refine below_set ?_ GE321.out | refine below_set ?_ GE323.out) | exact HB.out)⟩⟩
      ·rw [if_neg c11] at H
       exact absurd H (by simp)
     ·rw [if_neg c10] at H
      exact absurd H (by simp)
    ·rw [if_neg c9] at H
     have c9b0 : decide (x15_1 < (l0.length : Int)) = false := decide_eq_false c9
     clear c9
     replace H := Option.bind_eq_some_iff.mp H
     obtain ⟨t324, A290, H⟩ := H
     replace H : (if t324 = 0 then (none) else (some (x322000_1, wrap64 (Int.tdiv x322001_1 t324), wrap64 (Int.tdiv 55440 t324), true))) = some (r1, r2, r3, r4) := H
     have A29 := Aside0.mk A290
     clear A290
     by_cases c30 : t324 = 0
     ·rw [if_pos c30] at H
      exact absurd H (by simp)
     ·rw [if_neg c30] at H
      have c30b0 : (t324 == 0) = false := beq_eq_false_iff_ne.mpr c30
      have c30b1 : (t324 != 0) = true := bne_iff_ne.mpr c30
      simp only [Option.some.injEq, Prod.mk.injEq] at H
      obtain ⟨rfl, rfl, rfl, rfl⟩ := H
      have hnb31 := NB321_319.out
      have hnc31 := NB319_321.out
      have hcz32_0 := cz BK321 0 (.int .i64 x322000_1)
      have hcz32_1 := cz BK321 1 (.int .i64 x322001_1)
      have hcz32_2 := cz BK321 2 (.int .i64 55440)
      have hfz32_0 := fz BK321 0
      have hfz32_1 := fz BK321 1
      have hfz32_2 := fz BK321 2
      try go_wp2_with (first | ((with_reducible refine gate_callee (f := 25) rfl ?_); refine goesL_ (some 47) rfl rfl Try.func25 (by kernel_rfl) rfl #[.int .i64 x322001_1, .int .i64 55440] rfl aE ?_; (with_reducible refine (impl_common.calls k1 x322001_1 55440 t324 _ A29.out).mono ?_); rintro e w' ⟨rfl, ⟨nd, rfl⟩⟩; refine ⟨_, rfl, ?_⟩; (try (rw [drewN_self wr]; generalize hq_ : World.drewN wr _ = wr; replace BK319 : Aside0 (wr.heap[gb319]? = some (.cells #[.int .i64 0, .int .i64 0, .int .i64 0] 29 (0, 0))) := ⟨by rw [← hq_]; exact (bV BK319)⟩; replace BK321 : Aside0 (wr.heap[gb321]? = some (.cells #[.int .i64 x322000_1, .int .i64 x322001_1, .int .i64 55440] 29 (0, 0))) := ⟨by rw [← hq_]; exact (bV BK321)⟩; replace HB : Aside0 (Below w.heap.size w wr) := ⟨by rw [← hq_]; exact (lV2 GE319 GE321)⟩; clear hq_))))
      replace BK319 := Aside0.mk (blk_drew BK319.out)
      replace BK321 := Aside0.mk (blk_drew BK321.out)
      replace HB := Aside0.mk (below_drew1 HB.out)
      refine start_ (n := 12) (S := fun w' => w'.cell? ⟨gb321, 0, none⟩ = some (.int .i64 x322000_1) ∧ w'.cell? ⟨gb321, 1, none⟩ = some (.int .i64 x322001_1) ∧ w'.cell? ⟨gb321, 2, none⟩ = some (.int .i64 55440)) (ds := [9, 11]) #[false, false, false, false, false, false, false, false, false, false, false, false] (by kernel_rfl) rfl rfl ⟨cz BK321 0 _, cz BK321 1 _, cz BK321 2 _⟩ (fun hHeld => ?_); refine with_tabW impl_BookOf.tab12 impl_BookOf.bits12 (fun HT_ HW_ => ?_)
      generalize wr.drew = w33 at BK319 BK321 HB hHeld ⊢
      refine pureA 0 48 (bz 12 1) rfl rfl (any_of HT_.out (by kernel_rfl)) ?_
      refine pureA 2 50 (bz 12 5) rfl rfl (any_of HT_.out (by kernel_rfl)) ?_
      refine pureA 4 52 (bz 12 21) rfl rfl (any_of HT_.out (by kernel_rfl)) ?_
      refine pureA 6 54 (bz 12 85) rfl rfl (any_of HT_.out (by kernel_rfl)) ?_
      refine takeA 1 49 (bz 12 87) rfl rfl (take_ofW HT_.out HW_.out (by kernel_rfl)) hHeld (by rintro w' ⟨s0, s1, s2⟩; go_simp; with_reducible rfl) ?_
      refine pureA 3 51 (bz 12 95) rfl rfl (any_of HT_.out (by kernel_rfl)) ?_
      refine takeA 5 53 (bz 12 127) rfl rfl (take_ofW HT_.out HW_.out (by kernel_rfl)) hHeld (by rintro w' ⟨s0, s1, s2⟩; go_simp; with_reducible rfl) ?_
      refine pureA 7 55 (bz 12 255) rfl rfl (any_of HT_.out (by kernel_rfl)) ?_
      refine pureA 8 56 (bz 12 511) rfl rfl (any_of HT_.out (by kernel_rfl)) ?_
      refine last_ (i := 9) (N := none) (bz 12 1023) rfl rfl (one_of HT_.out (by kernel_rfl)) (by decide) (fun K hK => ?_)
      have hs34 : w33.cell? ⟨gb321, 1, none⟩ = some (.int .i64 x322001_1) := (blk_cell BK321.out 1).trans rfl
      have hfs34 := blk_frozen BK321.out 1
      have hns34_0 := NB319_321.out
      have hms34_0 := NB321_319.out
      refine skip_ (w1 := ?_) (by rfl) rfl ?_ ?_
      rotate_left
      ·go_simp
       rfl
      refine hK.out _ _ ?_
      clear hK K
      refine pureA 10 57 (bz 12 2047) rfl rfl (any_of HT_.out (by kernel_rfl)) ?_
      refine last_ (i := 11) (N := none) (bz 12 4095) rfl rfl (one_of HT_.out (by kernel_rfl)) (by decide) (fun K hK => ?_)
      have hs35 : w33.cell? ⟨gb321, 2, none⟩ = some (.int .i64 55440) := (blk_cell BK321.out 2).trans rfl
      have hfs35 := blk_frozen BK321.out 2
      have hns35_0 := NB319_321.out
      have hms35_0 := NB321_319.out
      refine skip_ (w1 := ?_) (by rfl) rfl ?_ ?_
      rotate_left
      ·go_simp
       rfl
      refine hK.out _ _ ?_
      clear hK K
      refine done_ (done_of HT_.out (by kernel_rfl)) ?_
      have hcz36_0 := cz BK321 0 (.int .i64 x322000_1)
      have hcz36_1 := cz BK321 1 (.int .i64 x322001_1)
      have hcz36_2 := cz BK321 2 (.int .i64 55440)
      have hfz36_0 := fz BK321 0
      have hfz36_1 := fz BK321 1
      have hfz36_2 := fz BK321 2
      have hcz37_0 := cz BK319 0 (.int .i64 0)
      have hcz37_1 := cz BK319 1 (.int .i64 0)
      have hcz37_2 := cz BK319 2 (.int .i64 0)
      have hfz37_0 := fz BK319 0
      have hfz37_1 := fz BK319 1
      have hfz37_2 := fz BK319 2
      try go_wp2
      refine bodyPost_ret (results_ct rfl _ _ gb319 29 #[.int .i64 x322000_1, .int .i64 (wrap64 (Int.tdiv x322001_1 t324)), .int .i64 (wrap64 (Int.tdiv 55440 t324))] (0, 0) _ rfl (by refine bU ?_; refine blk_put (cs := #[.int .i64 x322000_1, .int .i64 (wrap64 (Int.tdiv x322001_1 t324)), .int .i64 0]) ?_ 2 _ rfl; refine bU ?_; refine blk_put (cs := #[.int .i64 x322000_1, .int .i64 0, .int .i64 0]) ?_ 1 _ rfl; refine bU ?_; refine blk_put (cs := #[.int .i64 0, .int .i64 0, .int .i64 0]) ?_ 0 _ rfl; refine bU ?_; refine blk_far ?_ NB319_321.out _; refine bU ?_; refine blk_far ?_ NB319_321.out _; refine bU ?_; exact BK319.out) Try.underlying29 rfl (by kernel_rfl)) rfl ?_
      exact ⟨eE, lV2 GE319 GE321⟩
 ·replace c3 := Bool.eq_false_iff.mpr c3
  subst c3
  have H1 : (some (0, 0, 0, false)) = some (r1, r2, r3, r4) := by rw [if_neg (show ¬ (false = true) by decide)] at H; exact H
  clear H
  have H := H1
  clear H1
  simp only [Option.some.injEq, Prod.mk.injEq] at H
  obtain ⟨rfl, rfl, rfl, rfl⟩ := H
  go_enter Try.func7, Try.ntmps7
  go_wp2_with (first | ((with_reducible refine gate_dst (N := 2) rfl ?_); refine box_event rfl (N := 2) rfl (cs := #[.int .i64 0, .int .i64 0, .int .i64 0]) (t := 29) sE ?_; intro gb319 hg w38 hbox hb; have BK319 := Aside0.mk hbox; have GW319 := gS w hg (lU); have GE319 := gS w hg (lU); replace HB := bH (lU) hb; clear hb hbox hg) | ((with_reducible refine gate_callee (f := 18) rfl ?_); refine goesL_ (some 9) rfl rfl Try.func18 (by kernel_rfl) rfl #[.slice A0 l0.length c0] rfl aE ?_; (with_reducible refine (impl_GoodLine.calls k _ _ l0 false _ ?side1 ?side2 A2.out).mono ?_); (case side1 => exact cU (Kd.C_below HR0.out HB.out)); (case side2 => exact HC0.out); rintro e w39 ⟨rfl, hb⟩; refine ⟨_, rfl, ?_⟩; replace BK319 := bB (bV BK319) hb; replace HB := bH (lV1 GE319) hb; (try clear hb); have hcz40_0 := cz BK319 0 (.int .i64 0); have hcz40_1 := cz BK319 1 (.int .i64 0); have hcz40_2 := cz BK319 2 (.int .i64 0); have hfz40_0 := fz BK319 0; have hfz40_1 := fz BK319 1; have hfz40_2 := fz BK319 2))
  refine bodyPost_ret (results_ct rfl _ _ gb319 29 #[.int .i64 0, .int .i64 0, .int .i64 0] (0, 0) _ rfl (by refine bU ?_; refine blk_put (cs := #[.int .i64 0, .int .i64 0, .int .i64 0]) ?_ 2 _ rfl; refine bU ?_; refine blk_put (cs := #[.int .i64 0, .int .i64 0, .int .i64 0]) ?_ 1 _ rfl; refine bU ?_; refine blk_put (cs := #[.int .i64 0, .int .i64 0, .int .i64 0]) ?_ 0 _ rfl; refine bU ?_; exact BK319.out) Try.underlying29 rfl (by kernel_rfl)) rfl ?_
  exact ⟨eE, lV1 GE319⟩
end Go.Proofs.Ytnacjhgpanedoab.PFnPushed
