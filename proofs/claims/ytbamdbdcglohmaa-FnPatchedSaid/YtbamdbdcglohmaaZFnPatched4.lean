/- Texts of the row of the law FnPatched, laid together. -/
import Derived.Test.YtbamdbdcglohmaaZFnPatched3
import Derived.Test.YtbamdbdcglohmaaZFnPatched0
import Derived.SizedLaws
import Derived.ChangeArms
import Derived.OpenShut
import Derived.WideShapes
import Derived.WalkKit
import Derived.KernelRfl
import Derived.Laws.BitsLemmas
namespace Go.Proofs.Ytbamdbdcglohmaa.PFnPatched
open Go.RowKit Go.Proofs.YtbamdbdcglohmaaW.PrintWords Go.Proofs.YtbamdbdcglohmaaW.PrintLast Go.Proofs.YtbamdbdcglohmaaW.PrintMore
attribute [local go_sem] max2_int min2_int max_two min_two max_three min_three max_four min_four   -- for this text's walks alone
set_option linter.unusedVariables false
set_option linter.unusedSimpArgs false
def impl_inRange.f (a0 : Int) (a1 : Int) (a2 : Int) : Option (Bool) := if a1 ≤ a0 then (some (decide (a0 ≤ a2))) else (some false)
set_option maxHeartbeats 8000000 in
set_option maxRecDepth 100000 in
theorem impl_inRange.calls (a0 : Int) (a1 : Int) (a2 : Int) (r : Bool) (w : World) (h : impl_inRange.f a0 a1 a2 = some r) :
  Calls Try.prog 17 #[.int .i64 a0, .int .i64 a1, .int .i64 a2] w fun e w' => e = .returned (.bool r) ∧ Drawn0 w w' := by
 have H : (if a1 ≤ a0 then (some (decide (a0 ≤ a2))) else (some false)) = some r := h
 clear h
 by_cases c4 : a1 ≤ a0
 ·rw [if_pos c4] at H
  have c4b0 : decide (a1 ≤ a0) = true := decide_eq_true c4
  clear c4
  obtain rfl := Option.some.inj H
  go_enter Try.func17, Try.ntmps17
  go_wp2
  go_ret
  exact ⟨by first | rfl | (simp; done) | (simp [*]; done) | exact not_isEmpty _ | exact (not_isEmpty _).symm | exact is_empty _ | exact (is_empty _).symm, by repeat (first | exact Drawn0.refl _ | apply Drawn0.step)⟩
 ·rw [if_neg c4] at H
  have c4b0 : decide (a1 ≤ a0) = false := decide_eq_false c4
  clear c4
  obtain rfl := Option.some.inj H
  go_enter Try.func17, Try.ntmps17
  go_wp2
  go_ret
  exact ⟨by first | rfl | (simp; done) | (simp [*]; done) | exact not_isEmpty _ | exact (not_isEmpty _).symm | exact is_empty _ | exact (is_empty _).symm, by repeat (first | exact Drawn0.refl _ | apply Drawn0.step)⟩
def bytes_Clone.f (l0 : List Int) : Option (List Int) := if l0.length < 140737488355328 then (some l0) else (none)
set_option maxHeartbeats 8000000 in
set_option maxRecDepth 100000 in
theorem bytes_Clone.calls (A0 : Option Addr) (c0 : Nat) (l0 : List Int) (r : List Int) (w : World) (hr0 : Kd.C (Kd.int .u8) w A0 l0.length l0) (hc0 : l0.length ≤ c0) (h : bytes_Clone.f l0 = some r) :
  Calls Try.prog 18 #[.slice A0 l0.length c0] w fun e w' => ∃ v0_ : Value, e = .returned (v0_) ∧ Kd.R (Kd.int .u8) 5 w' w.heap.size (fun _ => True) v0_ r ∧ Below w.heap.size w w' := by
 have hl : l0.length < 140737488355328 ∧ l0 = r := by
  unfold bytes_Clone.f at h
  split at h
  ·exact ⟨by assumption, Option.some.inj h⟩
  ·cases h
 clear h
 obtain ⟨hl, rfl⟩ := hl
 have HL := Aside0.mk hl
 have HR0 := Aside0.mk hr0
 clear hr0 hl
 have HT := Try.underlying22
 have u0 : ∀ w, Sem.run Try.prog (underlying 22) w = .ok (TypeDesc.slice 5) w := run_underlying HT
 have q0 : ∀ (w : World) (a : Option Addr) (n c n' c' : Nat), (binOp .eql 22 (.slice a n c) (.slice none n' c')).run Try.prog w = .ok (.bool a.isNone) w := fun w a n c n' c' => Lib.run_eql_slice_nil w _ _ a n c n' c' HT
 cases A0 with
 | none =>
  obtain rfl : l0 = [] := by
   rcases Nat.eq_zero_or_pos l0.length with h0 | h0
   ·exact List.eq_nil_of_length_eq_zero h0
   ·obtain ⟨ad, h1, _⟩ := HR0.out.2.2 h0
    cases h1
  go_enter Try.func18, Try.ntmps18
  go_wp2
  go_ret
  exact ⟨_, rfl, Kd.R_nil _ _ _ _ _, Below.refl _ _⟩
 | some ad =>
  go_enter Try.func18, Try.ntmps18
  go_wp2_with (first | ((with_reducible refine gate_builtin (b := .append) (xs := #[.tmp 5, .tmp 6]) rfl ?_); at_builtin; refine Kd.R_append_rows (Kd.int .u8) (w0 := w) w.heap.size rfl (.tmp 5) (.tmp 6) 22 5 (.int .u8 0) 1 rfl Try.underlying22 info5 rfl (by decide) (by omega) (.slice (some ⟨w.heap.size, 0, none⟩) 0 0) [] l0 (some ad) l0.length c0 (fun _ => True) (fun _ => False) rfl rfl ?aO ?aR (fun _ _ h => h) (fun _ h => h.elim) ?aF ?aB ?aS ?aL ?_; (case aR => exact Kd.C_below HR0.out (below_alloc (Below.refl _ _) _)); (case aB => exact below_alloc (Below.refl _ _) _); (case aF => exact fun _ _ => trivial); (case aO => exact ⟨fun _ _ => trivial, [], World.ownsRow_made w #[] 0 (Nat.le_refl _) (Nat.zero_le _) rfl, ⟨rfl, fun j p hj => by simp at hj⟩⟩); (case aS => simp); (case aL => have := HL.out; simp only [List.length_nil, Nat.zero_add]; omega); intro v1 w1 ho hb hg hat; rw [List.nil_append] at ho; have HO := Aside0.mk ho; have HB := Aside0.mk hb; clear ho hb hg hat))
  go_ret
  exact ⟨_, rfl, HO.out, HB.out⟩
mutual
def impl_ApplyPatch.j0 : Nat → List Int → List (S51) → Bool → Option (List Int × Bool)
 | 0, _, _, _ => none
 | k + 1, x0, x1, x16 => if x16 = true then (some (([] : List Int), false)) else (impl_ApplyPatch.l0 k x0 (([] : List Int)) x1 (x1.length : Int) 0)
def impl_ApplyPatch.l0 : Nat → List Int → List Int → List (S51) → Int → Int → Option (List Int × Bool)
 | 0, _, _, _, _, _ => none
 | k + 1, x0, x6, x18, x19, x20 => if x20 < x19 then (if 0 ≤ x20 then (if x20 < (x18.length : Int) then (if (((rd_T51 x18 x20).f2).length : Int) > 0 then (if ((rd_T51 x18 x20).f0) = 0 then (impl_ApplyPatch.j2 k x0 x6 x18 x19 x20 (((rd_T51 x18 x20).f1) == 0) ((rd_T51 x18 x20).f0) ((rd_T51 x18 x20).f1) ((rd_T51 x18 x20).f2)) else (impl_ApplyPatch.j2 k x0 x6 x18 x19 x20 false ((rd_T51 x18 x20).f0) ((rd_T51 x18 x20).f1) ((rd_T51 x18 x20).f2))) else (impl_ApplyPatch.j2 k x0 x6 x18 x19 x20 false ((rd_T51 x18 x20).f0) ((rd_T51 x18 x20).f1) ((rd_T51 x18 x20).f2))) else (none)) else (none)) else ((bytes_Clone.f x6).bind fun t218 => (some (t218, true)))
def impl_ApplyPatch.j2 : Nat → List Int → List Int → List (S51) → Int → Int → Bool → Int → Int → List Int → Option (List Int × Bool)
 | 0, _, _, _, _, _, _, _, _, _ => none
 | k + 1, x0, x6, x18, x19, x20, x24, x223000, x223001, x223002 => if x24 = true then (if x6.length + x223002.length < 140737488355328 then ((some (x6 ++ x223002 : List Int)).bind fun y223 => (if (y223.length : Int) > 400 then (some (([] : List Int), false)) else (impl_ApplyPatch.l0 k x0 y223 x18 x19 (wrap64 (x20 + 1))))) else (none)) else (if (x223002.length : Int) = 0 then ((impl_inRange.f x223000 0 (x0.length : Int)).bind fun t226 => (if t226 = true then ((impl_inRange.f x223001 1 (wrap64 ((x0.length : Int) - x223000))).bind fun t227 => (impl_ApplyPatch.j3 k x0 x6 x18 x19 x20 t227 x223000 x223001 x223002)) else (impl_ApplyPatch.j3 k x0 x6 x18 x19 x20 false x223000 x223001 x223002))) else (impl_ApplyPatch.j3 k x0 x6 x18 x19 x20 false x223000 x223001 x223002))
def impl_ApplyPatch.j3 : Nat → List Int → List Int → List (S51) → Int → Int → Bool → Int → Int → List Int → Option (List Int × Bool)
 | 0, _, _, _, _, _, _, _, _, _ => none
 | k + 1, x0, x6, x18, x19, x20, x43, x223000, x223001, x223002 => if x43 = true then (if 0 ≤ x223000 then (if x223000 ≤ (wrap64 (x223000 + x223001)) then (if (wrap64 (x223000 + x223001)) ≤ (x0.length : Int) then (if x6.length + ((x0.take ((wrap64 (x223000 + x223001)) : Int).toNat).drop (x223000 : Int).toNat).length < 140737488355328 then ((some (x6 ++ ((x0.take ((wrap64 (x223000 + x223001)) : Int).toNat).drop (x223000 : Int).toNat) : List Int)).bind fun y229 => (if (y229.length : Int) > 400 then (some (([] : List Int), false)) else (impl_ApplyPatch.l0 k x0 y229 x18 x19 (wrap64 (x20 + 1))))) else (none)) else (none)) else (none)) else (none)) else (some (([] : List Int), false))
end
def impl_ApplyPatch.f (k : Nat) (l0 : List Int) (l1 : List (S51)) : Option (List Int × Bool) := if (l0.length : Int) > 400 then (impl_ApplyPatch.j0 k l0 l1 true) else (impl_ApplyPatch.j0 k l0 l1 (decide ((l1.length : Int) > 400)))
theorem impl_ApplyPatch.mono_l : ∀ k, (∀ y0 y1 y2, LeO (impl_ApplyPatch.j0 k y0 y1 y2) (impl_ApplyPatch.j0 (k + 1) y0 y1 y2)) ∧ (∀ y0 y1 y2 y3 y4, LeO (impl_ApplyPatch.l0 k y0 y1 y2 y3 y4) (impl_ApplyPatch.l0 (k + 1) y0 y1 y2 y3 y4)) ∧ (∀ y0 y1 y2 y3 y4 y5 y6 y7 y8, LeO (impl_ApplyPatch.j2 k y0 y1 y2 y3 y4 y5 y6 y7 y8) (impl_ApplyPatch.j2 (k + 1) y0 y1 y2 y3 y4 y5 y6 y7 y8)) ∧ (∀ y0 y1 y2 y3 y4 y5 y6 y7 y8, LeO (impl_ApplyPatch.j3 k y0 y1 y2 y3 y4 y5 y6 y7 y8) (impl_ApplyPatch.j3 (k + 1) y0 y1 y2 y3 y4 y5 y6 y7 y8))
 | 0 => ⟨fun _ _ _ r h => by simp [impl_ApplyPatch.j0] at h, fun _ _ _ _ _ r h => by simp [impl_ApplyPatch.l0] at h, fun _ _ _ _ _ _ _ _ _ r h => by simp [impl_ApplyPatch.j2] at h, fun _ _ _ _ _ _ _ _ _ r h => by simp [impl_ApplyPatch.j3] at h⟩
 | k + 1 => by
  obtain ⟨ih0, ih1, ih2, ih3⟩ := impl_ApplyPatch.mono_l k
  refine ⟨?_, ?_, ?_, ?_⟩
  ·intro y0 y1 y2
   unfold impl_ApplyPatch.j0
   repeat' first
   | (with_reducible exact ih0 _ _ _)
   | (with_reducible exact ih1 _ _ _ _ _)
   | (with_reducible exact ih2 _ _ _ _ _ _ _ _ _)
   | (with_reducible exact ih3 _ _ _ _ _ _ _ _ _)
   | (with_reducible exact LeO.refl _)
   | (with_reducible exact LeO.none _)
   | (with_reducible refine LeO.ite ?_ ?_)
   | (with_reducible refine LeO.bind ?_ (fun _ => ?_))
   | exact ih0 _ _ _
   | exact ih1 _ _ _ _ _
   | exact ih2 _ _ _ _ _ _ _ _ _
   | exact ih3 _ _ _ _ _ _ _ _ _
   | exact LeO.none _
   | refine LeO.ite ?_ ?_
   | refine LeO.bind ?_ (fun _ => ?_)
  ·intro y0 y1 y2 y3 y4
   unfold impl_ApplyPatch.l0
   repeat' first
   | (with_reducible exact ih0 _ _ _)
   | (with_reducible exact ih1 _ _ _ _ _)
   | (with_reducible exact ih2 _ _ _ _ _ _ _ _ _)
   | (with_reducible exact ih3 _ _ _ _ _ _ _ _ _)
   | (with_reducible exact LeO.refl _)
   | (with_reducible exact LeO.none _)
   | (with_reducible refine LeO.ite ?_ ?_)
   | (with_reducible refine LeO.bind ?_ (fun _ => ?_))
   | exact ih0 _ _ _
   | exact ih1 _ _ _ _ _
   | exact ih2 _ _ _ _ _ _ _ _ _
   | exact ih3 _ _ _ _ _ _ _ _ _
   | exact LeO.none _
   | refine LeO.ite ?_ ?_
   | refine LeO.bind ?_ (fun _ => ?_)
  ·intro y0 y1 y2 y3 y4 y5 y6 y7 y8
   unfold impl_ApplyPatch.j2
   repeat' first
   | (with_reducible exact ih0 _ _ _)
   | (with_reducible exact ih1 _ _ _ _ _)
   | (with_reducible exact ih2 _ _ _ _ _ _ _ _ _)
   | (with_reducible exact ih3 _ _ _ _ _ _ _ _ _)
   | (with_reducible exact LeO.refl _)
   | (with_reducible exact LeO.none _)
   | (with_reducible refine LeO.ite ?_ ?_)
   | (with_reducible refine LeO.bind ?_ (fun _ => ?_))
   | exact ih0 _ _ _
   | exact ih1 _ _ _ _ _
   | exact ih2 _ _ _ _ _ _ _ _ _
   | exact ih3 _ _ _ _ _ _ _ _ _
   | exact LeO.none _
   | refine LeO.ite ?_ ?_
   | refine LeO.bind ?_ (fun _ => ?_)
  ·intro y0 y1 y2 y3 y4 y5 y6 y7 y8
   unfold impl_ApplyPatch.j3
   repeat' first
   | (with_reducible exact ih0 _ _ _)
   | (with_reducible exact ih1 _ _ _ _ _)
   | (with_reducible exact ih2 _ _ _ _ _ _ _ _ _)
   | (with_reducible exact ih3 _ _ _ _ _ _ _ _ _)
   | (with_reducible exact LeO.refl _)
   | (with_reducible exact LeO.none _)
   | (with_reducible refine LeO.ite ?_ ?_)
   | (with_reducible refine LeO.bind ?_ (fun _ => ?_))
   | exact ih0 _ _ _
   | exact ih1 _ _ _ _ _
   | exact ih2 _ _ _ _ _ _ _ _ _
   | exact ih3 _ _ _ _ _ _ _ _ _
   | exact LeO.none _
   | refine LeO.ite ?_ ?_
   | refine LeO.bind ?_ (fun _ => ?_)
theorem impl_ApplyPatch.mono : ∀ a0 a1 k, LeO (impl_ApplyPatch.f k a0 a1) (impl_ApplyPatch.f (k + 1) a0 a1) := by
 intro a0 a1 k
 obtain ⟨ih0, ih1, ih2, ih3⟩ := impl_ApplyPatch.mono_l k
 unfold impl_ApplyPatch.f
 repeat' first
   | (with_reducible exact ih0 _ _ _)
   | (with_reducible exact ih1 _ _ _ _ _)
   | (with_reducible exact ih2 _ _ _ _ _ _ _ _ _)
   | (with_reducible exact ih3 _ _ _ _ _ _ _ _ _)
   | (with_reducible exact LeO.refl _)
   | (with_reducible exact LeO.none _)
   | (with_reducible refine LeO.ite ?_ ?_)
   | (with_reducible refine LeO.bind ?_ (fun _ => ?_))
   | exact ih0 _ _ _
   | exact ih1 _ _ _ _ _
   | exact ih2 _ _ _ _ _ _ _ _ _
   | exact ih3 _ _ _ _ _ _ _ _ _
   | exact LeO.none _
   | refine LeO.ite ?_ ?_
   | refine LeO.bind ?_ (fun _ => ?_)
set_option maxHeartbeats 8000000 in
set_option maxRecDepth 100000 in
theorem impl_ApplyPatch.calls (k : Nat) (A0 : Option Addr) (c0 : Nat) (l0 : List Int) (A1 : Option Addr) (c1 : Nat) (l1 : List (S51)) (r1 : List Int) (r2 : Bool) (w : World) (hr0 : Kd.C (Kd.int .u8) w A0 l0.length l0) (hc0 : l0.length ≤ c0) (hr1 : Kd.C k51 w A1 l1.length l1) (hc1 : l1.length ≤ c1) (h : impl_ApplyPatch.f k l0 l1 = some (r1, r2)) :
  Calls Try.prog 8 #[.slice A0 l0.length c0, .slice A1 l1.length c1] w fun e w' => ∃ v0_ : Value, e = .returned (.tuple #[v0_, .bool r2]) ∧ Kd.R (Kd.int .u8) 5 w' w.heap.size (fun _ => True) v0_ r1 ∧ Below w.heap.size w w' := by
 have hu51 := Try.underlying51
 have HR0 := Aside0.mk hr0
 have HC0 := Aside0.mk hc0
 clear hr0 hc0
 have HR1 := Aside0.mk hr1
 have HC1 := Aside0.mk hc1
 clear hr1 hc1
 have HB := Aside0.mk (Below.refl w.heap.size w)
 have H : (if (l0.length : Int) > 400 then (impl_ApplyPatch.j0 k l0 l1 true) else (impl_ApplyPatch.j0 k l0 l1 (decide ((l1.length : Int) > 400)))) = some (r1, r2) := h
 clear h
 have HC3 := Aside0.mk H
 clear H
 go_enter Try.func8, Try.ntmps8
 go_upto_region 1 with (fail)
 go_cut [16] (fun v16 wc => ∃ (kq : Nat) (x16_2 : Bool), v16 = .bool x16_2 ∧ Aside0 (impl_ApplyPatch.j0 kq l0 l1 x16_2 = some (r1, r2)) ∧ Aside0 (kq ≤ k) ∧ Aside0 (Below w.heap.size w wc))
 case first =>
  have H := HC3.out
  clear HC3
  by_cases c4 : (l0.length : Int) > 400
  ·rw [if_pos c4] at H
   have c4b0 : decide (400 < (l0.length : Int)) = true := decide_eq_true c4
   have c4b1 : decide (400 < l0.length) = true := decide_eq_true (by omega)
   clear c4
   (first | rw [c4b0] | (simp only [i64_w, i32_w]; rw [c4b0]) | (rw [c4b2]; simp only [Bool.not_false, Bool.not_true]) | skip)
   have H' := Aside0.mk H
   clear H
   go_wp2
   go_meet
   case rel => exact ⟨_, (true), tE, H', ⟨by first | omega | exact Nat.le_refl _⟩, ⟨by repeat (first | (with_reducible first | exact HB.out | apply below_alloc | apply pw_below_drewN | apply below_drew1) | exact HB.out)⟩⟩
  ·rw [if_neg c4] at H
   have c4b0 : decide (400 < (l0.length : Int)) = false := decide_eq_false c4
   have c4b1 : decide (400 < l0.length) = false := decide_eq_false (by omega)
   clear c4
   (first | rw [c4b0] | (simp only [i64_w, i32_w]; rw [c4b0]) | (rw [c4b2]; simp only [Bool.not_false, Bool.not_true]) | skip)
   have H' := Aside0.mk H
   clear H
   go_wp2
   go_meet
   case rel => exact ⟨_, (decide ((l1.length : Int) > 400)), tE, H', ⟨by first | omega | exact Nat.le_refl _⟩, ⟨by repeat (first | (with_reducible first | exact HB.out | apply below_alloc | apply pw_below_drewN | apply below_drew1) | exact HB.out)⟩⟩
 case rest =>
  clear HC3
  try clear c1
  try clear p2
  try clear c4
  try clear c4b0
  try clear c4b1
  try clear c4b2
  obtain ⟨kq, x16_2, rfl, HA, HJ2, HB⟩ := hcut
  cases kq with
  | zero => exact absurd HA.out (by simp [impl_ApplyPatch.j0])
  | succ kj2 =>
   have H := HA.out
   clear HA
   simp only [impl_ApplyPatch.j0] at H
   by_cases c5 : x16_2 = true
   ·subst c5
    have H1 : (some (([] : List Int), false)) = some (r1, r2) := by rw [if_pos rfl] at H; exact H
    clear H
    have H := H1
    clear H1
    simp only [Option.some.injEq, Prod.mk.injEq] at H
    obtain ⟨rfl, rfl⟩ := H
    go_wp2
    go_ret2
    exact ⟨_, eE, by first | exact Kd.R_nil _ _ _ _ _ | exact Kd.N_nil _ _ _ _ _ | exact Kd.V_nil _ _ _ _ _ | exact Kd.Q_nil _ _ _ _ _ | exact Kd.S_nil _ _ _ _ _, lU⟩
   ·replace c5 := Bool.eq_false_iff.mpr c5
    subst c5
    have H1 : (impl_ApplyPatch.l0 kj2 l0 (([] : List Int)) l1 (l1.length : Int) 0) = some (r1, r2) := by rw [if_neg (show ¬ (false = true) by decide)] at H; exact H
    clear H
    have H := H1
    clear H1
    obtain ⟨y215, hy215⟩ : ∃ y_ : List Int, y_ = (([] : List Int)) := ⟨_, rfl⟩
    replace H : (impl_ApplyPatch.l0 kj2 l0 y215 l1 (l1.length : Int) 0) = some (r1, r2) := by first | (rw [hy215]; with_reducible exact H) | (have H2_ := (Option.bind_some _ _).symm.trans H; rw [hy215]; with_reducible exact H2_) | (have H2_ := (Option.bind_some _ _).symm.trans H; with_reducible exact H2_) | with_reducible exact H | (rw [hy215]; exact H) | exact H
    have Ny215 := Aside0.mk hy215
    clear hy215
    have H' := Aside0.mk H
    clear H
    go_wp2_with (first | ((with_reducible refine gate_dst (N := 17) rfl ?_); (try (refine gate_guard (by rfl) ?_; dsimp only)); refine Kd.R_lit (Kd.int .u8) _ 5 ?hg (N := 17) ?hd (xs := ([] : List Int)) (inner := []) (ok := fun _ => True) (okp := fun _ => True) ?hr ?hp (fun _ hk => hk) trivial (Below.refl _ _) (Nat.le_refl _) (by simp) ?_; (case hd => rfl); (case hg => rfl); (case hr => exact sE); (case hp => exact (Reps.none _ _)); intro v216 w6 ho7 hb hg_ hnew_; clear hg_ hnew_; (first | rw [← Ny215.out] at ho7 | (simp only [Int.reduceToNat] at ho7; rw [← Ny215.out] at ho7)); have HO217 := Aside0.mk (Kd.R_lower ho7 (below_size (lU))); replace HB := bH (lU) hb; clear hb ho7))
    (try simp only [Act.put, List.setIfInBounds_toArray, List.set_cons_zero, List.set_cons_succ])
    go_loopg [6, 20] kj2 (fun kq v6 v20 w' => ∃ (x6_2 : List Int) (x20_2 : Int), v20 = .int .i64 x20_2 ∧ Aside0 (impl_ApplyPatch.l0 kq l0 x6_2 l1 (l1.length : Int) x20_2 = some (r1, r2)) ∧ Aside0 (kq ≤ kj2) ∧ Aside0 (Kd.R (Kd.int .u8) 5 w' w.heap.size (fun _ => True) v6 x6_2) ∧ Aside0 (Below w.heap.size w w'))
    case atStart => exact ⟨(y215), (0), tE, H', ⟨Nat.le_refl _⟩, ⟨by (with_reducible repeat (first | apply Kd.R_alloc | apply Kd.R_drewN | apply Kd.R_drew)); exact HO217.out⟩, ⟨by repeat (first | (with_reducible first | exact HB.out | apply below_alloc | apply pw_below_drewN | apply below_drew1) | exact HB.out)⟩⟩
    case round =>
     clear H'
     try clear c1
     try clear p2
     try clear c4
     try clear c4b0
     try clear c4b1
     try clear c4b2
     try clear c5
     try clear p2
     obtain ⟨x6_2, x20_2, rfl, HA, HK2, HO_6, HB⟩ := hrel
     cases gk with
     | zero => exact absurd HA.out (by simp [impl_ApplyPatch.l0])
     | succ k2 =>
      have H := HA.out
      clear HA
      simp only [impl_ApplyPatch.l0] at H
      by_cases c8 : x20_2 < (l1.length : Int)
      ·rw [if_pos c8] at H
       have c8b0 : decide (x20_2 < (l1.length : Int)) = true := decide_eq_true c8
       clear c8
       by_cases c9 : 0 ≤ x20_2
       ·rw [if_pos c9] at H
        have c9b0 : decide (0 ≤ x20_2) = true := decide_eq_true c9
        clear c9
        by_cases c10 : x20_2 < (l1.length : Int)
        ·rw [if_pos c10] at H
         have c10b0 : decide (x20_2 < (l1.length : Int)) = true := decide_eq_true c10
         clear c10
         have HC11 := Aside0.mk H
         clear H
         have p221 : 0 ≤ (x20_2 : Int) := of_decide_eq_true hE
         have q221 : x20_2 < (l1.length : Int) := of_decide_eq_true hE
         obtain ⟨ad221, A221_2, c221_2, e221, hx221_0, hx221_1, hx221_2, hl221_2, hi221_2⟩ := at_T51 HR1.out x20_2 p221 q221
         cases e221
         replace hx221_0 := (HB.out.cell (World.block_lt_of_cell? w _ hx221_0)).trans hx221_0
         replace hx221_1 := (HB.out.cell (World.block_lt_of_cell? w _ hx221_1)).trans hx221_1
         replace hx221_2 := (HB.out.cell (World.block_lt_of_cell? w _ hx221_2)).trans hx221_2
         have HR221_2 := Aside0.mk hi221_2
         have HC221_2 := Aside0.mk hl221_2
         clear hi221_2 hl221_2
         replace p221 := eq_true p221
         replace q221 := eq_true q221
         go_upto_region 8 with (first | ((with_reducible refine gate_dst (N := 8) rfl ?_); (try (refine gate_guard (by rfl) ?_; dsimp only)); refine box_event rfl (N := 8) rfl (cs := #[.int .i64 0, .int .i64 0, .slice none 0 0]) (t := 51) sE ?_; intro gb222 hg w12 hbox hb; replace HO_6 := Aside0.mk (Kd.R_below (rU HO_6.out) hb); have BK222 := Aside0.mk hbox; have GW222 := gS w hg (lU); have GE222 := gS w hg (lU); replace HB := bH (lU) hb; clear hb hbox hg; have hcz13_0 := cz BK222 0 (.int .i64 0); have hcz13_1 := cz BK222 1 (.int .i64 0); have hcz13_2 := cz BK222 2 (.slice none 0 0); have hfz13_0 := fz BK222 0; have hfz13_1 := fz BK222 1; have hfz13_2 := fz BK222 2) | ((with_reducible refine gate_store (t := 51) (p := 8) rfl ?_); refine store_event (t := 51) (p := 8) (v := ?vo_w14) (w1 := (((w12.setCell ⟨gb222, 0, none⟩ (.int .i64 ((rd_T51 l1 x20_2).f0))).setCell ⟨gb222, 1, none⟩ (.int .i64 ((rd_T51 l1 x20_2).f1))).setCell ⟨gb222, 2, none⟩ (.slice A221_2 ((rd_T51 l1 x20_2).f2).length c221_2))) ?hg ?ho ?hn ?hr ?_; (case ho => rfl); (case hg => rfl); (case hn => rfl); (case hr => first | (go_simp; done) | (go_simp; rfl) | (have hq0_ := (blk_cell BK222.out 0).trans (show _ = some _ from rfl); have hf0_ := blk_frozen BK222.out 0; have hq1_ := (blk_cell BK222.out 1).trans (show _ = some _ from rfl); have hf1_ := blk_frozen BK222.out 1; have hq2_ := (blk_cell BK222.out 2).trans (show _ = some _ from rfl); have hf2_ := blk_frozen BK222.out 2; first | (go_simp; done) | (go_simp; rfl))); intro w14 hw; replace HO_6 : Aside0 (Kd.R (Kd.int .u8) 5 w14 w.heap.size (fun _ => True) u6 x6_2) := ⟨(by rw [hw]; exact (by (with_reducible repeat (first | apply Kd.R_alloc | apply Kd.R_drewN | apply Kd.R_drew)); exact Kd.R_mono (Kd.R_far (p := ⟨gb222, 2, none⟩) (Kd.R_far (p := ⟨gb222, 1, none⟩) (Kd.R_far (p := ⟨gb222, 0, none⟩) (Kd.R_types HO_6.out BK222.out (by decide)) (fun _ hk => hk.2) (.int .i64 ((rd_T51 l1 x20_2).f0))) (fun _ hk => hk.2) (.int .i64 ((rd_T51 l1 x20_2).f1))) (fun _ hk => hk.2) (.slice A221_2 ((rd_T51 l1 x20_2).f2).length c221_2)) (fun _ hk => trivial)))⟩; replace BK222 : Aside0 (w14.heap[gb222]? = some (.cells #[.int .i64 ((rd_T51 l1 x20_2).f0), .int .i64 ((rd_T51 l1 x20_2).f1), .slice A221_2 ((rd_T51 l1 x20_2).f2).length c221_2] 51 (0, 0))) := ⟨(by rw [hw]; exact (by refine bU ?_; refine blk_put (cs := #[.int .i64 ((rd_T51 l1 x20_2).f0), .int .i64 ((rd_T51 l1 x20_2).f1), .slice none 0 0]) ?_ 2 _ rfl; refine bU ?_; refine blk_put (cs := #[.int .i64 ((rd_T51 l1 x20_2).f0), .int .i64 0, .slice none 0 0]) ?_ 1 _ rfl; refine bU ?_; refine blk_put (cs := #[.int .i64 0, .int .i64 0, .slice none 0 0]) ?_ 0 _ rfl; refine bU ?_; exact BK222.out))⟩; replace HB : Aside0 (Below w.heap.size w w14) := ⟨(by rw [hw]; exact (lV1 GE222))⟩; clear hw))
         (try simp only [Act.put, List.setIfInBounds_toArray, List.set_cons_zero, List.set_cons_succ])
         go_cut [24] (fun v24 wc => ∃ (kq : Nat) (x24_10 : Bool), v24 = .bool x24_10 ∧ Aside0 (impl_ApplyPatch.j2 kq l0 x6_2 l1 (l1.length : Int) x20_2 x24_10 ((rd_T51 l1 x20_2).f0) ((rd_T51 l1 x20_2).f1) ((rd_T51 l1 x20_2).f2) = some (r1, r2)) ∧ Aside0 (kq ≤ k2) ∧ Aside0 (Kd.R (Kd.int .u8) 5 wc w.heap.size (fun _ => True) u6 x6_2) ∧ Aside0 (wc.heap[gb222]? = some (.cells #[.int .i64 ((rd_T51 l1 x20_2).f0), .int .i64 ((rd_T51 l1 x20_2).f1), (.slice A221_2 ((rd_T51 l1 x20_2).f2).length c221_2)] 51 (0, 0))) ∧ Aside0 (Below w.heap.size w wc))
         case first =>
          have H := HC11.out
          clear HC11
          by_cases c15 : (((rd_T51 l1 x20_2).f2).length : Int) > 0
          ·rw [if_pos c15] at H
           have c15b0 : decide (0 < (((rd_T51 l1 x20_2).f2).length : Int)) = true := decide_eq_true c15
           have c15b1 : decide (0 < ((rd_T51 l1 x20_2).f2).length) = true := decide_eq_true (by omega)
           clear c15
           (first | rw [c15b0] | (simp only [i64_w, i32_w]; rw [c15b0]) | (rw [c15b2]; simp only [Bool.not_false, Bool.not_true]) | skip)
           by_cases c16 : ((rd_T51 l1 x20_2).f0) = 0
           ·rw [if_pos c16] at H
            have c16b0 : (((rd_T51 l1 x20_2).f0) == 0) = true := beq_iff_eq.mpr c16
            have c16b1 : (((rd_T51 l1 x20_2).f0) != 0) = false := bne_eq_false_iff_eq.mpr c16
            clear c16
            have H' := Aside0.mk H
            clear H
            have hcz17_0 := cz BK222 0 (.int .i64 ((rd_T51 l1 x20_2).f0))
            have hcz17_1 := cz BK222 1 (.int .i64 ((rd_T51 l1 x20_2).f1))
            have hcz17_2 := cz BK222 2 (.slice A221_2 ((rd_T51 l1 x20_2).f2).length c221_2)
            have hfz17_0 := fz BK222 0
            have hfz17_1 := fz BK222 1
            have hfz17_2 := fz BK222 2
            go_wp2
            go_meet
            case rel => exact ⟨_, ((((rd_T51 l1 x20_2).f1) == 0)), tE, H', ⟨by have := HJ2.out; have := HK2.out; first | omega | exact Nat.le_refl _⟩, ⟨by (with_reducible repeat (first | apply Kd.R_alloc | apply Kd.R_drewN | apply Kd.R_drew)); exact HO_6.out⟩, ⟨by refine bU ?_; exact BK222.out⟩, ⟨by repeat (first | (with_reducible first | exact HB.out | apply below_alloc | apply pw_below_drewN | apply below_drew1 | refine below_set ?_ GE222.out) | exact HB.out)⟩⟩
           ·rw [if_neg c16] at H
            have c16b0 : (((rd_T51 l1 x20_2).f0) == 0) = false := beq_eq_false_iff_ne.mpr c16
            have c16b1 : (((rd_T51 l1 x20_2).f0) != 0) = true := bne_iff_ne.mpr c16
            have H' := Aside0.mk H
            clear H
            have hcz18_0 := cz BK222 0 (.int .i64 ((rd_T51 l1 x20_2).f0))
            have hcz18_1 := cz BK222 1 (.int .i64 ((rd_T51 l1 x20_2).f1))
            have hcz18_2 := cz BK222 2 (.slice A221_2 ((rd_T51 l1 x20_2).f2).length c221_2)
            have hfz18_0 := fz BK222 0
            have hfz18_1 := fz BK222 1
            have hfz18_2 := fz BK222 2
            go_wp2
            go_meet
            case rel => exact ⟨_, (false), tE, H', ⟨by have := HJ2.out; have := HK2.out; first | omega | exact Nat.le_refl _⟩, ⟨by (with_reducible repeat (first | apply Kd.R_alloc | apply Kd.R_drewN | apply Kd.R_drew)); exact HO_6.out⟩, ⟨by refine bU ?_; exact BK222.out⟩, ⟨by repeat (first | (with_reducible first | exact HB.out | apply below_alloc | apply pw_below_drewN | apply below_drew1 | refine below_set ?_ GE222.out) | exact HB.out)⟩⟩
          ·rw [if_neg c15] at H
           have c15b0 : decide (0 < (((rd_T51 l1 x20_2).f2).length : Int)) = false := decide_eq_false c15
           have c15b1 : decide (0 < ((rd_T51 l1 x20_2).f2).length) = false := decide_eq_false (by omega)
           clear c15
           (first | rw [c15b0] | (simp only [i64_w, i32_w]; rw [c15b0]) | (rw [c15b2]; simp only [Bool.not_false, Bool.not_true]) | skip)
           have H' := Aside0.mk H
           clear H
           have hcz19_0 := cz BK222 0 (.int .i64 ((rd_T51 l1 x20_2).f0))
           have hcz19_1 := cz BK222 1 (.int .i64 ((rd_T51 l1 x20_2).f1))
           have hcz19_2 := cz BK222 2 (.slice A221_2 ((rd_T51 l1 x20_2).f2).length c221_2)
           have hfz19_0 := fz BK222 0
           have hfz19_1 := fz BK222 1
           have hfz19_2 := fz BK222 2
           go_wp2
           go_meet
           case rel => exact ⟨_, (false), tE, H', ⟨by have := HJ2.out; have := HK2.out; first | omega | exact Nat.le_refl _⟩, ⟨by (with_reducible repeat (first | apply Kd.R_alloc | apply Kd.R_drewN | apply Kd.R_drew)); exact HO_6.out⟩, ⟨by refine bU ?_; exact BK222.out⟩, ⟨by repeat (first | (with_reducible first | exact HB.out | apply below_alloc | apply pw_below_drewN | apply below_drew1 | refine below_set ?_ GE222.out) | exact HB.out)⟩⟩
         case rest =>
          clear HC11
          try clear c1
          try clear q1
          try clear c2
          try clear p2
          try clear q2
          try clear hx2
          try clear hf2
          try clear c4
          try clear c4b0
          try clear c4b1
          try clear c4b2
          try clear c5
          try clear c8
          try clear c8b0
          try clear c9
          try clear c9b0
          try clear c10
          try clear c10b0
          try clear c15
          try clear c15b0
          try clear c15b1
          try clear c15b2
          try clear c16
          try clear c16b0
          try clear c16b1
          try clear hcz13_0
          try clear hcz13_1
          try clear hcz13_2
          try clear hcz17_0
          try clear hcz17_1
          try clear hcz17_2
          try clear hcz18_0
          try clear hcz18_1
          try clear hcz18_2
          try clear hcz19_0
          try clear hcz19_1
          try clear hcz19_2
          try clear hfz13_0
          try clear hfz13_1
          try clear hfz13_2
          try clear hfz17_0
          try clear hfz17_1
          try clear hfz17_2
          try clear hfz18_0
          try clear hfz18_1
          try clear hfz18_2
          try clear hfz19_0
          try clear hfz19_1
          try clear hfz19_2
          try clear hx221_0
          try clear hx221_1
          try clear hx221_2
          try clear p2
          try clear p221
          try clear q221
          obtain ⟨kq, x24_10, rfl, HA, HJ10, HO_6, BK222, HB⟩ := hcut
          cases kq with
          | zero => exact absurd HA.out (by simp [impl_ApplyPatch.j2])
          | succ kj10 =>
           have H := HA.out
           clear HA
           simp only [impl_ApplyPatch.j2] at H
           by_cases c20 : x24_10 = true
           ·subst c20
            have H1 : (if x6_2.length + ((rd_T51 l1 x20_2).f2).length < 140737488355328 then ((some (x6_2 ++ ((rd_T51 l1 x20_2).f2) : List Int)).bind fun y223 => (if (y223.length : Int) > 400 then (some (([] : List Int), false)) else (impl_ApplyPatch.l0 kj10 l0 y223 l1 (l1.length : Int) (wrap64 (x20_2 + 1))))) else (none)) = some (r1, r2) := by rw [if_pos rfl] at H; exact H
            clear H
            have H := H1
            clear H1
            by_cases c21 : x6_2.length + ((rd_T51 l1 x20_2).f2).length < 140737488355328
            ·rw [if_pos c21] at H
             have LMc21 := Aside0.mk c21
             clear c21
             obtain ⟨y223, hy223⟩ : ∃ y_ : List Int, y_ = (x6_2 ++ ((rd_T51 l1 x20_2).f2)) := ⟨_, rfl⟩
             replace H : (if (y223.length : Int) > 400 then (some (([] : List Int), false)) else (impl_ApplyPatch.l0 kj10 l0 y223 l1 (l1.length : Int) (wrap64 (x20_2 + 1)))) = some (r1, r2) := by first | (rw [hy223]; with_reducible exact H) | (have H2_ := (Option.bind_some _ _).symm.trans H; rw [hy223]; with_reducible exact H2_) | (have H2_ := (Option.bind_some _ _).symm.trans H; with_reducible exact H2_) | with_reducible exact H | (rw [hy223]; exact H) | exact H
             have Ny223 := Aside0.mk hy223
             clear hy223
             by_cases c22 : (y223.length : Int) > 400
             ·rw [if_pos c22] at H
              have c22b0 : decide (400 < (y223.length : Int)) = true := decide_eq_true c22
              have c22b1 : decide (400 < y223.length) = true := decide_eq_true (by omega)
              clear c22
              simp only [Option.some.injEq, Prod.mk.injEq] at H
              obtain ⟨rfl, rfl⟩ := H
              have hcz23_0 := cz BK222 0 (.int .i64 ((rd_T51 l1 x20_2).f0))
              have hcz23_1 := cz BK222 1 (.int .i64 ((rd_T51 l1 x20_2).f1))
              have hcz23_2 := cz BK222 2 (.slice A221_2 ((rd_T51 l1 x20_2).f2).length c221_2)
              have hfz23_0 := fz BK222 0
              have hfz23_1 := fz BK222 1
              have hfz23_2 := fz BK222 2
              go_wp2_with (first | ((with_reducible refine gate_builtin (b := .append) (xs := #[.tmp 39, .tmp 41]) rfl ?_); (try (refine gate_guard (by rfl) ?_; dsimp only)); at_builtin; refine Kd.R_append_rows (Kd.int .u8) (w0 := w) w.heap.size rfl (.tmp 39) (.tmp 41) 22 5 (.int .u8 0) 1 rfl Try.underlying22 info5 rfl (by decide) (by omega) u6 x6_2 ((rd_T51 l1 x20_2).f2) _ _ _ (fun _ => True) (fun _ => False) rfl rfl ?aO ?aR (fun _ _ h => h) (fun _ h => h.elim) ?aF ?aB ?aS ?aL ?_; (case aR => repeat (first | exact (Kd.C_below HR221_2.out HB.out) | (with_reducible refine Kd.C_alloc ?_ _) | (with_reducible refine Kd.C_drewN ?_ _) | (with_reducible refine Kd.C_drew ?_))); (case aB => exact (lV1 GE222)); (case aF => exact (fun _ _ => trivial)); (case aO => exact (rU HO_6.out)); (case aS => exact (below_size (lV1 GE222))); (case aL => have := LMc21.out; omega); intro v224 w24 ho hb hg hat; rw [← Ny223.out] at ho; replace BK222 := Aside0.mk (blk_grown (g := gb222) (o := .cells #[.int .i64 ((rd_T51 l1 x20_2).f0), .int .i64 ((rd_T51 l1 x20_2).f1), .slice A221_2 ((rd_T51 l1 x20_2).f2).length c221_2] 51 (0, 0)) (bV BK222) hg (Kd.R_ne HO_6.out BK222.out (by decide))); replace HB := Aside0.mk hb; have HO225 := Aside0.mk ho; clear HO_6; clear ho hb hg hat; obtain ⟨Ao25, co25, eo25⟩ := Kd.R_slice HO225.out; subst eo25))
              go_ret2
              exact ⟨_, eE, by first | exact Kd.R_nil _ _ _ _ _ | exact Kd.N_nil _ _ _ _ _ | exact Kd.V_nil _ _ _ _ _ | exact Kd.Q_nil _ _ _ _ _ | exact Kd.S_nil _ _ _ _ _, lV1 GE222⟩
             ·rw [if_neg c22] at H
              have c22b0 : decide (400 < (y223.length : Int)) = false := decide_eq_false c22
              have c22b1 : decide (400 < y223.length) = false := decide_eq_false (by omega)
              clear c22
              have H' := Aside0.mk H
              clear H
              have hcz26_0 := cz BK222 0 (.int .i64 ((rd_T51 l1 x20_2).f0))
              have hcz26_1 := cz BK222 1 (.int .i64 ((rd_T51 l1 x20_2).f1))
              have hcz26_2 := cz BK222 2 (.slice A221_2 ((rd_T51 l1 x20_2).f2).length c221_2)
              have hfz26_0 := fz BK222 0
              have hfz26_1 := fz BK222 1
              have hfz26_2 := fz BK222 2
              go_wp2_with (first | ((with_reducible refine gate_builtin (b := .append) (xs := #[.tmp 39, .tmp 41]) rfl ?_); (try (refine gate_guard (by rfl) ?_; dsimp only)); at_builtin; refine Kd.R_append_rows (Kd.int .u8) (w0 := w) w.heap.size rfl (.tmp 39) (.tmp 41) 22 5 (.int .u8 0) 1 rfl Try.underlying22 info5 rfl (by decide) (by omega) u6 x6_2 ((rd_T51 l1 x20_2).f2) _ _ _ (fun _ => True) (fun _ => False) rfl rfl ?aO ?aR (fun _ _ h => h) (fun _ h => h.elim) ?aF ?aB ?aS ?aL ?_; (case aR => repeat (first | exact (Kd.C_below HR221_2.out HB.out) | (with_reducible refine Kd.C_alloc ?_ _) | (with_reducible refine Kd.C_drewN ?_ _) | (with_reducible refine Kd.C_drew ?_))); (case aB => exact (lV1 GE222)); (case aF => exact (fun _ _ => trivial)); (case aO => exact (rU HO_6.out)); (case aS => exact (below_size (lV1 GE222))); (case aL => have := LMc21.out; omega); intro v224 w27 ho hb hg hat; rw [← Ny223.out] at ho; replace BK222 := Aside0.mk (blk_grown (g := gb222) (o := .cells #[.int .i64 ((rd_T51 l1 x20_2).f0), .int .i64 ((rd_T51 l1 x20_2).f1), .slice A221_2 ((rd_T51 l1 x20_2).f2).length c221_2] 51 (0, 0)) (bV BK222) hg (Kd.R_ne HO_6.out BK222.out (by decide))); replace HB := Aside0.mk hb; have HO225 := Aside0.mk ho; clear HO_6; clear ho hb hg hat; obtain ⟨Ao28, co28, eo28⟩ := Kd.R_slice HO225.out; subst eo28))
              go_roundg kj10
              case measure => have := HJ2.out; have := HK2.out; have := HJ10.out; omega
              case rel => exact ⟨(y223), (wrap64 (x20_2 + 1)), tE, H', ⟨by have := HJ2.out; have := HK2.out; have := HJ10.out; omega⟩, ⟨by (with_reducible repeat (first | apply Kd.R_alloc | apply Kd.R_drewN | apply Kd.R_drew)); exact HO225.out⟩, ⟨by repeat (first | (with_reducible first | exact HB.out | apply below_alloc | apply pw_below_drewN | apply below_drew1 | refine below_set ?_ GE222.out) | exact HB.out)⟩⟩
            ·rw [if_neg c21] at H
             exact absurd H (by simp)
           ·replace c20 := Bool.eq_false_iff.mpr c20
            subst c20
            have H1 : (if (((rd_T51 l1 x20_2).f2).length : Int) = 0 then ((impl_inRange.f ((rd_T51 l1 x20_2).f0) 0 (l0.length : Int)).bind fun t226 => (if t226 = true then ((impl_inRange.f ((rd_T51 l1 x20_2).f1) 1 (wrap64 ((l0.length : Int) - ((rd_T51 l1 x20_2).f0)))).bind fun t227 => (impl_ApplyPatch.j3 kj10 l0 x6_2 l1 (l1.length : Int) x20_2 t227 ((rd_T51 l1 x20_2).f0) ((rd_T51 l1 x20_2).f1) ((rd_T51 l1 x20_2).f2))) else (impl_ApplyPatch.j3 kj10 l0 x6_2 l1 (l1.length : Int) x20_2 false ((rd_T51 l1 x20_2).f0) ((rd_T51 l1 x20_2).f1) ((rd_T51 l1 x20_2).f2)))) else (impl_ApplyPatch.j3 kj10 l0 x6_2 l1 (l1.length : Int) x20_2 false ((rd_T51 l1 x20_2).f0) ((rd_T51 l1 x20_2).f1) ((rd_T51 l1 x20_2).f2))) = some (r1, r2) := by rw [if_neg (show ¬ (false = true) by decide)] at H; exact H
            clear H
            have H := H1
            clear H1
            have HC29 := Aside0.mk H
            clear H
            go_upto_region 10 with (fail)
            go_cut [43] (fun v43 wc => ∃ (kq : Nat) (x43_28 : Bool), v43 = .bool x43_28 ∧ Aside0 (impl_ApplyPatch.j3 kq l0 x6_2 l1 (l1.length : Int) x20_2 x43_28 ((rd_T51 l1 x20_2).f0) ((rd_T51 l1 x20_2).f1) ((rd_T51 l1 x20_2).f2) = some (r1, r2)) ∧ Aside0 (kq ≤ kj10) ∧ Aside0 (Kd.R (Kd.int .u8) 5 wc w.heap.size (fun _ => True) u6 x6_2) ∧ Aside0 (wc.heap[gb222]? = some (.cells #[.int .i64 ((rd_T51 l1 x20_2).f0), .int .i64 ((rd_T51 l1 x20_2).f1), (.slice A221_2 ((rd_T51 l1 x20_2).f2).length c221_2)] 51 (0, 0))) ∧ Aside0 (Below w.heap.size w wc))
            case first =>
             have H := HC29.out
             clear HC29
             by_cases c30 : (((rd_T51 l1 x20_2).f2).length : Int) = 0
             ·rw [if_pos c30] at H
              have c30b0 : ((((rd_T51 l1 x20_2).f2).length : Int) == 0) = true := beq_iff_eq.mpr c30
              have c30b1 : ((((rd_T51 l1 x20_2).f2).length : Int) != 0) = false := bne_eq_false_iff_eq.mpr c30
              clear c30
              (first | rw [c30b0] | (simp only [i64_w, i32_w]; rw [c30b0]) | (rw [c30b2]; simp only [Bool.not_false, Bool.not_true]) | skip)
              replace H := Option.bind_eq_some_iff.mp H
              obtain ⟨t226, A310, H⟩ := H
              replace H : (if t226 = true then ((impl_inRange.f ((rd_T51 l1 x20_2).f1) 1 (wrap64 ((l0.length : Int) - ((rd_T51 l1 x20_2).f0)))).bind fun t227 => (impl_ApplyPatch.j3 kj10 l0 x6_2 l1 (l1.length : Int) x20_2 t227 ((rd_T51 l1 x20_2).f0) ((rd_T51 l1 x20_2).f1) ((rd_T51 l1 x20_2).f2))) else (impl_ApplyPatch.j3 kj10 l0 x6_2 l1 (l1.length : Int) x20_2 false ((rd_T51 l1 x20_2).f0) ((rd_T51 l1 x20_2).f1) ((rd_T51 l1 x20_2).f2))) = some (r1, r2) := H
              have A31 := Aside0.mk A310
              clear A310
              by_cases c32 : t226 = true
              ·subst c32
               have H1 : ((impl_inRange.f ((rd_T51 l1 x20_2).f1) 1 (wrap64 ((l0.length : Int) - ((rd_T51 l1 x20_2).f0)))).bind fun t227 => (impl_ApplyPatch.j3 kj10 l0 x6_2 l1 (l1.length : Int) x20_2 t227 ((rd_T51 l1 x20_2).f0) ((rd_T51 l1 x20_2).f1) ((rd_T51 l1 x20_2).f2))) = some (r1, r2) := by rw [if_pos rfl] at H; exact H
               clear H
               have H := H1
               clear H1
               replace H := Option.bind_eq_some_iff.mp H
               obtain ⟨t227, A330, H⟩ := H
               replace H : (impl_ApplyPatch.j3 kj10 l0 x6_2 l1 (l1.length : Int) x20_2 t227 ((rd_T51 l1 x20_2).f0) ((rd_T51 l1 x20_2).f1) ((rd_T51 l1 x20_2).f2)) = some (r1, r2) := H
               have A33 := Aside0.mk A330
               clear A330
               have H' := Aside0.mk H
               clear H
               have hcz34_0 := cz BK222 0 (.int .i64 ((rd_T51 l1 x20_2).f0))
               have hcz34_1 := cz BK222 1 (.int .i64 ((rd_T51 l1 x20_2).f1))
               have hcz34_2 := cz BK222 2 (.slice A221_2 ((rd_T51 l1 x20_2).f2).length c221_2)
               have hfz34_0 := fz BK222 0
               have hfz34_1 := fz BK222 1
               have hfz34_2 := fz BK222 2
               go_wp2_with (first | (go_at_call 17; (with_reducible refine (impl_inRange.calls ((rd_T51 l1 x20_2).f0) 0 (l0.length : Int) true _ A31.out).mono ?_); rintro e w' ⟨rfl, ⟨nd, rfl⟩⟩) | (go_at_call 17; (with_reducible refine (impl_inRange.calls ((rd_T51 l1 x20_2).f1) 1 (wrap64 ((l0.length : Int) - ((rd_T51 l1 x20_2).f0))) t227 _ A33.out).mono ?_); rintro e w' ⟨rfl, ⟨nd, rfl⟩⟩))
               go_meet
               case rel => exact ⟨_, (t227), tE, H', ⟨by have := HJ2.out; have := HK2.out; have := HJ10.out; first | omega | exact Nat.le_refl _⟩, ⟨by (with_reducible repeat (first | apply Kd.R_alloc | apply Kd.R_drewN | apply Kd.R_drew)); exact HO_6.out⟩, ⟨by refine bU ?_; exact BK222.out⟩, ⟨by repeat (first | (with_reducible first | exact HB.out | apply below_alloc | apply pw_below_drewN | apply below_drew1 | refine below_set ?_ GE222.out) | exact HB.out)⟩⟩
              ·replace c32 := Bool.eq_false_iff.mpr c32
               subst c32
               have H1 : (impl_ApplyPatch.j3 kj10 l0 x6_2 l1 (l1.length : Int) x20_2 false ((rd_T51 l1 x20_2).f0) ((rd_T51 l1 x20_2).f1) ((rd_T51 l1 x20_2).f2)) = some (r1, r2) := by rw [if_neg (show ¬ (false = true) by decide)] at H; exact H
               clear H
               have H := H1
               clear H1
               have H' := Aside0.mk H
               clear H
               have hcz35_0 := cz BK222 0 (.int .i64 ((rd_T51 l1 x20_2).f0))
               have hcz35_1 := cz BK222 1 (.int .i64 ((rd_T51 l1 x20_2).f1))
               have hcz35_2 := cz BK222 2 (.slice A221_2 ((rd_T51 l1 x20_2).f2).length c221_2)
               have hfz35_0 := fz BK222 0
               have hfz35_1 := fz BK222 1
               have hfz35_2 := fz BK222 2
               go_wp2_with (first | (go_at_call 17; (with_reducible refine (impl_inRange.calls ((rd_T51 l1 x20_2).f0) 0 (l0.length : Int) false _ A31.out).mono ?_); rintro e w' ⟨rfl, ⟨nd, rfl⟩⟩))
               go_meet
               case rel => exact ⟨_, (false), tE, H', ⟨by have := HJ2.out; have := HK2.out; have := HJ10.out; first | omega | exact Nat.le_refl _⟩, ⟨by (with_reducible repeat (first | apply Kd.R_alloc | apply Kd.R_drewN | apply Kd.R_drew)); exact HO_6.out⟩, ⟨by refine bU ?_; exact BK222.out⟩, ⟨by repeat (first | (with_reducible first | exact HB.out | apply below_alloc | apply pw_below_drewN | apply below_drew1 | refine below_set ?_ GE222.out) | exact HB.out)⟩⟩
             ·rw [if_neg c30] at H
              have c30b0 : ((((rd_T51 l1 x20_2).f2).length : Int) == 0) = false := beq_eq_false_iff_ne.mpr c30
              have c30b1 : ((((rd_T51 l1 x20_2).f2).length : Int) != 0) = true := bne_iff_ne.mpr c30
              have c30b2 : ¬ (((rd_T51 l1 x20_2).f2) = []) := fun h_ => c30 (by rw [h_]; rfl)
              (first | rw [c30b0] | (simp only [i64_w, i32_w]; rw [c30b0]) | (rw [c30b2]; simp only [Bool.not_false, Bool.not_true]) | skip)
              have H' := Aside0.mk H
              clear H
              have hcz36_0 := cz BK222 0 (.int .i64 ((rd_T51 l1 x20_2).f0))
              have hcz36_1 := cz BK222 1 (.int .i64 ((rd_T51 l1 x20_2).f1))
              have hcz36_2 := cz BK222 2 (.slice A221_2 ((rd_T51 l1 x20_2).f2).length c221_2)
              have hfz36_0 := fz BK222 0
              have hfz36_1 := fz BK222 1
              have hfz36_2 := fz BK222 2
              go_wp2
              go_meet
              case rel => exact ⟨_, (false), tE, H', ⟨by have := HJ2.out; have := HK2.out; have := HJ10.out; first | omega | exact Nat.le_refl _⟩, ⟨by (with_reducible repeat (first | apply Kd.R_alloc | apply Kd.R_drewN | apply Kd.R_drew)); exact HO_6.out⟩, ⟨by refine bU ?_; exact BK222.out⟩, ⟨by repeat (first | (with_reducible first | exact HB.out | apply below_alloc | apply pw_below_drewN | apply below_drew1 | refine below_set ?_ GE222.out) | exact HB.out)⟩⟩
            case rest =>
             clear HC29
             try clear c1
             try clear q1
             try clear c2
             try clear p2
             try clear q2
             try clear hx2
             try clear hf2
             try clear c3
             try clear c4
             try clear c4b0
             try clear c4b1
             try clear c4b2
             try clear c5
             try clear p6
             try clear c8
             try clear c8b0
             try clear c9
             try clear c9b0
             try clear c10
             try clear c10b0
             try clear c15
             try clear c15b0
             try clear c15b1
             try clear c15b2
             try clear c16
             try clear c16b0
             try clear c16b1
             try clear c20
             try clear c21
             try clear c22
             try clear c22b0
             try clear c22b1
             try clear p22
             try clear q22
             try clear hx22
             try clear c30
             try clear c30b0
             try clear c30b1
             try clear c30b2
             try clear c32
             try clear hcz13_0
             try clear hcz13_1
             try clear hcz13_2
             try clear hcz17_0
             try clear hcz17_1
             try clear hcz17_2
             try clear hcz18_0
             try clear hcz18_1
             try clear hcz18_2
             try clear hcz19_0
             try clear hcz19_1
             try clear hcz19_2
             try clear hcz23_0
             try clear hcz23_1
             try clear hcz23_2
             try clear hcz26_0
             try clear hcz26_1
             try clear hcz26_2
             try clear hcz34_0
             try clear hcz34_1
             try clear hcz34_2
             try clear hcz35_0
             try clear hcz35_1
             try clear hcz35_2
             try clear hcz36_0
             try clear hcz36_1
             try clear hcz36_2
             try clear hfz13_0
             try clear hfz13_1
             try clear hfz13_2
             try clear hfz17_0
             try clear hfz17_1
             try clear hfz17_2
             try clear hfz18_0
             try clear hfz18_1
             try clear hfz18_2
             try clear hfz19_0
             try clear hfz19_1
             try clear hfz19_2
             try clear hfz23_0
             try clear hfz23_1
             try clear hfz23_2
             try clear hfz26_0
             try clear hfz26_1
             try clear hfz26_2
             try clear hfz34_0
             try clear hfz34_1
             try clear hfz34_2
             try clear hfz35_0
             try clear hfz35_1
             try clear hfz35_2
             try clear hfz36_0
             try clear hfz36_1
             try clear hfz36_2
             try clear hx221_0
             try clear hx221_1
             try clear hx221_2
             try clear p2
             try clear p221
             try clear q1
             try clear q2
             try clear q221
             obtain ⟨kq, x43_28, rfl, HA, HJ28, HO_6, BK222, HB⟩ := hcut
             cases kq with
             | zero => exact absurd HA.out (by simp [impl_ApplyPatch.j3])
             | succ kj28 =>
              have H := HA.out
              clear HA
              simp only [impl_ApplyPatch.j3] at H
              by_cases c37 : x43_28 = true
              ·subst c37
               have H1 : (if 0 ≤ ((rd_T51 l1 x20_2).f0) then (if ((rd_T51 l1 x20_2).f0) ≤ (wrap64 (((rd_T51 l1 x20_2).f0) + ((rd_T51 l1 x20_2).f1))) then (if (wrap64 (((rd_T51 l1 x20_2).f0) + ((rd_T51 l1 x20_2).f1))) ≤ (l0.length : Int) then (if x6_2.length + ((l0.take ((wrap64 (((rd_T51 l1 x20_2).f0) + ((rd_T51 l1 x20_2).f1))) : Int).toNat).drop (((rd_T51 l1 x20_2).f0) : Int).toNat).length < 140737488355328 then ((some (x6_2 ++ ((l0.take ((wrap64 (((rd_T51 l1 x20_2).f0) + ((rd_T51 l1 x20_2).f1))) : Int).toNat).drop (((rd_T51 l1 x20_2).f0) : Int).toNat) : List Int)).bind fun y229 => (if (y229.length : Int) > 400 then (some (([] : List Int), false)) else (impl_ApplyPatch.l0 kj28 l0 y229 l1 (l1.length : Int) (wrap64 (x20_2 + 1))))) else (none)) else (none)) else (none)) else (none)) = some (r1, r2) := by rw [if_pos rfl] at H; exact H
               clear H
               have H := H1
               clear H1
               by_cases c38 : 0 ≤ ((rd_T51 l1 x20_2).f0)
               ·rw [if_pos c38] at H
                have c38b0 := eq_true c38
                have c38b1 : decide (0 ≤ ((rd_T51 l1 x20_2).f0)) = true := decide_eq_true c38
                clear c38
                by_cases c39 : ((rd_T51 l1 x20_2).f0) ≤ (wrap64 (((rd_T51 l1 x20_2).f0) + ((rd_T51 l1 x20_2).f1)))
                ·rw [if_pos c39] at H
                 have c39b0 := eq_true c39
                 have c39b1 : decide (((rd_T51 l1 x20_2).f0) ≤ (wrap64 (((rd_T51 l1 x20_2).f0) + ((rd_T51 l1 x20_2).f1)))) = true := decide_eq_true c39
                 by_cases c40 : (wrap64 (((rd_T51 l1 x20_2).f0) + ((rd_T51 l1 x20_2).f1))) ≤ (l0.length : Int)
                 ·rw [if_pos c40] at H
                  have c40b0 := eq_true c40
                  have c40b1 : decide ((wrap64 (((rd_T51 l1 x20_2).f0) + ((rd_T51 l1 x20_2).f1))) ≤ (l0.length : Int)) = true := decide_eq_true c40
                  by_cases c41 : x6_2.length + ((l0.take ((wrap64 (((rd_T51 l1 x20_2).f0) + ((rd_T51 l1 x20_2).f1))) : Int).toNat).drop (((rd_T51 l1 x20_2).f0) : Int).toNat).length < 140737488355328
                  ·rw [if_pos c41] at H
                   have LMc41 := Aside0.mk c41
                   clear c41
                   obtain ⟨y229, hy229⟩ : ∃ y_ : List Int, y_ = (x6_2 ++ ((l0.take ((wrap64 (((rd_T51 l1 x20_2).f0) + ((rd_T51 l1 x20_2).f1))) : Int).toNat).drop (((rd_T51 l1 x20_2).f0) : Int).toNat)) := ⟨_, rfl⟩
                   replace H : (if (y229.length : Int) > 400 then (some (([] : List Int), false)) else (impl_ApplyPatch.l0 kj28 l0 y229 l1 (l1.length : Int) (wrap64 (x20_2 + 1)))) = some (r1, r2) := by first | (rw [hy229]; with_reducible exact H) | (have H2_ := (Option.bind_some _ _).symm.trans H; rw [hy229]; with_reducible exact H2_) | (have H2_ := (Option.bind_some _ _).symm.trans H; with_reducible exact H2_) | with_reducible exact H | (rw [hy229]; exact H) | exact H
                   have Ny229 := Aside0.mk hy229
                   clear hy229
                   by_cases c42 : (y229.length : Int) > 400
                   ·rw [if_pos c42] at H
                    have c42b0 : decide (400 < (y229.length : Int)) = true := decide_eq_true c42
                    have c42b1 : decide (400 < y229.length) = true := decide_eq_true (by omega)
                    clear c42
                    simp only [Option.some.injEq, Prod.mk.injEq] at H
                    obtain ⟨rfl, rfl⟩ := H
                    have hcz43_0 := cz BK222 0 (.int .i64 ((rd_T51 l1 x20_2).f0))
                    have hcz43_1 := cz BK222 1 (.int .i64 ((rd_T51 l1 x20_2).f1))
                    have hcz43_2 := cz BK222 2 (.slice A221_2 ((rd_T51 l1 x20_2).f2).length c221_2)
                    have hfz43_0 := fz BK222 0
                    have hfz43_1 := fz BK222 1
                    have hfz43_2 := fz BK222 2
                    obtain ⟨i044, hi044, _, hsz44, _⟩ := info_parts info5
                    obtain ⟨A44, hcut44, hA44, hC44⟩ := print_mid_of (P := Try.prog) (Value.int .u8) 0 22 5 .i64 .i64 Try.underlying22 hi044 hsz44 A0 c0 l0 ((rd_T51 l1 x20_2).f0) (wrap64 (((rd_T51 l1 x20_2).f0) + ((rd_T51 l1 x20_2).f1))) (of_decide_eq_true hE) (by first | omega | exact of_decide_eq_true hE) (of_decide_eq_true hE) HC0.out
                    have HR228 := Aside0.mk (Kd.C_of_reads (h1 := fun _ => rfl) (hA44 _ (Kd.reads_of_C HR0.out)))
                    have HC228 := Aside0.mk hC44
                    (try clear hA44)
                    (try clear hC44)
                    (try clear hi044)
                    (try clear hsz44)
                    go_wp2_with (first | ((with_reducible refine gate_builtin (b := .append) (xs := #[.tmp 65, .tmp 74]) rfl ?_); (try (refine gate_guard (by rfl) ?_; dsimp only)); at_builtin; refine Kd.R_append_rows (Kd.int .u8) (w0 := w) w.heap.size rfl (.tmp 65) (.tmp 74) 22 5 (.int .u8 0) 1 rfl Try.underlying22 info5 rfl (by decide) (by omega) u6 x6_2 ((l0.take ((wrap64 (((rd_T51 l1 x20_2).f0) + ((rd_T51 l1 x20_2).f1))) : Int).toNat).drop (((rd_T51 l1 x20_2).f0) : Int).toNat) _ _ _ (fun _ => True) (fun _ => False) rfl rfl ?aO ?aR (fun _ _ h => h) (fun _ h => h.elim) ?aF ?aB ?aS ?aL ?_; (case aR => first | (rw [← show ((l0.take ((wrap64 (((rd_T51 l1 x20_2).f0) + ((rd_T51 l1 x20_2).f1))) : Int).toNat).drop (((rd_T51 l1 x20_2).f0) : Int).toNat).length = ((wrap64 (((rd_T51 l1 x20_2).f0) + ((rd_T51 l1 x20_2).f1))).toNat - ((rd_T51 l1 x20_2).f0).toNat) from (by rw [List.length_drop, List.length_take]; have h_ : ((wrap64 (((rd_T51 l1 x20_2).f0) + ((rd_T51 l1 x20_2).f1))) : Int) ≤ (l0.length : Int) := of_decide_eq_true hE; omega)]; repeat (first | exact (Kd.C_below HR228.out HB.out) | (with_reducible refine Kd.C_alloc ?_ _) | (with_reducible refine Kd.C_drewN ?_ _) | (with_reducible refine Kd.C_drew ?_))) | (repeat (first | exact (Kd.C_below HR228.out HB.out) | (with_reducible refine Kd.C_alloc ?_ _) | (with_reducible refine Kd.C_drewN ?_ _) | (with_reducible refine Kd.C_drew ?_)))); (case aB => exact (lV1 GE222)); (case aF => exact (fun _ _ => trivial)); (case aO => exact (rU HO_6.out)); (case aS => exact (below_size (lV1 GE222))); (case aL => have := LMc41.out; have hlx_ := (show ((l0.take ((wrap64 (((rd_T51 l1 x20_2).f0) + ((rd_T51 l1 x20_2).f1))) : Int).toNat).drop (((rd_T51 l1 x20_2).f0) : Int).toNat).length = ((wrap64 (((rd_T51 l1 x20_2).f0) + ((rd_T51 l1 x20_2).f1))).toNat - ((rd_T51 l1 x20_2).f0).toNat) from (by rw [List.length_drop, List.length_take]; have h_ : ((wrap64 (((rd_T51 l1 x20_2).f0) + ((rd_T51 l1 x20_2).f1))) : Int) ≤ (l0.length : Int) := of_decide_eq_true hE; omega)); omega); intro v230 w45 ho hb hg hat; rw [← Ny229.out] at ho; replace BK222 := Aside0.mk (blk_grown (g := gb222) (o := .cells #[.int .i64 ((rd_T51 l1 x20_2).f0), .int .i64 ((rd_T51 l1 x20_2).f1), .slice A221_2 ((rd_T51 l1 x20_2).f2).length c221_2] 51 (0, 0)) (bV BK222) hg (Kd.R_ne HO_6.out BK222.out (by decide))); replace HB := Aside0.mk hb; have HO231 := Aside0.mk ho; clear HO_6; clear ho hb hg hat; obtain ⟨Ao46, co46, eo46⟩ := Kd.R_slice HO231.out; subst eo46))
                    go_ret2
                    exact ⟨_, eE, by first | exact Kd.R_nil _ _ _ _ _ | exact Kd.N_nil _ _ _ _ _ | exact Kd.V_nil _ _ _ _ _ | exact Kd.Q_nil _ _ _ _ _ | exact Kd.S_nil _ _ _ _ _, lV1 GE222⟩
                   ·rw [if_neg c42] at H
                    have c42b0 : decide (400 < (y229.length : Int)) = false := decide_eq_false c42
                    have c42b1 : decide (400 < y229.length) = false := decide_eq_false (by omega)
                    clear c42
                    have H' := Aside0.mk H
                    clear H
                    have hcz47_0 := cz BK222 0 (.int .i64 ((rd_T51 l1 x20_2).f0))
                    have hcz47_1 := cz BK222 1 (.int .i64 ((rd_T51 l1 x20_2).f1))
                    have hcz47_2 := cz BK222 2 (.slice A221_2 ((rd_T51 l1 x20_2).f2).length c221_2)
                    have hfz47_0 := fz BK222 0
                    have hfz47_1 := fz BK222 1
                    have hfz47_2 := fz BK222 2
                    obtain ⟨i048, hi048, _, hsz48, _⟩ := info_parts info5
                    obtain ⟨A48, hcut48, hA48, hC48⟩ := print_mid_of (P := Try.prog) (Value.int .u8) 0 22 5 .i64 .i64 Try.underlying22 hi048 hsz48 A0 c0 l0 ((rd_T51 l1 x20_2).f0) (wrap64 (((rd_T51 l1 x20_2).f0) + ((rd_T51 l1 x20_2).f1))) (of_decide_eq_true hE) (by first | omega | exact of_decide_eq_true hE) (of_decide_eq_true hE) HC0.out
                    have HR228 := Aside0.mk (Kd.C_of_reads (h1 := fun _ => rfl) (hA48 _ (Kd.reads_of_C HR0.out)))
                    have HC228 := Aside0.mk hC48
                    (try clear hA48)
                    (try clear hC48)
                    (try clear hi048)
                    (try clear hsz48)
                    go_wp2_with (first | ((with_reducible refine gate_builtin (b := .append) (xs := #[.tmp 65, .tmp 74]) rfl ?_); (try (refine gate_guard (by rfl) ?_; dsimp only)); at_builtin; refine Kd.R_append_rows (Kd.int .u8) (w0 := w) w.heap.size rfl (.tmp 65) (.tmp 74) 22 5 (.int .u8 0) 1 rfl Try.underlying22 info5 rfl (by decide) (by omega) u6 x6_2 ((l0.take ((wrap64 (((rd_T51 l1 x20_2).f0) + ((rd_T51 l1 x20_2).f1))) : Int).toNat).drop (((rd_T51 l1 x20_2).f0) : Int).toNat) _ _ _ (fun _ => True) (fun _ => False) rfl rfl ?aO ?aR (fun _ _ h => h) (fun _ h => h.elim) ?aF ?aB ?aS ?aL ?_; (case aR => first | (rw [← show ((l0.take ((wrap64 (((rd_T51 l1 x20_2).f0) + ((rd_T51 l1 x20_2).f1))) : Int).toNat).drop (((rd_T51 l1 x20_2).f0) : Int).toNat).length = ((wrap64 (((rd_T51 l1 x20_2).f0) + ((rd_T51 l1 x20_2).f1))).toNat - ((rd_T51 l1 x20_2).f0).toNat) from (by rw [List.length_drop, List.length_take]; have h_ : ((wrap64 (((rd_T51 l1 x20_2).f0) + ((rd_T51 l1 x20_2).f1))) : Int) ≤ (l0.length : Int) := of_decide_eq_true hE; omega)]; repeat (first | exact (Kd.C_below HR228.out HB.out) | (with_reducible refine Kd.C_alloc ?_ _) | (with_reducible refine Kd.C_drewN ?_ _) | (with_reducible refine Kd.C_drew ?_))) | (repeat (first | exact (Kd.C_below HR228.out HB.out) | (with_reducible refine Kd.C_alloc ?_ _) | (with_reducible refine Kd.C_drewN ?_ _) | (with_reducible refine Kd.C_drew ?_)))); (case aB => exact (lV1 GE222)); (case aF => exact (fun _ _ => trivial)); (case aO => exact (rU HO_6.out)); (case aS => exact (below_size (lV1 GE222))); (case aL => have := LMc41.out; have hlx_ := (show ((l0.take ((wrap64 (((rd_T51 l1 x20_2).f0) + ((rd_T51 l1 x20_2).f1))) : Int).toNat).drop (((rd_T51 l1 x20_2).f0) : Int).toNat).length = ((wrap64 (((rd_T51 l1 x20_2).f0) + ((rd_T51 l1 x20_2).f1))).toNat - ((rd_T51 l1 x20_2).f0).toNat) from (by rw [List.length_drop, List.length_take]; have h_ : ((wrap64 (((rd_T51 l1 x20_2).f0) + ((rd_T51 l1 x20_2).f1))) : Int) ≤ (l0.length : Int) := of_decide_eq_true hE; omega)); omega); intro v230 w49 ho hb hg hat; rw [← Ny229.out] at ho; replace BK222 := Aside0.mk (blk_grown (g := gb222) (o := .cells #[.int .i64 ((rd_T51 l1 x20_2).f0), .int .i64 ((rd_T51 l1 x20_2).f1), .slice A221_2 ((rd_T51 l1 x20_2).f2).length c221_2] 51 (0, 0)) (bV BK222) hg (Kd.R_ne HO_6.out BK222.out (by decide))); replace HB := Aside0.mk hb; have HO231 := Aside0.mk ho; clear HO_6; clear ho hb hg hat; obtain ⟨Ao50, co50, eo50⟩ := Kd.R_slice HO231.out; subst eo50))
                    go_roundg kj28
                    case measure => have := HJ2.out; have := HK2.out; have := HJ10.out; have := HJ28.out; omega
                    case rel => exact ⟨(y229), (wrap64 (x20_2 + 1)), tE, H', ⟨by have := HJ2.out; have := HK2.out; have := HJ10.out; have := HJ28.out; omega⟩, ⟨by (with_reducible repeat (first | apply Kd.R_alloc | apply Kd.R_drewN | apply Kd.R_drew)); exact HO231.out⟩, ⟨by repeat (first | (with_reducible first | exact HB.out | apply below_alloc | apply pw_below_drewN | apply below_drew1 | refine below_set ?_ GE222.out) | exact HB.out)⟩⟩
                  ·rw [if_neg c41] at H
                   exact absurd H (by simp)
                 ·rw [if_neg c40] at H
                  exact absurd H (by simp)
                ·rw [if_neg c39] at H
                 exact absurd H (by simp)
               ·rw [if_neg c38] at H
                exact absurd H (by simp)
              ·replace c37 := Bool.eq_false_iff.mpr c37
               subst c37
               have H1 : (some (([] : List Int), false)) = some (r1, r2) := by rw [if_neg (show ¬ (false = true) by decide)] at H; exact H
               clear H
               have H := H1
               clear H1
               simp only [Option.some.injEq, Prod.mk.injEq] at H
               obtain ⟨rfl, rfl⟩ := H
               go_wp2
               go_ret2
               exact ⟨_, eE, by first | exact Kd.R_nil _ _ _ _ _ | exact Kd.N_nil _ _ _ _ _ | exact Kd.V_nil _ _ _ _ _ | exact Kd.Q_nil _ _ _ _ _ | exact Kd.S_nil _ _ _ _ _, lV1 GE222⟩
        ·rw [if_neg c10] at H
         exact absurd H (by simp)
       ·rw [if_neg c9] at H
        exact absurd H (by simp)
      ·rw [if_neg c8] at H
       have c8b0 : decide (x20_2 < (l1.length : Int)) = false := decide_eq_false c8
       clear c8
       replace H := Option.bind_eq_some_iff.mp H
       obtain ⟨t218, A510, H⟩ := H
       replace H : (some (t218, true)) = some (r1, r2) := H
       have A51 := Aside0.mk A510
       clear A510
       simp only [Option.some.injEq, Prod.mk.injEq] at H
       obtain ⟨rfl, rfl⟩ := H
       obtain ⟨Ao52, co52, eo52⟩ := Kd.R_slice HO_6.out
       subst eo52
       go_wp2_with (first | ((with_reducible refine gate_callee (f := 18) rfl ?_); refine goesL_ (some 81) rfl rfl Try.func18 (by kernel_rfl) rfl #[.slice Ao52 x6_2.length co52] rfl aE ?_; (with_reducible refine (bytes_Clone.calls _ _ x6_2 t218 _ ?side1 ?side2 A51.out).mono ?_); (case side1 => exact cU (Kd.R_reads' HO_6.out).2.2); (case side2 => exact (Kd.R_reads' HO_6.out).2.1); rintro e w53 ⟨v219, rfl, ho0, hb⟩; refine ⟨_, rfl, ?_⟩; have HO220 := Aside0.mk (Kd.R_lower (Kd.R_new' ho0 (Kd.R_lt (rU HO_6.out))) (below_size (lU))); replace HO_6 := Aside0.mk (Kd.R_elder' (rU HO_6.out) (Kd.R_base ho0) hb); replace HB := bH (lU) hb; (try clear hb); (try clear ho0)))
       go_ret2
       exact ⟨_, eE, by (with_reducible repeat (first | apply Kd.R_alloc | apply Kd.R_drewN | apply Kd.R_drew)); exact Kd.R_mono HO220.out (fun _ hk => trivial), lU⟩
def laws_sameBytes.f (l0 : List Int) (l1 : List Int) : Option (Bool) := some ((strOfNums l0).toList == (strOfNums l1).toList)
set_option maxHeartbeats 8000000 in
set_option maxRecDepth 100000 in
theorem laws_sameBytes.calls (A0 : Option Addr) (c0 : Nat) (l0 : List Int) (A1 : Option Addr) (c1 : Nat) (l1 : List Int) (r : Bool) (w : World) (hr0 : Kd.C (Kd.int .u8) w A0 l0.length l0) (hc0 : l0.length ≤ c0) (hr1 : Kd.C (Kd.int .u8) w A1 l1.length l1) (hc1 : l1.length ≤ c1) (h : laws_sameBytes.f l0 l1 = some r) :
  Calls Try.prog 9 #[.slice A0 l0.length c0, .slice A1 l1.length c1] w fun e w' => e = .returned (.bool r) ∧ Drawn0 w w' := by
 have HR0 := Aside0.mk hr0
 have HC0 := Aside0.mk hc0
 clear hr0 hc0
 have HR1 := Aside0.mk hr1
 have HC1 := Aside0.mk hc1
 clear hr1 hc1
 have H : (some ((strOfNums l0).toList == (strOfNums l1).toList)) = some r := h
 clear h
 obtain rfl := Option.some.inj H
 have hcv3 := Kd.C_string (P := Try.prog) (A := A0) (c := c0) Try.underlying22 Try.underlying5 Try.underlying9 HR0.out
 have hcv4 := Kd.C_string (P := Try.prog) (A := A1) (c := c1) Try.underlying22 Try.underlying5 Try.underlying9 HR1.out
 go_enter Try.func9, Try.ntmps9
 go_wp2
 go_ret
 exact ⟨by first | rfl | (simp; done) | (simp [*]; done) | exact not_isEmpty _ | exact (not_isEmpty _).symm | exact is_empty _ | exact (is_empty _).symm, by repeat (first | exact Drawn0.refl _ | apply Drawn0.step)⟩
end Go.Proofs.Ytbamdbdcglohmaa.PFnPatched
namespace Go.Proofs.Ytbamdbdcglohmaa.PFnPatched
open Go.RowKit Go.Proofs.YtbamdbdcglohmaaW.PrintWords Go.Proofs.YtbamdbdcglohmaaW.PrintLast Go.Proofs.YtbamdbdcglohmaaW.PrintMore
attribute [local go_sem] max2_int min2_int max_two min_two max_three min_three max_four min_four   -- for this text's walks alone
set_option linter.unusedVariables false
set_option linter.unusedSimpArgs false
def laws_FnPatched.f (k : Nat) (l0 : List Int) : Option (Bool) := if (l0.length : Int) > 1048576 then (some true) else ((spec_DrawPatchOf.f k l0).bind fun bt232 => ((impl_PatchOf.f k bt232.1 bt232.2).bind fun bt238 => ((spec_PatchOf.f k bt232.1 bt232.2).bind fun bt242 => (if (bt238.2 != bt242.2) = true then (some false) else (if bt238.2 = true then ((impl_ApplyPatch.f k bt232.1 bt238.1).bind fun bt246 => (if bt246.2 = true then ((laws_sameBytes.f bt246.1 bt232.2).bind fun t250 => (some t250)) else (some false))) else (some ((bt238.1.length : Int) == 0)))))))
theorem laws_FnPatched.mono : ∀ a0 k, LeO (laws_FnPatched.f k a0) (laws_FnPatched.f (k + 1) a0) := by
 intro a0 k
 unfold laws_FnPatched.f
 repeat' first
   | (with_reducible exact impl_ApplyPatch.mono _ _ _)
   | (with_reducible exact impl_PatchOf.mono _ _ _)
   | (with_reducible exact spec_DrawPatchOf.mono _ _)
   | (with_reducible exact spec_PatchOf.mono _ _ _)
   | (with_reducible exact LeO.refl _)
   | (with_reducible exact LeO.none _)
   | (with_reducible refine LeO.ite ?_ ?_)
   | (with_reducible refine LeO.bind ?_ (fun _ => ?_))
   | exact impl_ApplyPatch.mono _ _ _
   | exact impl_PatchOf.mono _ _ _
   | exact spec_DrawPatchOf.mono _ _
   | exact spec_PatchOf.mono _ _ _
   | exact LeO.none _
   | refine LeO.ite ?_ ?_
   | refine LeO.bind ?_ (fun _ => ?_)
set_option maxHeartbeats 8000000 in
set_option maxRecDepth 100000 in
theorem laws_FnPatched.calls (k : Nat) (A0 : Option Addr) (c0 : Nat) (l0 : List Int) (r : Bool) (w : World) (hr0 : Kd.C (Kd.int .u8) w A0 l0.length l0) (hc0 : l0.length ≤ c0) (h : laws_FnPatched.f k l0 = some r) :
  Calls Try.prog 3 #[.slice A0 l0.length c0] w fun e w' => e = .returned (.bool r) ∧ Below w.heap.size w w' := by
 have HR0 := Aside0.mk hr0
 have HC0 := Aside0.mk hc0
 clear hr0 hc0
 have HB := Aside0.mk (Below.refl w.heap.size w)
 have H : (if (l0.length : Int) > 1048576 then (some true) else ((spec_DrawPatchOf.f k l0).bind fun bt232 => ((impl_PatchOf.f k bt232.1 bt232.2).bind fun bt238 => ((spec_PatchOf.f k bt232.1 bt232.2).bind fun bt242 => (if (bt238.2 != bt242.2) = true then (some false) else (if bt238.2 = true then ((impl_ApplyPatch.f k bt232.1 bt238.1).bind fun bt246 => (if bt246.2 = true then ((laws_sameBytes.f bt246.1 bt232.2).bind fun t250 => (some t250)) else (some false))) else (some ((bt238.1.length : Int) == 0)))))))) = some r := h
 clear h
 by_cases c2 : (l0.length : Int) > 1048576
 ·rw [if_pos c2] at H
  have c2b0 : decide (1048576 < (l0.length : Int)) = true := decide_eq_true c2
  have c2b1 : decide (1048576 < l0.length) = true := decide_eq_true (by omega)
  clear c2
  obtain rfl := Option.some.inj H
  go_enter Try.func3, Try.ntmps3
  go_wp2
  go_ret
  exact ⟨eE, lU⟩
 ·rw [if_neg c2] at H
  have c2b0 : decide (1048576 < (l0.length : Int)) = false := decide_eq_false c2
  have c2b1 : decide (1048576 < l0.length) = false := decide_eq_false (by omega)
  clear c2
  replace H := Option.bind_eq_some_iff.mp H
  obtain ⟨⟨t232, t233⟩, A30, H⟩ := H
  replace H : ((impl_PatchOf.f k t232 t233).bind fun bt238 => ((spec_PatchOf.f k t232 t233).bind fun bt242 => (if (bt238.2 != bt242.2) = true then (some false) else (if bt238.2 = true then ((impl_ApplyPatch.f k t232 bt238.1).bind fun bt246 => (if bt246.2 = true then ((laws_sameBytes.f bt246.1 t233).bind fun t250 => (some t250)) else (some false))) else (some ((bt238.1.length : Int) == 0)))))) = some r := H
  have A3 := Aside0.mk A30
  clear A30
  replace H := Option.bind_eq_some_iff.mp H
  obtain ⟨⟨t238, t239⟩, A40, H⟩ := H
  replace H : ((spec_PatchOf.f k t232 t233).bind fun bt242 => (if (t239 != bt242.2) = true then (some false) else (if t239 = true then ((impl_ApplyPatch.f k t232 t238).bind fun bt246 => (if bt246.2 = true then ((laws_sameBytes.f bt246.1 t233).bind fun t250 => (some t250)) else (some false))) else (some ((t238.length : Int) == 0))))) = some r := H
  have A4 := Aside0.mk A40
  clear A40
  replace H := Option.bind_eq_some_iff.mp H
  obtain ⟨⟨t242, t243⟩, A50, H⟩ := H
  replace H : (if (t239 != t243) = true then (some false) else (if t239 = true then ((impl_ApplyPatch.f k t232 t238).bind fun bt246 => (if bt246.2 = true then ((laws_sameBytes.f bt246.1 t233).bind fun t250 => (some t250)) else (some false))) else (some ((t238.length : Int) == 0)))) = some r := H
  have A5 := Aside0.mk A50
  clear A50
  by_cases c6 : (t239 != t243) = true
  ·rw [if_pos c6] at H
   have c6b0 : (t239 != t243) = true := c6
   (try (have c6b1 : decide (t239 = t243) = false := by simpa using c6))
   (try (have c6b2 : (t239 == t243) = false := by simpa using c6))
   (try (have c6b3 : ¬ (t239 = t243) := by simpa using c6))
   clear c6
   obtain rfl := Option.some.inj H
   go_enter Try.func3, Try.ntmps3
   go_wp2_with (first | ((with_reducible refine gate_callee (f := 5) rfl ?_); refine goesL_ (some 16) rfl rfl Try.func5 (by kernel_rfl) rfl #[.slice A0 l0.length c0] rfl aE ?_; (with_reducible refine (spec_DrawPatchOf.calls k _ _ l0 t232 t233 _ ?side1 ?side2 A3.out).mono ?_); (case side1 => repeat (first | exact HR0.out | (with_reducible refine Kd.C_alloc ?_ _) | (with_reducible refine Kd.C_drewN ?_ _) | (with_reducible refine Kd.C_drew ?_))); (case side2 => exact HC0.out); rintro e w7 ⟨v234, v236, rfl, ho0, ho1, hb⟩; refine ⟨_, rfl, ?_⟩; have HO235 := Aside0.mk (Kd.R_lower ho0 (below_size (lU))); have HO237 := Aside0.mk (Kd.R_lower ho1 (below_size (lU))); replace HB := bH (lU) hb; (try clear hb); (try clear ho0); (try clear ho1); obtain ⟨Ao8, co8, eo8⟩ := Kd.R_slice HO235.out; subst eo8; obtain ⟨Ao9, co9, eo9⟩ := Kd.R_slice HO237.out; subst eo9) | ((with_reducible refine gate_callee (f := 6) rfl ?_); refine goesL_ (some 22) rfl rfl Try.func6 (by kernel_rfl) rfl #[.slice Ao8 t232.length co8, .slice Ao9 t233.length co9] rfl aE ?_; (with_reducible refine (impl_PatchOf.calls k _ _ t232 _ _ t233 t238 t239 _ ?side1 ?side2 ?side3 ?side4 A4.out).mono ?_); (case side1 => exact cU (Kd.R_reads' HO235.out).2.2); (case side2 => exact (Kd.R_reads' HO235.out).2.1); (case side3 => exact cU (Kd.R_reads' HO237.out).2.2); (case side4 => exact (Kd.R_reads' HO237.out).2.1); rintro e w10 ⟨v240, rfl, ho0, hb⟩; refine ⟨_, rfl, ?_⟩; have HO241 := Aside0.mk (Kd.S_lower (Kd.S_new' (Kd.S_new' ho0 (Kd.R_lt (rU HO235.out))) (Kd.R_lt (rU HO237.out))) (below_size (lU))); replace HO235 := Aside0.mk (Kd.R_below (rU HO235.out) hb); replace HO237 := Aside0.mk (Kd.R_below (rU HO237.out) hb); replace HB := bH (lU) hb; (try clear hb); (try clear ho0)) | ((with_reducible refine gate_callee (f := 7) rfl ?_); refine goesL_ (some 28) rfl rfl Try.func7 (by kernel_rfl) rfl #[.slice Ao8 t232.length co8, .slice Ao9 t233.length co9] rfl aE ?_; (with_reducible refine (spec_PatchOf.calls k _ _ t232 _ _ t233 t242 t243 _ ?side1 ?side2 ?side3 ?side4 A5.out).mono ?_); (case side1 => exact cU (Kd.R_reads' HO235.out).2.2); (case side2 => exact (Kd.R_reads' HO235.out).2.1); (case side3 => exact cU (Kd.R_reads' HO237.out).2.2); (case side4 => exact (Kd.R_reads' HO237.out).2.1); rintro e w11 ⟨v244, rfl, ho0, hb⟩; refine ⟨_, rfl, ?_⟩; have HO245 := Aside0.mk (Kd.S_lower (Kd.S_new' (Kd.S_new' (Kd.S_new' ho0 (Kd.R_lt (rU HO235.out))) (Kd.R_lt (rU HO237.out))) (Kd.S_lt (by (with_reducible repeat (first | apply Kd.S_alloc | apply Kd.S_drewN | apply Kd.S_drew)); exact HO241.out))) (below_size (lU))); replace HO235 := Aside0.mk (Kd.R_below (rU HO235.out) hb); replace HO237 := Aside0.mk (Kd.R_below (rU HO237.out) hb); replace HO241 := Aside0.mk (Kd.S_elder' (by (with_reducible repeat (first | apply Kd.S_alloc | apply Kd.S_drewN | apply Kd.S_drew)); exact HO241.out) (Kd.S_base ho0) hb); replace HB := bH (lU) hb; (try clear hb); (try clear ho0)))
   go_ret
   exact ⟨eE, lU⟩
  ·rw [if_neg c6] at H
   have c6b0 : (t239 != t243) = false := by simpa using c6
   (try (have c6b1 : decide (t239 = t243) = true := by simpa using c6))
   (try (have c6b2 : (t239 == t243) = true := by simpa using c6))
   clear c6
   by_cases c12 : t239 = true
   ·subst c12
    have H1 : ((impl_ApplyPatch.f k t232 t238).bind fun bt246 => (if bt246.2 = true then ((laws_sameBytes.f bt246.1 t233).bind fun t250 => (some t250)) else (some false))) = some r := by rw [if_pos rfl] at H; exact H
    clear H
    have H := H1
    clear H1
    replace H := Option.bind_eq_some_iff.mp H
    obtain ⟨⟨t246, t247⟩, A130, H⟩ := H
    replace H : (if t247 = true then ((laws_sameBytes.f t246 t233).bind fun t250 => (some t250)) else (some false)) = some r := H
    have A13 := Aside0.mk A130
    clear A130
    by_cases c14 : t247 = true
    ·subst c14
     have H1 : ((laws_sameBytes.f t246 t233).bind fun t250 => (some t250)) = some r := by rw [if_pos rfl] at H; exact H
     clear H
     have H := H1
     clear H1
     replace H := Option.bind_eq_some_iff.mp H
     obtain ⟨t250, A150, H⟩ := H
     replace H : (some t250) = some r := H
     have A15 := Aside0.mk A150
     clear A150
     obtain rfl := Option.some.inj H
     go_enter Try.func3, Try.ntmps3
     go_wp2_with (first | ((with_reducible refine gate_callee (f := 5) rfl ?_); refine goesL_ (some 16) rfl rfl Try.func5 (by kernel_rfl) rfl #[.slice A0 l0.length c0] rfl aE ?_; (with_reducible refine (spec_DrawPatchOf.calls k _ _ l0 t232 t233 _ ?side1 ?side2 A3.out).mono ?_); (case side1 => repeat (first | exact HR0.out | (with_reducible refine Kd.C_alloc ?_ _) | (with_reducible refine Kd.C_drewN ?_ _) | (with_reducible refine Kd.C_drew ?_))); (case side2 => exact HC0.out); rintro e w16 ⟨v234, v236, rfl, ho0, ho1, hb⟩; refine ⟨_, rfl, ?_⟩; have HO235 := Aside0.mk (Kd.R_lower ho0 (below_size (lU))); have HO237 := Aside0.mk (Kd.R_lower ho1 (below_size (lU))); replace HB := bH (lU) hb; (try clear hb); (try clear ho0); (try clear ho1); obtain ⟨Ao17, co17, eo17⟩ := Kd.R_slice HO235.out; subst eo17; obtain ⟨Ao18, co18, eo18⟩ := Kd.R_slice HO237.out; subst eo18) | ((with_reducible refine gate_callee (f := 6) rfl ?_); refine goesL_ (some 22) rfl rfl Try.func6 (by kernel_rfl) rfl #[.slice Ao17 t232.length co17, .slice Ao18 t233.length co18] rfl aE ?_; (with_reducible refine (impl_PatchOf.calls k _ _ t232 _ _ t233 t238 true _ ?side1 ?side2 ?side3 ?side4 A4.out).mono ?_); (case side1 => exact cU (Kd.R_reads' HO235.out).2.2); (case side2 => exact (Kd.R_reads' HO235.out).2.1); (case side3 => exact cU (Kd.R_reads' HO237.out).2.2); (case side4 => exact (Kd.R_reads' HO237.out).2.1); rintro e w19 ⟨v240, rfl, ho0, hb⟩; refine ⟨_, rfl, ?_⟩; have HO241 := Aside0.mk (Kd.S_lower (Kd.S_new' (Kd.S_new' ho0 (Kd.R_lt (rU HO235.out))) (Kd.R_lt (rU HO237.out))) (below_size (lU))); replace HO235 := Aside0.mk (Kd.R_below (rU HO235.out) hb); replace HO237 := Aside0.mk (Kd.R_below (rU HO237.out) hb); replace HB := bH (lU) hb; (try clear hb); (try clear ho0)) | ((with_reducible refine gate_callee (f := 7) rfl ?_); refine goesL_ (some 28) rfl rfl Try.func7 (by kernel_rfl) rfl #[.slice Ao17 t232.length co17, .slice Ao18 t233.length co18] rfl aE ?_; (with_reducible refine (spec_PatchOf.calls k _ _ t232 _ _ t233 t242 t243 _ ?side1 ?side2 ?side3 ?side4 A5.out).mono ?_); (case side1 => exact cU (Kd.R_reads' HO235.out).2.2); (case side2 => exact (Kd.R_reads' HO235.out).2.1); (case side3 => exact cU (Kd.R_reads' HO237.out).2.2); (case side4 => exact (Kd.R_reads' HO237.out).2.1); rintro e w20 ⟨v244, rfl, ho0, hb⟩; refine ⟨_, rfl, ?_⟩; have HO245 := Aside0.mk (Kd.S_lower (Kd.S_new' (Kd.S_new' (Kd.S_new' ho0 (Kd.R_lt (rU HO235.out))) (Kd.R_lt (rU HO237.out))) (Kd.S_lt (by (with_reducible repeat (first | apply Kd.S_alloc | apply Kd.S_drewN | apply Kd.S_drew)); exact HO241.out))) (below_size (lU))); replace HO235 := Aside0.mk (Kd.R_below (rU HO235.out) hb); replace HO237 := Aside0.mk (Kd.R_below (rU HO237.out) hb); replace HO241 := Aside0.mk (Kd.S_elder' (by (with_reducible repeat (first | apply Kd.S_alloc | apply Kd.S_drewN | apply Kd.S_drew)); exact HO241.out) (Kd.S_base ho0) hb); replace HB := bH (lU) hb; (try clear hb); (try clear ho0); obtain ⟨Ao21, co21, eo21⟩ := Kd.S_slice HO241.out; subst eo21) | ((with_reducible refine gate_callee (f := 8) rfl ?_); refine goesL_ (some 42) rfl rfl Try.func8 (by kernel_rfl) rfl #[.slice Ao17 t232.length co17, .slice Ao21 t238.length co21] rfl aE ?_; (with_reducible refine (impl_ApplyPatch.calls k _ _ t232 _ _ t238 t246 true _ ?side1 ?side2 ?side3 ?side4 A13.out).mono ?_); (case side1 => exact cU (Kd.R_reads' HO235.out).2.2); (case side2 => exact (Kd.R_reads' HO235.out).2.1); (case side3 => exact cU (Kd.S_reads' HO241.out).2.2); (case side4 => exact (Kd.S_reads' HO241.out).2.1); rintro e w22 ⟨v248, rfl, ho0, hb⟩; refine ⟨_, rfl, ?_⟩; replace HO241 := Aside0.mk (Kd.S_elder' (by (with_reducible repeat (first | apply Kd.S_alloc | apply Kd.S_drewN | apply Kd.S_drew)); exact HO241.out) (Kd.R_base ho0) hb); replace HO245 := Aside0.mk (Kd.S_elder' (by (with_reducible repeat (first | apply Kd.S_alloc | apply Kd.S_drewN | apply Kd.S_drew)); exact HO245.out) (Kd.R_base ho0) hb); have HO249 := Aside0.mk (Kd.R_lower (Kd.R_new' (Kd.R_new' ho0 (Kd.R_lt (rU HO235.out))) (Kd.R_lt (rU HO237.out))) (below_size (lU))); replace HO235 := Aside0.mk (Kd.R_elder' (rU HO235.out) (Kd.R_base ho0) hb); replace HO237 := Aside0.mk (Kd.R_elder' (rU HO237.out) (Kd.R_base ho0) hb); replace HB := bH (lU) hb; (try clear hb); (try clear ho0); obtain ⟨Ao23, co23, eo23⟩ := Kd.R_slice HO249.out; subst eo23) | (go_at_call 9; (with_reducible refine (laws_sameBytes.calls _ _ t246 _ _ t233 t250 _ ?side1 ?side2 ?side3 ?side4 A15.out).mono ?_); (case side1 => exact cU (Kd.R_reads' HO249.out).2.2); (case side2 => exact (Kd.R_reads' HO249.out).2.1); (case side3 => exact cU (Kd.R_reads' HO237.out).2.2); (case side4 => exact (Kd.R_reads' HO237.out).2.1); rintro e w' ⟨rfl, ⟨nd, rfl⟩⟩))
     go_ret
     exact ⟨eE, lU⟩
    ·replace c14 := Bool.eq_false_iff.mpr c14
     subst c14
     have H1 : (some false) = some r := by rw [if_neg (show ¬ (false = true) by decide)] at H; exact H
     clear H
     have H := H1
     clear H1
     obtain rfl := Option.some.inj H
     go_enter Try.func3, Try.ntmps3
     go_wp2_with (first | ((with_reducible refine gate_callee (f := 5) rfl ?_); refine goesL_ (some 16) rfl rfl Try.func5 (by kernel_rfl) rfl #[.slice A0 l0.length c0] rfl aE ?_; (with_reducible refine (spec_DrawPatchOf.calls k _ _ l0 t232 t233 _ ?side1 ?side2 A3.out).mono ?_); (case side1 => repeat (first | exact HR0.out | (with_reducible refine Kd.C_alloc ?_ _) | (with_reducible refine Kd.C_drewN ?_ _) | (with_reducible refine Kd.C_drew ?_))); (case side2 => exact HC0.out); rintro e w24 ⟨v234, v236, rfl, ho0, ho1, hb⟩; refine ⟨_, rfl, ?_⟩; have HO235 := Aside0.mk (Kd.R_lower ho0 (below_size (lU))); have HO237 := Aside0.mk (Kd.R_lower ho1 (below_size (lU))); replace HB := bH (lU) hb; (try clear hb); (try clear ho0); (try clear ho1); obtain ⟨Ao25, co25, eo25⟩ := Kd.R_slice HO235.out; subst eo25; obtain ⟨Ao26, co26, eo26⟩ := Kd.R_slice HO237.out; subst eo26) | ((with_reducible refine gate_callee (f := 6) rfl ?_); refine goesL_ (some 22) rfl rfl Try.func6 (by kernel_rfl) rfl #[.slice Ao25 t232.length co25, .slice Ao26 t233.length co26] rfl aE ?_; (with_reducible refine (impl_PatchOf.calls k _ _ t232 _ _ t233 t238 true _ ?side1 ?side2 ?side3 ?side4 A4.out).mono ?_); (case side1 => exact cU (Kd.R_reads' HO235.out).2.2); (case side2 => exact (Kd.R_reads' HO235.out).2.1); (case side3 => exact cU (Kd.R_reads' HO237.out).2.2); (case side4 => exact (Kd.R_reads' HO237.out).2.1); rintro e w27 ⟨v240, rfl, ho0, hb⟩; refine ⟨_, rfl, ?_⟩; have HO241 := Aside0.mk (Kd.S_lower (Kd.S_new' (Kd.S_new' ho0 (Kd.R_lt (rU HO235.out))) (Kd.R_lt (rU HO237.out))) (below_size (lU))); replace HO235 := Aside0.mk (Kd.R_below (rU HO235.out) hb); replace HO237 := Aside0.mk (Kd.R_below (rU HO237.out) hb); replace HB := bH (lU) hb; (try clear hb); (try clear ho0)) | ((with_reducible refine gate_callee (f := 7) rfl ?_); refine goesL_ (some 28) rfl rfl Try.func7 (by kernel_rfl) rfl #[.slice Ao25 t232.length co25, .slice Ao26 t233.length co26] rfl aE ?_; (with_reducible refine (spec_PatchOf.calls k _ _ t232 _ _ t233 t242 t243 _ ?side1 ?side2 ?side3 ?side4 A5.out).mono ?_); (case side1 => exact cU (Kd.R_reads' HO235.out).2.2); (case side2 => exact (Kd.R_reads' HO235.out).2.1); (case side3 => exact cU (Kd.R_reads' HO237.out).2.2); (case side4 => exact (Kd.R_reads' HO237.out).2.1); rintro e w28 ⟨v244, rfl, ho0, hb⟩; refine ⟨_, rfl, ?_⟩; have HO245 := Aside0.mk (Kd.S_lower (Kd.S_new' (Kd.S_new' (Kd.S_new' ho0 (Kd.R_lt (rU HO235.out))) (Kd.R_lt (rU HO237.out))) (Kd.S_lt (by (with_reducible repeat (first | apply Kd.S_alloc | apply Kd.S_drewN | apply Kd.S_drew)); exact HO241.out))) (below_size (lU))); replace HO235 := Aside0.mk (Kd.R_below (rU HO235.out) hb); replace HO237 := Aside0.mk (Kd.R_below (rU HO237.out) hb); replace HO241 := Aside0.mk (Kd.S_elder' (by (with_reducible repeat (first | apply Kd.S_alloc | apply Kd.S_drewN | apply Kd.S_drew)); exact HO241.out) (Kd.S_base ho0) hb); replace HB := bH (lU) hb; (try clear hb); (try clear ho0); obtain ⟨Ao29, co29, eo29⟩ := Kd.S_slice HO241.out; subst eo29) | ((with_reducible refine gate_callee (f := 8) rfl ?_); refine goesL_ (some 42) rfl rfl Try.func8 (by kernel_rfl) rfl #[.slice Ao25 t232.length co25, .slice Ao29 t238.length co29] rfl aE ?_; (with_reducible refine (impl_ApplyPatch.calls k _ _ t232 _ _ t238 t246 false _ ?side1 ?side2 ?side3 ?side4 A13.out).mono ?_); (case side1 => exact cU (Kd.R_reads' HO235.out).2.2); (case side2 => exact (Kd.R_reads' HO235.out).2.1); (case side3 => exact cU (Kd.S_reads' HO241.out).2.2); (case side4 => exact (Kd.S_reads' HO241.out).2.1); rintro e w30 ⟨v248, rfl, ho0, hb⟩; refine ⟨_, rfl, ?_⟩; replace HO241 := Aside0.mk (Kd.S_elder' (by (with_reducible repeat (first | apply Kd.S_alloc | apply Kd.S_drewN | apply Kd.S_drew)); exact HO241.out) (Kd.R_base ho0) hb); replace HO245 := Aside0.mk (Kd.S_elder' (by (with_reducible repeat (first | apply Kd.S_alloc | apply Kd.S_drewN | apply Kd.S_drew)); exact HO245.out) (Kd.R_base ho0) hb); have HO249 := Aside0.mk (Kd.R_lower (Kd.R_new' (Kd.R_new' ho0 (Kd.R_lt (rU HO235.out))) (Kd.R_lt (rU HO237.out))) (below_size (lU))); replace HO235 := Aside0.mk (Kd.R_elder' (rU HO235.out) (Kd.R_base ho0) hb); replace HO237 := Aside0.mk (Kd.R_elder' (rU HO237.out) (Kd.R_base ho0) hb); replace HB := bH (lU) hb; (try clear hb); (try clear ho0)))
     go_ret
     exact ⟨eE, lU⟩
   ·replace c12 := Bool.eq_false_iff.mpr c12
    subst c12
    have H1 : (some ((t238.length : Int) == 0)) = some r := by rw [if_neg (show ¬ (false = true) by decide)] at H; exact H
    clear H
    have H := H1
    clear H1
    obtain rfl := Option.some.inj H
    go_enter Try.func3, Try.ntmps3
    go_wp2_with (first | ((with_reducible refine gate_callee (f := 5) rfl ?_); refine goesL_ (some 16) rfl rfl Try.func5 (by kernel_rfl) rfl #[.slice A0 l0.length c0] rfl aE ?_; (with_reducible refine (spec_DrawPatchOf.calls k _ _ l0 t232 t233 _ ?side1 ?side2 A3.out).mono ?_); (case side1 => repeat (first | exact HR0.out | (with_reducible refine Kd.C_alloc ?_ _) | (with_reducible refine Kd.C_drewN ?_ _) | (with_reducible refine Kd.C_drew ?_))); (case side2 => exact HC0.out); rintro e w31 ⟨v234, v236, rfl, ho0, ho1, hb⟩; refine ⟨_, rfl, ?_⟩; have HO235 := Aside0.mk (Kd.R_lower ho0 (below_size (lU))); have HO237 := Aside0.mk (Kd.R_lower ho1 (below_size (lU))); replace HB := bH (lU) hb; (try clear hb); (try clear ho0); (try clear ho1); obtain ⟨Ao32, co32, eo32⟩ := Kd.R_slice HO235.out; subst eo32; obtain ⟨Ao33, co33, eo33⟩ := Kd.R_slice HO237.out; subst eo33) | ((with_reducible refine gate_callee (f := 6) rfl ?_); refine goesL_ (some 22) rfl rfl Try.func6 (by kernel_rfl) rfl #[.slice Ao32 t232.length co32, .slice Ao33 t233.length co33] rfl aE ?_; (with_reducible refine (impl_PatchOf.calls k _ _ t232 _ _ t233 t238 false _ ?side1 ?side2 ?side3 ?side4 A4.out).mono ?_); (case side1 => exact cU (Kd.R_reads' HO235.out).2.2); (case side2 => exact (Kd.R_reads' HO235.out).2.1); (case side3 => exact cU (Kd.R_reads' HO237.out).2.2); (case side4 => exact (Kd.R_reads' HO237.out).2.1); rintro e w34 ⟨v240, rfl, ho0, hb⟩; refine ⟨_, rfl, ?_⟩; have HO241 := Aside0.mk (Kd.S_lower (Kd.S_new' (Kd.S_new' ho0 (Kd.R_lt (rU HO235.out))) (Kd.R_lt (rU HO237.out))) (below_size (lU))); replace HO235 := Aside0.mk (Kd.R_below (rU HO235.out) hb); replace HO237 := Aside0.mk (Kd.R_below (rU HO237.out) hb); replace HB := bH (lU) hb; (try clear hb); (try clear ho0)) | ((with_reducible refine gate_callee (f := 7) rfl ?_); refine goesL_ (some 28) rfl rfl Try.func7 (by kernel_rfl) rfl #[.slice Ao32 t232.length co32, .slice Ao33 t233.length co33] rfl aE ?_; (with_reducible refine (spec_PatchOf.calls k _ _ t232 _ _ t233 t242 t243 _ ?side1 ?side2 ?side3 ?side4 A5.out).mono ?_); (case side1 => exact cU (Kd.R_reads' HO235.out).2.2); (case side2 => exact (Kd.R_reads' HO235.out).2.1); (case side3 => exact cU (Kd.R_reads' HO237.out).2.2); (case side4 => exact (Kd.R_reads' HO237.out).2.1); rintro e w35 ⟨v244, rfl, ho0, hb⟩; refine ⟨_, rfl, ?_⟩; have HO245 := Aside0.mk (Kd.S_lower (Kd.S_new' (Kd.S_new' (Kd.S_new' ho0 (Kd.R_lt (rU HO235.out))) (Kd.R_lt (rU HO237.out))) (Kd.S_lt (by (with_reducible repeat (first | apply Kd.S_alloc | apply Kd.S_drewN | apply Kd.S_drew)); exact HO241.out))) (below_size (lU))); replace HO235 := Aside0.mk (Kd.R_below (rU HO235.out) hb); replace HO237 := Aside0.mk (Kd.R_below (rU HO237.out) hb); replace HO241 := Aside0.mk (Kd.S_elder' (by (with_reducible repeat (first | apply Kd.S_alloc | apply Kd.S_drewN | apply Kd.S_drew)); exact HO241.out) (Kd.S_base ho0) hb); replace HB := bH (lU) hb; (try clear hb); (try clear ho0); obtain ⟨Ao36, co36, eo36⟩ := Kd.S_slice HO241.out; subst eo36))
    go_ret
    exact ⟨eE, lU⟩
def laws_FnPatched.Pure : Prop := ∀ (l0 : List Int), l0.length ≤ maxLen → l0.length * 1 ≤ 140737488351232 → (∀ x ∈ l0, (Lit.int .u8 x).wf = true) → ∃ k, laws_FnPatched.f k l0 = some true
end Go.Proofs.Ytbamdbdcglohmaa.PFnPatched
namespace Go.Proofs.YtbamdbdcglohmaaO
open Go.ChangeShapes Go.WideShapes Go.Proofs.YtbamdbdcglohmaaW.PrintWords Go.RowKit
def InU8 (n : Int) : Prop := 0 ≤ n ∧ n ≤ 255
def Opens {α : Type} (P : Program) (t : TypeId) (d : Kd α) (g : α → Prop) : Prop :=
  ∀ {H : Type} (enc : TypeId × Value → H) (w : World) (fuel : Nat) (cs : List Value) (y : DataW H) (ps : List MemPlace),
    DataW.trod enc P w 0 (fun _ => true) true fuel t cs = some (y, ps) → (∀ n ∈ y.weights P t, n ≤ reachBytes) → ∃ x, d.K w x cs ∧ g x
theorem Opens.imp {α : Type} {P : Program} {t : TypeId} {d : Kd α} {g g' : α → Prop} (h : Opens P t d g) (k : ∀ x, g x → g' x) : Opens P t d g' := by
  intro H enc w fuel cs y ps ht hw
  obtain ⟨x, hx, hg⟩ := h enc w fuel cs y ps ht hw
  exact ⟨x, hx, k x hg⟩
theorem opens_int {P : Program} {t : TypeId} {k : IntKind} (ht : P.underlying t = some (.int k)) : Opens P t (Kd.int k) (fun n => (Lit.int k n).wf = true) := by
  intro H enc w fuel cs y ps h _
  obtain ⟨n, rfl, _, hw⟩ := DataW.trod_int ht h
  exact ⟨n, rfl, hw⟩
theorem wf_u8 {n : Int} (h : (Lit.int .u8 n).wf = true) : InU8 n := bounds_u8 h
theorem opens_u8 {P : Program} {t : TypeId} (ht : P.underlying t = some (.int .u8)) : Opens P t (Kd.int .u8) InU8 := Opens.imp (opens_int ht) fun _ h => wf_u8 h
theorem exists_list {α : Type} (p : Nat → α → Prop) : ∀ n : Nat, (∀ i, i < n → ∃ x, p i x) → ∃ xs : List α, xs.length = n ∧ ∀ i x, xs[i]? = some x → p i x
  | 0, _ => ⟨[], rfl, fun i x h => by simp at h⟩
  | n + 1, h => by
    obtain ⟨xs, hl, hx⟩ := exists_list p n (fun i hi => h i (by omega))
    obtain ⟨x, hp⟩ := h n (by omega)
    refine ⟨xs ++ [x], by simp [hl], fun i y hy => ?_⟩
    rcases Nat.lt_or_ge i xs.length with hi | hi
    · rw [List.getElem?_append_left hi] at hy
      exact hx i y hy
    · have : i = n := by
        have := (List.getElem?_eq_some_iff.1 hy).1
        rw [List.length_append, List.length_singleton] at this
        omega
      subst this
      rw [List.getElem?_append_right hi] at hy
      rw [hl] at hy
      simp at hy
      subst hy
      exact hp
theorem add_add (ad : Addr) (i j : Nat) : (ad.add i).add j = ad.add (i + j) := by
  unfold Addr.add
  by_cases h1 : i = 0 <;> by_cases h2 : j = 0 <;> simp [h1, h2, Nat.add_assoc]
theorem weightsAll_mem {H : Type} {P : Program} {e : TypeId} : ∀ {l : List (DataW H)} {d : DataW H}, d ∈ l → ∀ n ∈ d.weights P e, n ∈ DataW.weightsAll P e l
  | [], d, h, _, _ => by simp at h
  | x :: r, d, h, n, hn => by
    simp only [DataW.weightsAll, List.mem_append]
    rcases List.mem_cons.1 h with rfl | h
    · exact .inl hn
    · exact .inr (weightsAll_mem h n hn)
theorem opens_slice {α : Type} {P : Program} {t e : TypeId} {d : Kd α} {g : α → Prop} {B : Nat} (ht : P.underlying t = some (.slice e)) (hs : P.cellsOf e = d.sz) (hB : P.bytesOf e = B) (h : Opens P e d g) :
    Opens P t (Kd.slice e d) (fun xs => xs.length * B ≤ 140737488351232 ∧ ∀ x ∈ xs, g x) := by
  intro H enc w fuel cs y ps hy hw
  rcases DataW.trod_slice ht hy with ⟨rfl, _⟩ | ⟨a, len, cap, elems, rest, n, rfl, rfl, hx, _, hlc, hcm, hel, hget, _, _⟩
  · exact ⟨[], ⟨none, 0, rfl, Nat.le_refl _, Kd.C_nil d w⟩, by simp⟩
  · obtain ⟨rfl, _⟩ := Prod.mk.inj hx
    simp only [DataW.weights, ht] at hw
    have hlen : len * B ≤ 140737488351232 := by
      have := hw _ List.mem_cons_self
      simp only [List.length_map, hB] at this
      have h2 : len * B ≤ (elems.length + rest.length) * B := Nat.mul_le_mul_right _ (by omega)
      exact Nat.le_trans h2 this
    have key : ∀ i, i < len → ∃ x, (∃ c, c.length = d.sz ∧ d.K w x c ∧ ∀ j u, c[j]? = some u → w.cell? (a.add (i * d.sz + j)) = some u) ∧ g x := by
      intro i hi
      have hg := hget i hi
      rw [List.getElem?_eq_getElem (by omega), Option.bind_eq_some_iff] at hg
      obtain ⟨c, hc, hd⟩ := hg
      obtain ⟨_, hcl, hcell⟩ := World.cells?_some hc
      obtain ⟨x, hK, hgx⟩ := h enc w n c _ _ hd (fun m hm => hw m (List.mem_cons_of_mem _ (List.mem_append_left _ (weightsAll_mem (List.mem_map_of_mem (List.getElem_mem _)) m hm))))
      refine ⟨x, ⟨c, hcl.trans hs, hK, fun j u hj => ?_⟩, hgx⟩
      have hjl : j < P.cellsOf e := by
        have := (List.getElem?_eq_some_iff.1 hj).1
        omega
      have := hcell j hjl
      rw [add_add, hj, hs] at this
      exact this
    obtain ⟨xs, hxl, hxs⟩ := exists_list _ len key
    refine ⟨xs, ⟨some a, cap, by rw [hxl], by omega, hxl ▸ ⟨hxl, by simp only [maxLen] at hcm; omega, fun _ => ⟨a, rfl, fun j p hp => (hxs j p hp).1⟩⟩⟩, by rw [hxl]; exact hlen, fun x hx => ?_⟩
    obtain ⟨i, hi, rfl⟩ := List.getElem_of_mem hx
    exact (hxs i _ (List.getElem?_eq_getElem hi)).2
theorem weights_of {H : Type} {P : Program} {ts : List TypeId} {ds : List (DataW H)} {j : Nat} {t : TypeId} {d : DataW H} (hsz : (DataW.weightsEach P ts ds).all (· ≤ reachBytes) = true) (ht : ts[j]? = some t) (hd : ds[j]? = some d) : ∀ n ∈ d.weights P t, n ≤ reachBytes := by
  intro n hn
  have := List.all_eq_true.1 hsz n (DataW.weights_mem_each ht hd n hn)
  simpa using this
theorem open_slice {α H : Type} {enc : TypeId × Value → H} {P : Program} {W : World} {t e : TypeId} {d : Kd α} {g : List α → Prop} {a : Option Addr} {len cap : Nat} {y : DataW H} {ps : List MemPlace} (h : Opens P t (Kd.slice e d) g)
    (hy : DataW.Trod enc P W 0 (fun _ => true) true t (.slice a len cap) y ps) (hw : ∀ n ∈ y.weights P t, n ≤ reachBytes) : ∃ xs : List α, len = xs.length ∧ xs.length ≤ cap ∧ d.C W a xs.length xs ∧ g xs := by
  obtain ⟨fuel, hf⟩ := hy
  obtain ⟨xs, ⟨A, c, he, hl, hC⟩, hg⟩ := h enc W fuel _ y ps hf hw
  have he' : Value.slice a len cap = .slice A xs.length c := by simpa [Value.cells] using he
  injection he' with h1 h2 h3
  subst h1 h2 h3
  exact ⟨xs, rfl, hl, hC, hg⟩
end Go.Proofs.YtbamdbdcglohmaaO
namespace Go.Proofs.Ytbamdbdcglohmaa.OFnPatched
open Go.RowKit Go.Proofs.Ytbamdbdcglohmaa.PFnPatched Go.Proofs.YtbamdbdcglohmaaW.PrintWords Go.Proofs.YtbamdbdcglohmaaO
end Go.Proofs.Ytbamdbdcglohmaa.OFnPatched
namespace Go.Proofs.YtbamdbdcglohmaaO
open Go.RowKit Go.Proofs.YtbamdbdcglohmaaW.PrintWords Go.Proofs.YtbamdbdcglohmaaW.PrintLast Go.Proofs.YtbamdbdcglohmaaW.PrintMore
theorem w64 {n : Int} (h : -9223372036854775808 ≤ n) (k : n ≤ 9223372036854775807) : wrap64 n = n := by unfold wrap64; omega
theorem w64s (i : Nat) (h : i < 4611686018427387904) : wrap64 ((i : Int) + 1) = ((i + 1 : Nat) : Int) := by unfold wrap64; omega
theorem ev_some {α : Type} {x r : α} (h : x = r) : Ev (fun _ => some x) r := ⟨0, fun _ _ => by rw [h]⟩
theorem ev_pos {α : Type} {c : Prop} [Decidable c] {f g : Nat → Option α} {r : α} (h : c) (k : Ev f r) : Ev (fun n => if c then f n else g n) r := by
  obtain ⟨K, hK⟩ := k
  exact ⟨K, fun n hn => (if_pos h).trans (hK n hn)⟩
theorem ev_neg {α : Type} {c : Prop} [Decidable c] {f g : Nat → Option α} {r : α} (h : ¬ c) (k : Ev g r) : Ev (fun n => if c then f n else g n) r := by
  obtain ⟨K, hK⟩ := k
  exact ⟨K, fun n hn => (if_neg h).trans (hK n hn)⟩
theorem ev_ite {α : Type} {c : Prop} [Decidable c] {f g : Nat → Option α} {r : α} (h : c → Ev f r) (k : ¬ c → Ev g r) : Ev (fun n => if c then f n else g n) r := by
  by_cases hc : c
  · exact ev_pos hc (h hc)
  · exact ev_neg hc (k hc)
theorem ev_bindc {α β : Type} {x : Option α} {f : Nat → α → Option β} {a : α} {r : β} (h : x = some a) (k : Ev (fun n => f n a) r) : Ev (fun n => x.bind (f n)) r := by
  subst h; exact k
theorem rd_get {xs : List Int} {i : Nat} (h : i < xs.length) : rd xs (i : Int) = xs[i] := by simp [rd, List.getD_eq_getElem?_getD, h]
theorem rdOf_get {α : Type} {d : α} {xs : List α} {i : Nat} (h : i < xs.length) : rdOf d xs (i : Int) = xs[i] := by simp [rdOf, List.getD_eq_getElem?_getD, h]
theorem getD_get {α : Type} {d : α} {xs : List α} {i : Nat} (h : i < xs.length) : xs.getD (i : Int).toNat d = xs[i] := by simp [List.getD_eq_getElem?_getD, h]
theorem wrap_u64 {n : Int} (h0 : 0 ≤ n) (h1 : n ≤ 18446744073709551615) : IntKind.u64.wrap n = n := by
  have e : IntKind.u64.wrap n = n % 18446744073709551616 := by simp only [IntKind.wrap, IntKind.bits, IntKind.signed]; rfl
  rw [e]; omega
def Chain {α : Type} (E : α → Int → Int → Prop) : List α → Int → Int → Prop
  | [], c, d => c = d
  | x :: r, c, d => ∃ m, E x c m ∧ Chain E r m d
theorem Chain.snoc {α : Type} {E : α → Int → Int → Prop} : ∀ {l : List α} {c m d : Int} {x : α}, Chain E l c m → E x m d → Chain E (l ++ [x]) c d
  | [], _, _, _, _, h, k => by cases h; exact ⟨_, k, rfl⟩
  | _ :: _, _, _, _, _, ⟨q, h1, h2⟩, k => ⟨q, h1, Chain.snoc h2 k⟩
end Go.Proofs.YtbamdbdcglohmaaO
namespace Go.Proofs.Ytbamdbdcglohmaa.Pure
open Go.RowKit Go.Proofs.Ytbamdbdcglohmaa.PFnPatched Go.Proofs.Ytbamdbdcglohmaa.OFnPatched Go.Proofs.YtbamdbdcglohmaaW.PrintWords Go.Proofs.YtbamdbdcglohmaaW.PrintLast Go.Proofs.YtbamdbdcglohmaaW.PrintMore Go.Proofs.YtbamdbdcglohmaaO
set_option linter.unusedVariables false
set_option linter.unusedSimpArgs false
theorem st_spec_l1Cur_rows_l0 {r : (List Int × Int × Int)} {x3 : List Int} {x4 : Int} {x1000 : List Int} {x1001 : Int} {x1002 : Int} (h : Ev (fun k => if x4 > 0 then ((spec_l1Cur_of.f x1000 x1001 x1002 (([(⟨#[97, 98, 99, 100]⟩ : ByteArray), (⟨#[97, 98, 99]⟩ : ByteArray), (⟨#[120, 121, 122]⟩ : ByteArray), (⟨#[113]⟩ : ByteArray), (⟨#[104, 101, 108, 108, 111]⟩ : ByteArray), (⟨#[0, 1]⟩ : ByteArray)] : List ByteArray))).bind fun bt121 => (if x3.length + bt121.1.size < 140737488355328 then (spec_l1Cur_rows.l0 k (x3 ++ bytesOf bt121.1) (wrap64 (x4 - 1)) x1000 bt121.2.1 bt121.2.2) else (none))) else ((spec_l1Cur_one.f x1000 x1001 x1002 30).bind fun bt127 => (if bt127.1 = true then ((spec_l1Cur_pick.f x1000 bt127.2.1 bt127.2.2 2).bind fun bt130 => (if 0 ≤ (wrap64 (400 + bt130.1)) then (if (wrap64 (400 + bt130.1) : Int).toNat ≤ 281474976710656 then (some ((List.replicate (wrap64 (400 + bt130.1) : Int).toNat 0), bt130.2.1, bt130.2.2)) else (none)) else (none))) else (some (x3, bt127.2.1, bt127.2.2))))) r) : Ev (fun k => spec_l1Cur_rows.l0 k x3 x4 x1000 x1001 x1002) r := Ev.step (fun k => by rw [spec_l1Cur_rows.l0]) h
theorem st_impl_longest_l0 {r : (Int × Int)} {x0 : List Int} {x1 : List Int} {x6 : Int} {x7 : Int} {x11 : Int} {x12 : Int} (h : Ev (fun k => if x12 < x11 then (impl_longest.l1 k x0 x1 x6 x7 x12 0 x11 x12) else (some (x6, x7))) r) : Ev (fun k => impl_longest.l0 k x0 x1 x6 x7 x11 x12) r := Ev.step (fun k => by rw [impl_longest.l0]) h
theorem st_impl_longest_l1 {r : (Int × Int)} {x0 : List Int} {x1 : List Int} {x6 : Int} {x7 : Int} {x8 : Int} {x9 : Int} {x11 : Int} {x12 : Int} (h : Ev (fun k => if (wrap64 (x8 + x9)) < (x0.length : Int) then (if x9 < (x1.length : Int) then (if 0 ≤ (wrap64 (x8 + x9)) then (if 0 ≤ x9 then (if (rd x0 (wrap64 (x8 + x9))) = (rd x1 x9) then (impl_longest.l1 k x0 x1 x6 x7 x8 (wrap64 (x9 + 1)) x11 x12) else (if x9 > x7 then (impl_longest.l0 k x0 x1 x8 x9 x11 (wrap64 (x12 + 1))) else (impl_longest.l0 k x0 x1 x6 x7 x11 (wrap64 (x12 + 1))))) else (none)) else (none)) else (if x9 > x7 then (impl_longest.l0 k x0 x1 x8 x9 x11 (wrap64 (x12 + 1))) else (impl_longest.l0 k x0 x1 x6 x7 x11 (wrap64 (x12 + 1))))) else (if x9 > x7 then (impl_longest.l0 k x0 x1 x8 x9 x11 (wrap64 (x12 + 1))) else (impl_longest.l0 k x0 x1 x6 x7 x11 (wrap64 (x12 + 1))))) r) : Ev (fun k => impl_longest.l1 k x0 x1 x6 x7 x8 x9 x11 x12) r := Ev.step (fun k => by rw [impl_longest.l1]) h
theorem st_impl_PatchOf_j0 {r : ((List (S51)) × Bool)} {x0 : List Int} {x1 : List Int} {x17 : Bool} (h : Ev (fun k => if x17 = true then (some (([] : List (S51)), false)) else (impl_PatchOf.l0 k x0 x1 (([] : List (S51))))) r) : Ev (fun k => impl_PatchOf.j0 k x0 x1 x17) r := Ev.step (fun k => by rw [impl_PatchOf.j0]) h
theorem st_impl_PatchOf_l0 {r : ((List (S51)) × Bool)} {x0 : List Int} {x1 : List Int} {x6 : List (S51)} (h : Ev (fun k => if (x1.length : Int) > 0 then ((impl_longest.f k x0 x1).bind fun bt152 => (if bt152.2 ≥ 4 then (if x6.length < 3518437208883 then (if 0 ≤ bt152.2 then (if bt152.2 ≤ (x1.length : Int) then (impl_PatchOf.l0 k x0 (x1.drop (bt152.2 : Int).toNat) (x6 ++ [(⟨bt152.1, bt152.2, ([] : List Int)⟩ : S51)])) else (none)) else (none)) else (none)) else (if (x6.length : Int) = 0 then (if x6.length < 3518437208883 then ((some (x6 ++ [(⟨0, 0, ([] : List Int)⟩ : S51)] : List (S51))).bind fun y158 => (if 0 ≤ (wrap64 ((y158.length : Int) - 1)) then (if (wrap64 ((y158.length : Int) - 1)) < (y158.length : Int) then (if 0 < (x1.length : Int) then (if ((rd_T51 y158 (wrap64 ((y158.length : Int) - 1))).f2).length < 140737488355328 then (if 1 ≤ (x1.length : Int) then (impl_PatchOf.l0 k x0 (x1.drop 1) (y158.set ((wrap64 ((y158.length : Int) - 1)) : Int).toNat (⟨(rd_T51 y158 (wrap64 ((y158.length : Int) - 1))).f0, (rd_T51 y158 (wrap64 ((y158.length : Int) - 1))).f1, (((rd_T51 y158 (wrap64 ((y158.length : Int) - 1))).f2) ++ [rd x1 0])⟩ : S51))) else (none)) else (none)) else (none)) else (none)) else (none))) else (none)) else (if 0 ≤ (wrap64 ((x6.length : Int) - 1)) then (if (wrap64 ((x6.length : Int) - 1)) < (x6.length : Int) then (if ((rd_T51 x6 (wrap64 ((x6.length : Int) - 1))).f1) > 0 then (if x6.length < 3518437208883 then ((some (x6 ++ [(⟨0, 0, ([] : List Int)⟩ : S51)] : List (S51))).bind fun y170 => (if 0 ≤ (wrap64 ((y170.length : Int) - 1)) then (if (wrap64 ((y170.length : Int) - 1)) < (y170.length : Int) then (if 0 < (x1.length : Int) then (if ((rd_T51 y170 (wrap64 ((y170.length : Int) - 1))).f2).length < 140737488355328 then (if 1 ≤ (x1.length : Int) then (impl_PatchOf.l0 k x0 (x1.drop 1) (y170.set ((wrap64 ((y170.length : Int) - 1)) : Int).toNat (⟨(rd_T51 y170 (wrap64 ((y170.length : Int) - 1))).f0, (rd_T51 y170 (wrap64 ((y170.length : Int) - 1))).f1, (((rd_T51 y170 (wrap64 ((y170.length : Int) - 1))).f2) ++ [rd x1 0])⟩ : S51))) else (none)) else (none)) else (none)) else (none)) else (none))) else (none)) else (if 0 < (x1.length : Int) then (if ((rd_T51 x6 (wrap64 ((x6.length : Int) - 1))).f2).length < 140737488355328 then (if 1 ≤ (x1.length : Int) then (impl_PatchOf.l0 k x0 (x1.drop 1) (x6.set ((wrap64 ((x6.length : Int) - 1)) : Int).toNat (⟨(rd_T51 x6 (wrap64 ((x6.length : Int) - 1))).f0, (rd_T51 x6 (wrap64 ((x6.length : Int) - 1))).f1, (((rd_T51 x6 (wrap64 ((x6.length : Int) - 1))).f2) ++ [rd x1 0])⟩ : S51))) else (none)) else (none)) else (none))) else (none)) else (none))))) else (some (x6, true))) r) : Ev (fun k => impl_PatchOf.l0 k x0 x1 x6) r := Ev.step (fun k => by rw [impl_PatchOf.l0]) h
theorem st_spec_PatchOf_j0 {r : ((List (S51)) × Bool)} {x0 : List Int} {x1 : List Int} {x20 : Bool} (h : Ev (fun k => if x20 = true then (some (([] : List (S51)), false)) else (spec_PatchOf.l0 k x0 x1 ([] : List (S51)) 0)) r) : Ev (fun k => spec_PatchOf.j0 k x0 x1 x20) r := Ev.step (fun k => by rw [spec_PatchOf.j0]) h
theorem st_spec_PatchOf_l0 {r : ((List (S51)) × Bool)} {x0 : List Int} {x1 : List Int} {x6 : List (S51)} {x7 : Int} (h : Ev (fun k => if x7 < (x1.length : Int) then (spec_PatchOf.l1 k x0 x1 x6 x7 0 0 (x0.length : Int) 0) else (some (x6, true))) r) : Ev (fun k => spec_PatchOf.l0 k x0 x1 x6 x7) r := Ev.step (fun k => by rw [spec_PatchOf.l0]) h
theorem st_spec_PatchOf_l1 {r : ((List (S51)) × Bool)} {x0 : List Int} {x1 : List Int} {x6 : List (S51)} {x7 : Int} {x8 : Int} {x9 : Int} {x26 : Int} {x27 : Int} (h : Ev (fun k => if x27 < x26 then (spec_PatchOf.l2 k x0 x1 x6 x7 x8 x9 x27 0 x26 x27) else (if x9 ≥ 4 then (if x6.length < 3518437208883 then (spec_PatchOf.l0 k x0 x1 (x6 ++ [(⟨x8, x9, ([] : List Int)⟩ : S51)]) (wrap64 (x7 + x9))) else (none)) else (if (x6.length : Int) > 0 then (if 0 ≤ (wrap64 ((x6.length : Int) - 1)) then (if (wrap64 ((x6.length : Int) - 1)) < (x6.length : Int) then (if (((rd_T51 x6 (wrap64 ((x6.length : Int) - 1))).f2).length : Int) > 0 then (if 0 ≤ x7 then (if x7 < (x1.length : Int) then (if ((rd_T51 x6 (wrap64 ((x6.length : Int) - 1))).f2).length < 140737488355328 then (spec_PatchOf.l0 k x0 x1 (x6.set ((wrap64 ((x6.length : Int) - 1)) : Int).toNat (⟨(rd_T51 x6 (wrap64 ((x6.length : Int) - 1))).f0, (rd_T51 x6 (wrap64 ((x6.length : Int) - 1))).f1, (((rd_T51 x6 (wrap64 ((x6.length : Int) - 1))).f2) ++ [rd x1 x7])⟩ : S51)) (wrap64 (x7 + 1))) else (none)) else (none)) else (none)) else (if 0 ≤ x7 then (if x7 < (x1.length : Int) then (if x6.length < 3518437208883 then (spec_PatchOf.l0 k x0 x1 (x6 ++ [(⟨0, 0, (([rd x1 x7] : List Int))⟩ : S51)]) (wrap64 (x7 + 1))) else (none)) else (none)) else (none))) else (none)) else (none)) else (if 0 ≤ x7 then (if x7 < (x1.length : Int) then (if x6.length < 3518437208883 then (spec_PatchOf.l0 k x0 x1 (x6 ++ [(⟨0, 0, (([rd x1 x7] : List Int))⟩ : S51)]) (wrap64 (x7 + 1))) else (none)) else (none)) else (none))))) r) : Ev (fun k => spec_PatchOf.l1 k x0 x1 x6 x7 x8 x9 x26 x27) r := Ev.step (fun k => by rw [spec_PatchOf.l1]) h
theorem st_spec_PatchOf_l2 {r : ((List (S51)) × Bool)} {x0 : List Int} {x1 : List Int} {x6 : List (S51)} {x7 : Int} {x8 : Int} {x9 : Int} {x10 : Int} {x11 : Int} {x26 : Int} {x27 : Int} (h : Ev (fun k => if (wrap64 (x10 + x11)) < (x0.length : Int) then (if (wrap64 (x7 + x11)) < (x1.length : Int) then (if 0 ≤ (wrap64 (x10 + x11)) then (if 0 ≤ (wrap64 (x7 + x11)) then (if (rd x0 (wrap64 (x10 + x11))) = (rd x1 (wrap64 (x7 + x11))) then (spec_PatchOf.l2 k x0 x1 x6 x7 x8 x9 x10 (wrap64 (x11 + 1)) x26 x27) else (if x11 > x9 then (spec_PatchOf.l1 k x0 x1 x6 x7 x10 x11 x26 (wrap64 (x27 + 1))) else (spec_PatchOf.l1 k x0 x1 x6 x7 x8 x9 x26 (wrap64 (x27 + 1))))) else (none)) else (none)) else (if x11 > x9 then (spec_PatchOf.l1 k x0 x1 x6 x7 x10 x11 x26 (wrap64 (x27 + 1))) else (spec_PatchOf.l1 k x0 x1 x6 x7 x8 x9 x26 (wrap64 (x27 + 1))))) else (if x11 > x9 then (spec_PatchOf.l1 k x0 x1 x6 x7 x10 x11 x26 (wrap64 (x27 + 1))) else (spec_PatchOf.l1 k x0 x1 x6 x7 x8 x9 x26 (wrap64 (x27 + 1))))) r) : Ev (fun k => spec_PatchOf.l2 k x0 x1 x6 x7 x8 x9 x10 x11 x26 x27) r := Ev.step (fun k => by rw [spec_PatchOf.l2]) h
theorem st_impl_ApplyPatch_j0 {r : (List Int × Bool)} {x0 : List Int} {x1 : List (S51)} {x16 : Bool} (h : Ev (fun k => if x16 = true then (some (([] : List Int), false)) else (impl_ApplyPatch.l0 k x0 (([] : List Int)) x1 (x1.length : Int) 0)) r) : Ev (fun k => impl_ApplyPatch.j0 k x0 x1 x16) r := Ev.step (fun k => by rw [impl_ApplyPatch.j0]) h
theorem st_impl_ApplyPatch_l0 {r : (List Int × Bool)} {x0 : List Int} {x6 : List Int} {x18 : List (S51)} {x19 : Int} {x20 : Int} (h : Ev (fun k => if x20 < x19 then (if 0 ≤ x20 then (if x20 < (x18.length : Int) then (if (((rd_T51 x18 x20).f2).length : Int) > 0 then (if ((rd_T51 x18 x20).f0) = 0 then (impl_ApplyPatch.j2 k x0 x6 x18 x19 x20 (((rd_T51 x18 x20).f1) == 0) ((rd_T51 x18 x20).f0) ((rd_T51 x18 x20).f1) ((rd_T51 x18 x20).f2)) else (impl_ApplyPatch.j2 k x0 x6 x18 x19 x20 false ((rd_T51 x18 x20).f0) ((rd_T51 x18 x20).f1) ((rd_T51 x18 x20).f2))) else (impl_ApplyPatch.j2 k x0 x6 x18 x19 x20 false ((rd_T51 x18 x20).f0) ((rd_T51 x18 x20).f1) ((rd_T51 x18 x20).f2))) else (none)) else (none)) else ((bytes_Clone.f x6).bind fun t218 => (some (t218, true)))) r) : Ev (fun k => impl_ApplyPatch.l0 k x0 x6 x18 x19 x20) r := Ev.step (fun k => by rw [impl_ApplyPatch.l0]) h
theorem st_impl_ApplyPatch_j2 {r : (List Int × Bool)} {x0 : List Int} {x6 : List Int} {x18 : List (S51)} {x19 : Int} {x20 : Int} {x24 : Bool} {x223000 : Int} {x223001 : Int} {x223002 : List Int} (h : Ev (fun k => if x24 = true then (if x6.length + x223002.length < 140737488355328 then ((some (x6 ++ x223002 : List Int)).bind fun y223 => (if (y223.length : Int) > 400 then (some (([] : List Int), false)) else (impl_ApplyPatch.l0 k x0 y223 x18 x19 (wrap64 (x20 + 1))))) else (none)) else (if (x223002.length : Int) = 0 then ((impl_inRange.f x223000 0 (x0.length : Int)).bind fun t226 => (if t226 = true then ((impl_inRange.f x223001 1 (wrap64 ((x0.length : Int) - x223000))).bind fun t227 => (impl_ApplyPatch.j3 k x0 x6 x18 x19 x20 t227 x223000 x223001 x223002)) else (impl_ApplyPatch.j3 k x0 x6 x18 x19 x20 false x223000 x223001 x223002))) else (impl_ApplyPatch.j3 k x0 x6 x18 x19 x20 false x223000 x223001 x223002))) r) : Ev (fun k => impl_ApplyPatch.j2 k x0 x6 x18 x19 x20 x24 x223000 x223001 x223002) r := Ev.step (fun k => by rw [impl_ApplyPatch.j2]) h
theorem st_impl_ApplyPatch_j3 {r : (List Int × Bool)} {x0 : List Int} {x6 : List Int} {x18 : List (S51)} {x19 : Int} {x20 : Int} {x43 : Bool} {x223000 : Int} {x223001 : Int} {x223002 : List Int} (h : Ev (fun k => if x43 = true then (if 0 ≤ x223000 then (if x223000 ≤ (wrap64 (x223000 + x223001)) then (if (wrap64 (x223000 + x223001)) ≤ (x0.length : Int) then (if x6.length + ((x0.take ((wrap64 (x223000 + x223001)) : Int).toNat).drop (x223000 : Int).toNat).length < 140737488355328 then ((some (x6 ++ ((x0.take ((wrap64 (x223000 + x223001)) : Int).toNat).drop (x223000 : Int).toNat) : List Int)).bind fun y229 => (if (y229.length : Int) > 400 then (some (([] : List Int), false)) else (impl_ApplyPatch.l0 k x0 y229 x18 x19 (wrap64 (x20 + 1))))) else (none)) else (none)) else (none)) else (none)) else (some (([] : List Int), false))) r) : Ev (fun k => impl_ApplyPatch.j3 k x0 x6 x18 x19 x20 x43 x223000 x223001 x223002) r := Ev.step (fun k => by rw [impl_ApplyPatch.j3]) h
theorem rd_drop (l : List Int) (a i : Nat) (h : a + i < l.length) : rd (l.drop a) (i : Int) = rd l ((a + i : Nat) : Int) := by
  rw [rd_get (by rw [List.length_drop]; omega), rd_get h, List.getElem_drop]
def Alike (old now : List Int) (at_ i : Nat) (N : Nat) : Prop := ∀ q : Nat, q < N → i + q < old.length ∧ rd old ((i + q : Nat) : Int) = rd now ((at_ + q : Nat) : Int)
theorem run_same (old now : List Int) (ho : old.length ≤ 400) (hn : now.length ≤ 400) (out : List S51) (at_ : Nat) (ha : at_ ≤ now.length) (from_ many len i2 : Int) (i : Nat) (hi : i < old.length) :
    ∀ d j : Nat, at_ + j + d = now.length → Alike old now at_ i j → ∃ N : Nat, at_ + N ≤ now.length ∧ Alike old now at_ i N ∧
      (∀ r, Ev (fun k => if (N : Int) > many then impl_longest.l0 k old (now.drop at_) (i : Int) (N : Int) len (wrap64 (i2 + 1)) else impl_longest.l0 k old (now.drop at_) from_ many len (wrap64 (i2 + 1))) r → Ev (fun k => impl_longest.l1 k old (now.drop at_) from_ many (i : Int) (j : Int) len i2) r) ∧
      (∀ r, Ev (fun k => if (N : Int) > many then spec_PatchOf.l1 k old now out (at_ : Int) (i : Int) (N : Int) len (wrap64 (i2 + 1)) else spec_PatchOf.l1 k old now out (at_ : Int) from_ many len (wrap64 (i2 + 1))) r → Ev (fun k => spec_PatchOf.l2 k old now out (at_ : Int) from_ many (i : Int) (j : Int) len i2) r) := by
  have hdl : (now.drop at_).length = now.length - at_ := List.length_drop
  intro d
  induction d with
  | zero =>
    intro j hj hA
    have e1 : wrap64 ((i : Int) + (j : Int)) = (i : Int) + (j : Int) := w64 (by omega) (by omega)
    have e2 : wrap64 ((at_ : Int) + (j : Int)) = (at_ : Int) + (j : Int) := w64 (by omega) (by omega)
    refine ⟨j, by omega, hA, fun r hr => st_impl_longest_l1 (ev_ite (fun _ => ev_neg (by omega) hr) fun _ => hr), fun r hr => st_spec_PatchOf_l2 (ev_ite (fun _ => ev_neg (by omega) hr) fun _ => hr)⟩
  | succ d ih =>
    intro j hj hA
    have e1 : wrap64 ((i : Int) + (j : Int)) = (i : Int) + (j : Int) := w64 (by omega) (by omega)
    have e2 : wrap64 ((at_ : Int) + (j : Int)) = ((at_ + j : Nat) : Int) := by rw [w64 (by omega) (by omega)]; omega
    have e3 := rd_drop now at_ j (by omega)
    by_cases h1 : (i : Int) + (j : Int) < (old.length : Int)
    · by_cases h2 : rd old ((i : Int) + (j : Int)) = rd now ((at_ + j : Nat) : Int)
      · obtain ⟨N, g1, gA, g2, g3⟩ := ih (j + 1) (by omega) (fun q hq => by
          rcases Nat.lt_or_ge q j with h | h
          · exact hA q h
          · obtain rfl : q = j := by omega
            exact ⟨by omega, h2⟩)
        refine ⟨N, g1, gA, fun r hr => st_impl_longest_l1 ?_, fun r hr => st_spec_PatchOf_l2 ?_⟩
        · rw [e1, e3, w64s j (by omega)]
          exact ev_pos h1 (ev_pos (by omega) (ev_pos (by omega) (ev_pos (by omega) (ev_pos h2 (g2 r hr)))))
        · rw [e1, e2, w64s j (by omega)]
          exact ev_pos h1 (ev_pos (by omega) (ev_pos (by omega) (ev_pos (by omega) (ev_pos h2 (g3 r hr)))))
      · refine ⟨j, by omega, hA, fun r hr => st_impl_longest_l1 ?_, fun r hr => st_spec_PatchOf_l2 ?_⟩
        · rw [e1, e3]
          exact ev_pos h1 (ev_pos (by omega) (ev_pos (by omega) (ev_pos (by omega) (ev_neg h2 hr))))
        · rw [e1, e2]
          exact ev_pos h1 (ev_pos (by omega) (ev_pos (by omega) (ev_pos (by omega) (ev_neg h2 hr))))
    · refine ⟨j, by omega, hA, fun r hr => st_impl_longest_l1 (ev_neg (by omega) hr), fun r hr => st_spec_PatchOf_l2 (ev_neg (by omega) hr)⟩
def Stretch (old now : List Int) (at_ : Nat) (F M : Int) : Prop := ∃ f m : Nat, F = (f : Int) ∧ M = (m : Int) ∧ at_ + m ≤ now.length ∧ Alike old now at_ f m
theorem longest_same (old now : List Int) (ho : old.length ≤ 400) (hn : now.length ≤ 400) (out : List S51) (at_ : Nat) (ha : at_ ≤ now.length) :
    ∀ n i : Nat, i + n = old.length → ∀ from_ many : Int, Stretch old now at_ from_ many → ∃ F M : Int, Stretch old now at_ F M ∧ Ev (fun k => impl_longest.l0 k old (now.drop at_) from_ many (old.length : Int) (i : Int)) (F, M) ∧
      ∀ r, Ev (fun k => spec_PatchOf.l1 k old now out (at_ : Int) F M (old.length : Int) (old.length : Int)) r → Ev (fun k => spec_PatchOf.l1 k old now out (at_ : Int) from_ many (old.length : Int) (i : Int)) r := by
  intro n
  induction n with
  | zero =>
    intro i hi from_ many h0
    obtain rfl : i = old.length := by omega
    exact ⟨from_, many, h0, st_impl_longest_l0 (ev_neg (by omega) (ev_some rfl)), fun r hr => hr⟩
  | succ n ih =>
    intro i hi from_ many h0
    obtain ⟨N, g1, gA, g2, g3⟩ := run_same old now ho hn out at_ ha from_ many (old.length : Int) (i : Int) i (by omega) (now.length - at_) 0 (by omega) (fun q hq => by omega)
    rw [w64s i (by omega)] at g2 g3
    by_cases hN : (N : Int) > many
    · obtain ⟨F, M, q1, q3, q4⟩ := ih (i + 1) (by omega) (i : Int) (N : Int) ⟨i, N, rfl, rfl, g1, gA⟩
      exact ⟨F, M, q1, st_impl_longest_l0 (ev_pos (by omega) (g2 _ (ev_pos hN q3))), fun r hr => st_spec_PatchOf_l1 (ev_pos (by omega) (g3 _ (ev_pos hN (q4 r hr))))⟩
    · obtain ⟨F, M, q1, q3, q4⟩ := ih (i + 1) (by omega) from_ many h0
      exact ⟨F, M, q1, st_impl_longest_l0 (ev_pos (by omega) (g2 _ (ev_neg hN q3))), fun r hr => st_spec_PatchOf_l1 (ev_pos (by omega) (g3 _ (ev_neg hN (q4 r hr))))⟩
def piece (old : List Int) (c : S51) : List Int := if c.f2.length = 0 then (old.take (c.f0 + c.f1).toNat).drop c.f0.toNat else c.f2
def GoodC (old : List Int) (n : Nat) (c : S51) : Prop := c.f2.length ≤ n ∧ ((c.f2.length = 0 ∧ 1 ≤ c.f1 ∧ 0 ≤ c.f0 ∧ c.f0 + c.f1 ≤ (old.length : Int)) ∨ (0 < c.f2.length ∧ c.f0 = 0 ∧ c.f1 = 0))
theorem goodC_up {old : List Int} {n m : Nat} {c : S51} (h : GoodC old n c) (k : n ≤ m) : GoodC old m c := ⟨Nat.le_trans h.1 k, h.2⟩
theorem stretch_eq (old now : List Int) (at_ f m : Nat) (h0 : at_ + m ≤ now.length) (h : Alike old now at_ f m) (hm : 0 < m) : f + m ≤ old.length ∧ (old.take (f + m)).drop f = (now.take (at_ + m)).drop at_ := by
  have hf : f + m ≤ old.length := by have := (h (m - 1) (by omega)).1; omega
  refine ⟨hf, List.ext_getElem (by simp only [List.length_drop, List.length_take]; omega) fun q h1 h2 => ?_⟩
  rw [List.length_drop, List.length_take] at h1
  obtain ⟨hq1, hq2⟩ := h q (by omega)
  rw [rd_get hq1, rd_get (by omega)] at hq2
  rw [List.getElem_drop, List.getElem_take, List.getElem_drop, List.getElem_take]
  exact hq2
theorem last_of (out : List S51) (h : 0 < out.length) (hl : out.length ≤ 1048576) : wrap64 ((out.length : Int) - 1) = ((out.length - 1 : Nat) : Int) := by
  rw [w64 (by omega) (by omega)]; omega
theorem rd_last (out : List S51) (z : S51) : rd_T51 (out ++ [z]) ((out.length : Nat) : Int) = z := by
  have : rd_T51 (out ++ [z]) ((out.length : Nat) : Int) = (out ++ [z])[out.length]'(by simp) := getD_get (by simp)
  rw [this]; simp
theorem set_last (out : List S51) (z v : S51) : (out ++ [z]).set out.length v = out ++ [v] := by
  simp
theorem take_one (now : List Int) (a : Nat) (h : a < now.length) : now.take (a + 1) = now.take a ++ [rd now (a : Int)] := by
  rw [rd_get h, List.take_succ_eq_append_getElem h]
theorem piece_take (now : List Int) (a m : Nat) : now.take a ++ (now.take (a + m)).drop a = now.take (a + m) := by
  have h := List.take_append_drop a (now.take (a + m))
  rw [List.take_take, Nat.min_eq_left (by omega)] at h
  exact h
theorem patch_loop (old now : List Int) (ho : old.length ≤ 400) (hn : now.length ≤ 400) :
    ∀ d at_ : Nat, ∀ out : List S51, at_ + d = now.length → out.length ≤ at_ → (∀ c ∈ out, GoodC old at_ c) → out.flatMap (piece old) = now.take at_ →
      ∃ res, Ev (fun k => spec_PatchOf.l0 k old now out (at_ : Int)) (res, true) ∧ Ev (fun k => impl_PatchOf.l0 k old (now.drop at_) out) (res, true) ∧ res.length ≤ 400 ∧ (∀ c ∈ res, GoodC old 400 c) ∧ res.flatMap (piece old) = now := by
  intro d
  induction d using Nat.strongRecOn with
  | _ d ih =>
    intro at_ out hd hl hg hflat
    have hdl : (now.drop at_).length = now.length - at_ := List.length_drop
    rcases Nat.eq_zero_or_pos d with h0 | h0
    · subst h0
      exact ⟨out, st_spec_PatchOf_l0 (ev_neg (by omega) (ev_some rfl)), st_impl_PatchOf_l0 (ev_neg (by omega) (ev_some rfl)), by omega, fun c hc => goodC_up (hg c hc) (by omega), by rw [hflat]; exact List.take_of_length_le (by omega)⟩
    · obtain ⟨F, M, ⟨f, m, rfl, rfl, m1, hA⟩, hi, hs⟩ := longest_same old now ho hn out at_ (by omega) old.length 0 (by omega) 0 0 ⟨0, 0, rfl, rfl, by omega, fun q hq => by omega⟩
      by_cases h4 : (m : Int) ≥ 4
      · obtain ⟨hfm, hcut⟩ := stretch_eq old now at_ f m m1 hA (by omega)
        obtain ⟨res, g1, g2, g3, g4, g5⟩ := ih (d - m) (by omega) (at_ + m) (out ++ [⟨(f : Int), (m : Int), []⟩]) (by omega) (by rw [List.length_append, List.length_singleton]; omega) (fun c hc => by
          rcases List.mem_append.1 hc with hc | hc
          · exact goodC_up (hg c hc) (by omega)
          · obtain rfl := List.mem_singleton.1 hc
            exact ⟨by simp, .inl ⟨rfl, by show 1 ≤ (m : Int); omega, by show 0 ≤ (f : Int); omega, by show (f : Int) + (m : Int) ≤ _; omega⟩⟩) (by
          rw [List.flatMap_append, hflat, List.flatMap_cons, List.flatMap_nil, List.append_nil]
          show now.take at_ ++ (if ([] : List Int).length = 0 then (old.take ((f : Int) + (m : Int)).toNat).drop (f : Int).toNat else []) = _
          rw [if_pos (show ([] : List Int).length = 0 from rfl), Int.toNat_natCast, show ((f : Int) + (m : Int)).toNat = f + m by omega, hcut]
          exact piece_take now at_ m)
        refine ⟨res, st_spec_PatchOf_l0 (ev_pos (by omega) (hs _ (st_spec_PatchOf_l1 (ev_neg (by omega) (ev_pos h4 (ev_pos (by omega) ?_)))))), st_impl_PatchOf_l0 (ev_pos (by omega) (Ev.bind hi (ev_pos h4 (ev_pos (by omega) (ev_pos (by omega) (ev_pos (by rw [hdl]; omega) ?_)))))), g3, g4, g5⟩
        · rw [show wrap64 ((at_ : Int) + (m : Int)) = ((at_ + m : Nat) : Int) by rw [w64 (by omega) (by omega)]; omega]
          exact g1
        · rw [show ((now.drop at_).drop ((m : Nat) : Int).toNat) = now.drop (at_ + m) by rw [Int.toNat_natCast, List.drop_drop]]
          exact g2
      · obtain ⟨b, hb⟩ : ∃ b, Aside0 (b = rd now (at_ : Int)) := ⟨_, ⟨rfl⟩⟩
        have hb' : Aside0 (rd (now.drop at_) 0 = b) := ⟨by rw [hb.out]; exact rd_drop now at_ 0 (by omega)⟩
        have e1 : Aside0 (wrap64 ((at_ : Int) + 1) = ((at_ + 1 : Nat) : Int)) := ⟨by rw [w64 (by omega) (by omega)]; omega⟩
        have ed : (now.drop at_).drop 1 = now.drop (at_ + 1) := by rw [List.drop_drop]
        have et : Aside0 (now.take (at_ + 1) = now.take at_ ++ [b]) := ⟨by rw [hb.out]; exact take_one now at_ (by omega)⟩
        have fresh : ∃ res, Ev (fun k => spec_PatchOf.l0 k old now (out ++ [⟨0, 0, [b]⟩]) ((at_ + 1 : Nat) : Int)) (res, true) ∧ Ev (fun k => impl_PatchOf.l0 k old (now.drop (at_ + 1)) (out ++ [⟨0, 0, [b]⟩])) (res, true) ∧ res.length ≤ 400 ∧ (∀ c ∈ res, GoodC old 400 c) ∧ res.flatMap (piece old) = now :=
          ih (d - 1) (by omega) (at_ + 1) (out ++ [⟨0, 0, [b]⟩]) (by omega) (by rw [List.length_append, List.length_singleton]; omega) (fun c hc => by
            rcases List.mem_append.1 hc with hc | hc
            · exact goodC_up (hg c hc) (by omega)
            · obtain rfl := List.mem_singleton.1 hc
              exact ⟨by show [b].length ≤ _; rw [List.length_singleton]; omega, .inr ⟨by show 0 < [b].length; rw [List.length_singleton]; omega, rfl, rfl⟩⟩) (by
            rw [List.flatMap_append, hflat, List.flatMap_cons, List.flatMap_nil, List.append_nil, et.out]
            rfl)
        have eL : Aside0 (wrap64 (((out ++ [(⟨0, 0, ([] : List Int)⟩ : S51)]).length : Int) - 1) = (out.length : Int)) := ⟨by
          rw [List.length_append, List.length_singleton, w64 (by omega) (by omega)]; omega⟩
        have iapp : ∀ res, Ev (fun k => impl_PatchOf.l0 k old (now.drop (at_ + 1)) (out ++ [⟨0, 0, [b]⟩])) (res, true) → Ev (fun k => if out.length < 3518437208883 then ((some (out ++ [(⟨0, 0, ([] : List Int)⟩ : S51)] : List (S51))).bind fun y143 => (if 0 ≤ (wrap64 ((y143.length : Int) - 1)) then (if (wrap64 ((y143.length : Int) - 1)) < (y143.length : Int) then (if 0 < ((now.drop at_).length : Int) then (if ((rd_T51 y143 (wrap64 ((y143.length : Int) - 1))).f2).length < 140737488355328 then (if 1 ≤ ((now.drop at_).length : Int) then (impl_PatchOf.l0 k old ((now.drop at_).drop 1) (y143.set ((wrap64 ((y143.length : Int) - 1)) : Int).toNat (⟨(rd_T51 y143 (wrap64 ((y143.length : Int) - 1))).f0, (rd_T51 y143 (wrap64 ((y143.length : Int) - 1))).f1, (((rd_T51 y143 (wrap64 ((y143.length : Int) - 1))).f2) ++ [rd (now.drop at_) 0])⟩ : S51))) else (none)) else (none)) else (none)) else (none)) else (none))) else (none)) (res, true) := by
          intro res h
          refine ev_pos (by omega) (ev_bindc rfl ?_)
          rw [eL.out, rd_last, hb'.out, ed, Int.toNat_natCast, set_last]
          refine ev_pos (by omega) (ev_pos (by rw [List.length_append, List.length_singleton]; omega) (ev_pos (by omega) (ev_pos (by simp) (ev_pos (by omega) ?_))))
          exact h
        by_cases hz : (out.length : Int) = 0
        · obtain ⟨res, g1, g2, g3, g4⟩ := fresh
          refine ⟨res, st_spec_PatchOf_l0 (ev_pos (by omega) (hs _ (st_spec_PatchOf_l1 (ev_neg (by omega) (ev_neg h4 (ev_neg (by omega) (ev_pos (by omega) (ev_pos (by omega) (ev_pos (by omega) ?_))))))))), st_impl_PatchOf_l0 (ev_pos (by omega) (Ev.bind hi (ev_neg h4 (ev_pos hz (iapp res g2))))), g3, g4⟩
          rw [← hb.out, e1.out]; exact g1
        · have eL2 : Aside0 (wrap64 ((out.length : Int) - 1) = ((out.length - 1 : Nat) : Int)) := ⟨last_of out (by omega) (by omega)⟩
          obtain ⟨init, c, hout⟩ : ∃ init c, out = init ++ [c] := ⟨out.dropLast, out.getLast (by intro h; rw [h] at hz; exact hz rfl), (List.dropLast_concat_getLast _).symm⟩
          have hil : out.length = init.length + 1 := by rw [hout, List.length_append, List.length_singleton]
          have hlast : rd_T51 out ((out.length - 1 : Nat) : Int) = c := by
            rw [show out.length - 1 = init.length by omega]
            conv => lhs; rw [hout]
            exact rd_last init c
          have hcg := hg c (by rw [hout]; simp)
          have hc2 := hcg.2
          by_cases hm : c.f1 > 0
          · have hf2 : c.f2.length = 0 := by rcases hc2 with h | h <;> omega
            obtain ⟨res, g1, g2, g3, g4⟩ := fresh
            refine ⟨res, st_spec_PatchOf_l0 (ev_pos (by omega) (hs _ (st_spec_PatchOf_l1 (ev_neg (by omega) (ev_neg h4 (ev_pos (by omega) ?_)))))), st_impl_PatchOf_l0 (ev_pos (by omega) (Ev.bind hi (ev_neg h4 (ev_neg hz ?_)))), g3, g4⟩
            · rw [eL2.out, hlast, ← hb.out, e1.out]
              exact ev_pos (by omega) (ev_pos (by omega) (ev_neg (by omega) (ev_pos (by omega) (ev_pos (by omega) (ev_pos (by omega) g1)))))
            · rw [eL2.out, hlast]
              exact ev_pos (by omega) (ev_pos (by omega) (ev_pos hm (iapp res g2)))
          · have hf2 : 0 < c.f2.length ∧ c.f0 = 0 ∧ c.f1 = 0 := by
              rcases hc2 with h | h
              · exact absurd h.2.1 (by omega)
              · exact h
            have hset : out.set (out.length - 1) ⟨c.f0, c.f1, c.f2 ++ [b]⟩ = init ++ [⟨c.f0, c.f1, c.f2 ++ [b]⟩] := by
              rw [show out.length - 1 = init.length by omega]
              conv => lhs; rw [hout]
              exact set_last init c _
            have hfl : init.flatMap (piece old) ++ c.f2 = now.take at_ := by
              rw [← hflat, hout, List.flatMap_append, List.flatMap_cons, List.flatMap_nil, List.append_nil]
              congr 1
              show _ = if c.f2.length = 0 then _ else c.f2
              rw [if_neg (by omega)]
            obtain ⟨res, g1, g2, g3, g4⟩ := ih (d - 1) (by omega) (at_ + 1) (init ++ [⟨c.f0, c.f1, c.f2 ++ [b]⟩]) (by omega) (by rw [List.length_append, List.length_singleton]; omega) (fun c' hc' => by
              rcases List.mem_append.1 hc' with h | h
              · exact goodC_up (hg c' (by rw [hout]; exact List.mem_append.2 (.inl h))) (by omega)
              · obtain rfl := List.mem_singleton.1 h
                have hcl := hcg.1
                refine ⟨by show (c.f2 ++ [b]).length ≤ _; rw [List.length_append, List.length_singleton]; omega, .inr ⟨by show 0 < (c.f2 ++ [b]).length; rw [List.length_append, List.length_singleton]; omega, hf2.2.1, hf2.2.2⟩⟩) (by
              rw [List.flatMap_append, List.flatMap_cons, List.flatMap_nil, List.append_nil, et.out, ← hfl, List.append_assoc]
              congr 1
              show (if (c.f2 ++ [b]).length = 0 then _ else c.f2 ++ [b]) = _
              rw [if_neg (by rw [List.length_append, List.length_singleton]; omega)])
            have hcl := hcg.1
            refine ⟨res, st_spec_PatchOf_l0 (ev_pos (by omega) (hs _ (st_spec_PatchOf_l1 (ev_neg (by omega) (ev_neg h4 (ev_pos (by omega) ?_)))))), st_impl_PatchOf_l0 (ev_pos (by omega) (Ev.bind hi (ev_neg h4 (ev_neg hz ?_)))), g3, g4⟩
            · rw [eL2.out, hlast, ← hb.out, e1.out, Int.toNat_natCast, hset]
              exact ev_pos (by omega) (ev_pos (by omega) (ev_pos (by omega) (ev_pos (by omega) (ev_pos (by omega) (ev_pos (by omega) g1)))))
            · rw [eL2.out, hlast, hb'.out, ed, Int.toNat_natCast, hset]
              exact ev_pos (by omega) (ev_pos (by omega) (ev_neg hm (ev_pos (by omega) (ev_pos (by omega) (ev_pos (by omega) g2)))))
theorem patch_same (old now : List Int) : ∃ res b, Ev (fun k => spec_PatchOf.f k old now) (res, b) ∧ Ev (fun k => impl_PatchOf.f k old now) (res, b) ∧ (b = false → res = []) ∧ (b = true → old.length ≤ 400 ∧ now.length ≤ 400 ∧ res.length ≤ 400 ∧ (∀ c ∈ res, GoodC old 400 c) ∧ res.flatMap (piece old) = now) := by
  by_cases h : (old.length : Int) > 400
  · exact ⟨[], false, ev_pos h (st_spec_PatchOf_j0 (ev_pos rfl (ev_some rfl))), ev_pos h (st_impl_PatchOf_j0 (ev_pos rfl (ev_some rfl))), fun _ => rfl, fun h => by cases h⟩
  · by_cases h2 : (now.length : Int) > 400
    · refine ⟨[], false, ev_neg h ?_, ev_neg h ?_, fun _ => rfl, fun h => by cases h⟩
      · rw [decide_eq_true h2]; exact st_spec_PatchOf_j0 (ev_pos rfl (ev_some rfl))
      · rw [decide_eq_true h2]; exact st_impl_PatchOf_j0 (ev_pos rfl (ev_some rfl))
    · obtain ⟨res, h3, h4, h5, h6, h7⟩ := patch_loop old now (by omega) (by omega) now.length 0 [] (by omega) (by simp) (fun c hc => by cases hc) (by simp)
      refine ⟨res, true, ev_neg h ?_, ev_neg h ?_, (fun h => by cases h), fun _ => ⟨by omega, by omega, h5, h6, h7⟩⟩
      · rw [decide_eq_false h2]; exact st_spec_PatchOf_j0 (ev_neg (by decide) h3)
      · rw [decide_eq_false h2]; exact st_impl_PatchOf_j0 (ev_neg (by decide) h4)
theorem and255 (a : Int) : 0 ≤ Go.bits .and .u64 a 255 ∧ Go.bits .and .u64 a 255 ≤ 255 := by
  have h : (BitVec.ofInt 64 a &&& BitVec.ofInt 64 255).toNat ≤ 255 := by
    rw [BitVec.toNat_and]
    exact Nat.le_trans Nat.and_le_right (by decide)
  have e : Go.bits .and .u64 a 255 = IntKind.u64.wrap (((BitVec.ofInt 64 a &&& BitVec.ofInt 64 255).toNat : Nat) : Int) := rfl
  rw [e, wrap_u64 (by omega) (by omega)]
  omega
theorem next_some (code : List Int) (hc : ∀ y ∈ code, InU8 y) (at_ seed : Int) (h0 : 0 ≤ at_) (h1 : at_ ≤ 1099511627776) : ∃ v s, spec_l1Cur_next.f code at_ seed = some (v, at_ + 1, s) ∧ 0 ≤ v ∧ v < 256 := by
  have e : wrap64 (at_ + 1) = at_ + 1 := w64 (by omega) (by omega)
  have hw : ∀ a : Int, wrap64 (Go.bits .and .u64 a 255) = Go.bits .and .u64 a 255 := fun a => by have := and255 a; exact w64 (by omega) (by omega)
  unfold spec_l1Cur_next.f
  rw [e]
  by_cases h : at_ < (code.length : Int)
  · obtain ⟨i, rfl⟩ : ∃ i : Nat, at_ = (i : Int) := ⟨at_.toNat, by omega⟩
    have hv : 0 ≤ rd code (i : Int) ∧ rd code (i : Int) < 256 := by
      rw [rd_get (by omega)]
      have := hc _ (List.getElem_mem (by omega : i < code.length))
      exact ⟨this.1, by have := this.2; omega⟩
    have hr : wrap64 (rd code (i : Int)) = rd code (i : Int) := w64 (by omega) (by omega)
    rw [if_pos h, if_pos h0, hr]
    by_cases h2 : (i : Int) + 1 ≤ (code.length : Int)
    · rw [if_pos h2]; exact ⟨_, _, rfl, hv.1, hv.2⟩
    · rw [if_neg h2, hw]; exact ⟨_, _, rfl, (and255 _).1, by have := (and255 (IntKind.u64.wrap ((IntKind.u64.wrap ((IntKind.u64.wrap (seed * 6364136223846793005)) + (IntKind.u64.wrap (rd code (i : Int))))) + 1442695040888963407) / 1099511627776)).2; omega⟩
  · rw [if_neg h]
    by_cases h2 : at_ + 1 ≤ (code.length : Int)
    · rw [if_pos h2]; exact ⟨0, _, rfl, by omega, by omega⟩
    · rw [if_neg h2, hw]; exact ⟨_, _, rfl, (and255 _).1, by have := (and255 (IntKind.u64.wrap ((IntKind.u64.wrap ((IntKind.u64.wrap (seed * 6364136223846793005)))) + 1442695040888963407) / 1099511627776)).2; omega⟩
theorem pick_some (code : List Int) (hc : ∀ y ∈ code, InU8 y) (at_ seed n : Int) (h0 : 0 ≤ at_) (h1 : at_ ≤ 1099511627776) (n1 : 1 ≤ n) (n2 : n ≤ 200) : ∃ v a s, spec_l1Cur_pick.f code at_ seed n = some (v, a, s) ∧ 0 ≤ v ∧ v < n ∧ at_ ≤ a ∧ a ≤ at_ + 1 := by
  unfold spec_l1Cur_pick.f
  by_cases h : n ≤ 1
  · rw [if_pos h]; exact ⟨0, at_, seed, rfl, by omega, by omega, by omega, by omega⟩
  · obtain ⟨v, s, hv, v0, v1⟩ := next_some code hc at_ seed h0 h1
    rw [if_neg h, hv]
    simp only [Option.bind_some]
    rw [if_neg (by omega), if_neg (by omega)]
    refine ⟨Int.tmod v n, at_ + 1, s, rfl, Int.tmod_nonneg _ v0, Int.tmod_lt_of_pos _ (by omega), by omega, by omega⟩
theorem of_some (code : List Int) (hc : ∀ y ∈ code, InU8 y) (at_ seed : Int) (h0 : 0 ≤ at_) (h1 : at_ ≤ 1099511627776) (l : List ByteArray) (hl : 1 ≤ l.length) (hl2 : l.length ≤ 200) (B : Nat) (hB : ∀ y ∈ l, y.size ≤ B) : ∃ t a s, spec_l1Cur_of.f code at_ seed l = some (t, a, s) ∧ t.size ≤ B ∧ at_ ≤ a ∧ a ≤ at_ + 1 := by
  obtain ⟨v, a, s, hv, v0, v1, a0, a1⟩ := pick_some code hc at_ seed (l.length : Int) h0 h1 (by omega) (by omega)
  obtain ⟨i, rfl⟩ : ∃ i : Nat, v = (i : Int) := ⟨v.toNat, by omega⟩
  unfold spec_l1Cur_of.f
  rw [hv]
  simp only [Option.bind_some]
  rw [if_pos v0, if_pos v1, rdOf_get (by omega)]
  exact ⟨_, a, s, rfl, hB _ (List.getElem_mem _), a0, a1⟩
theorem rows_some (code : List Int) (hc : ∀ y ∈ code, InU8 y) (at_ seed : Int) (h0 : 0 ≤ at_) (h1 : at_ ≤ 1048576) : ∃ b a s, Ev (fun k => spec_l1Cur_rows.f k code at_ seed) (b, a, s) ∧ b.length ≤ 1048576 ∧ 0 ≤ a ∧ a ≤ at_ + 1024 := by
  obtain ⟨n, a, s, hn, n0, n1, a0, a1⟩ := pick_some code hc at_ seed 12 h0 (by omega) (by omega) (by omega)
  have key : ∀ m : Nat, m ≤ 12 → ∀ (b : List Int) (a s : Int), b.length + 5 * m ≤ 60 → 0 ≤ a → a + (m : Int) ≤ 1099511626752 → ∃ b' a' s', Ev (fun k => spec_l1Cur_rows.l0 k b (m : Int) code a s) (b', a', s') ∧ b'.length ≤ 1048576 ∧ 0 ≤ a' ∧ a' ≤ a + m + 2 := by
    intro m
    induction m with
    | zero =>
      intro _ b a s hb g0 g1
      obtain ⟨v, a2, s2, hv, v0, v1, q0, q1⟩ := pick_some code hc a s 30 g0 (by omega) (by omega) (by omega)
      have ho : spec_l1Cur_one.f code a s 30 = some ((v == 0), a2, s2) := by unfold spec_l1Cur_one.f; rw [hv]; rfl
      by_cases hz : (v == 0) = true
      · obtain ⟨v3, a3, s3, hv3, p0, p1, q2, q3⟩ := pick_some code hc a2 s2 2 (by omega) (by omega) (by omega) (by omega)
        have ew : wrap64 (400 + v3) = 400 + v3 := w64 (by omega) (by omega)
        refine ⟨List.replicate (400 + v3).toNat 0, a3, s3, st_spec_l1Cur_rows_l0 (ev_neg (by omega) (ev_bindc ho (ev_pos hz (ev_bindc hv3 ?_)))), by rw [List.length_replicate]; omega, by omega, by omega⟩
        simp only [ew]
        exact ev_pos (by omega) (ev_pos (by omega) (ev_some rfl))
      · exact ⟨b, a2, s2, st_spec_l1Cur_rows_l0 (ev_neg (by omega) (ev_bindc ho (ev_neg hz (ev_some rfl)))), by omega, by omega, by omega⟩
    | succ m ih =>
      intro hm b a s hb g0 g1
      obtain ⟨t, a2, s2, ht, t1, q0, q1⟩ := of_some code hc a s g0 (by omega) [(⟨#[97, 98, 99, 100]⟩ : ByteArray), (⟨#[97, 98, 99]⟩ : ByteArray), (⟨#[120, 121, 122]⟩ : ByteArray), (⟨#[113]⟩ : ByteArray), (⟨#[104, 101, 108, 108, 111]⟩ : ByteArray), (⟨#[0, 1]⟩ : ByteArray)] (by decide) (by decide) 5 (by decide)
      have hbl : (bytesOf t).length = t.size := bytesOf_length t
      obtain ⟨b', a', s', h2, h3, h4, h5⟩ := ih (by omega) (b ++ bytesOf t) a2 s2 (by rw [List.length_append]; omega) (by omega) (by omega)
      refine ⟨b', a', s', st_spec_l1Cur_rows_l0 (ev_pos (by omega) (ev_bindc ht (ev_pos (by show b.length + t.size < _; omega) ?_))), h3, h4, by omega⟩
      rw [show wrap64 (((m + 1 : Nat) : Int) - 1) = (m : Int) by rw [w64 (by omega) (by omega)]; omega]
      exact h2
  obtain ⟨m, rfl⟩ : ∃ m : Nat, n = (m : Int) := ⟨n.toNat, by omega⟩
  obtain ⟨b', a', s', h2, h3, h4, h5⟩ := key m (by omega) [] a s (by simp; omega) (by omega) (by omega)
  exact ⟨b', a', s', ev_bindc hn h2, h3, h4, by omega⟩
theorem range_ev (a lo hi : Int) : impl_inRange.f a lo hi = some (decide (lo ≤ a ∧ a ≤ hi)) := by
  unfold impl_inRange.f
  by_cases h : lo ≤ a
  · rw [if_pos h]; simp [h]
  · rw [if_neg h]; simp [h]
theorem apply_loop (old : List Int) (ho : old.length ≤ 400) (l : List S51) (hl : l.length ≤ 400) (hg : ∀ c ∈ l, GoodC old 400 c) :
    ∀ n i out, i + n = l.length → out.length + ((l.drop i).flatMap (piece old)).length ≤ 400 → Ev (fun k => impl_ApplyPatch.l0 k old out l (l.length : Int) (i : Int)) (out ++ (l.drop i).flatMap (piece old), true) := by
  intro n
  induction n with
  | zero =>
    intro i out hi hu
    obtain rfl : i = l.length := by omega
    rw [List.drop_length] at hu ⊢
    exact st_impl_ApplyPatch_l0 (ev_neg (by omega) (ev_bindc (a := out) (if_pos (by omega)) (ev_some (by simp))))
  | succ n ih =>
    intro i out hi hu
    have hil : i < l.length := by omega
    have hc : rd_T51 l (i : Int) = l[i] := getD_get hil
    have hgc := hg _ (List.getElem_mem hil)
    have hdrop : l.drop i = l[i] :: l.drop (i + 1) := List.drop_eq_getElem_cons hil
    rw [hdrop, List.flatMap_cons, List.length_append] at hu
    rw [hdrop, List.flatMap_cons, ← List.append_assoc]
    have next := ih (i + 1) (out ++ piece old l[i]) (by omega) (by rw [List.length_append]; omega)
    obtain ⟨f, m, d, hfmd⟩ : ∃ f m d, l[i] = (⟨f, m, d⟩ : S51) := ⟨_, _, _, rfl⟩
    rw [hfmd] at hgc hu next ⊢
    obtain ⟨hd, hgc⟩ := hgc
    have hd : d.length ≤ 400 := hd
    refine st_impl_ApplyPatch_l0 (ev_pos (by omega) (ev_pos (by omega) (ev_pos (by omega) ?_)))
    rw [hc, hfmd]
    rcases hgc with ⟨h1, h2, h3, h4⟩ | ⟨h1, h2, h3⟩
    · have h1 : d.length = 0 := h1
      have h2 : 1 ≤ m := h2
      have h3 : 0 ≤ f := h3
      have h4 : f + m ≤ (old.length : Int) := h4
      have ep : piece old (⟨f, m, d⟩ : S51) = (old.take (f + m).toNat).drop f.toNat := if_pos h1
      have ew : wrap64 (f + m) = f + m := w64 (by omega) (by omega)
      have ew3 : wrap64 ((old.length : Int) - f) = (old.length : Int) - f := w64 (by omega) (by omega)
      rw [ep] at next hu ⊢
      refine ev_neg (by show ¬ ((d.length : Nat) : Int) > 0; omega) (st_impl_ApplyPatch_j2 (ev_neg (by decide) (ev_pos (by show ((d.length : Nat) : Int) = 0; omega) (ev_bindc (range_ev _ _ _) (ev_pos (decide_eq_true ⟨h3, by show f ≤ _; omega⟩) (ev_bindc (range_ev _ _ _) ?_))))))
      have ed : decide (1 ≤ m ∧ m ≤ wrap64 ((old.length : Int) - f)) = true := by rw [ew3]; exact decide_eq_true (by omega)
      rw [show decide (1 ≤ (⟨f, m, d⟩ : S51).f1 ∧ (⟨f, m, d⟩ : S51).f1 ≤ wrap64 ((old.length : Int) - (⟨f, m, d⟩ : S51).f0)) = true from ed]
      refine st_impl_ApplyPatch_j3 (ev_pos rfl (ev_pos h3 ?_))
      show Ev (fun k => if f ≤ wrap64 (f + m) then (if wrap64 (f + m) ≤ (old.length : Int) then (if out.length + ((old.take (wrap64 (f + m)).toNat).drop f.toNat).length < 140737488355328 then ((some (out ++ ((old.take (wrap64 (f + m)).toNat).drop f.toNat) : List Int)).bind fun y => (if (y.length : Int) > 400 then (some (([] : List Int), false)) else (impl_ApplyPatch.l0 k old y l (l.length : Int) (wrap64 ((i : Int) + 1))))) else none) else none) else none) _
      rw [ew]
      refine ev_pos (by omega) (ev_pos (by omega) (ev_pos (by omega) (ev_bindc rfl (ev_neg (by rw [List.length_append]; omega) ?_))))
      rw [w64s i (by omega)]
      exact next
    · have h1 : 0 < d.length := h1
      have h2 : f = 0 := h2
      have h3 : m = 0 := h3
      have ep : piece old (⟨f, m, d⟩ : S51) = d := if_neg (by omega)
      rw [ep] at next hu ⊢
      refine ev_pos (by show ((d.length : Nat) : Int) > 0; omega) (ev_pos h2 ?_)
      rw [show (m == 0) = true by simp [h3]]
      refine st_impl_ApplyPatch_j2 (ev_pos rfl (ev_pos (by show out.length + d.length < _; omega) (ev_bindc rfl (ev_neg (by show ¬ (((out ++ d).length : Nat) : Int) > 400; rw [List.length_append]; omega) ?_))))
      rw [w64s i (by omega)]
      exact next
theorem FnPatched : ∀ (l0 : List (Int)), (l0.length * 1 ≤ 140737488351232 ∧ ∀ y ∈ l0, InU8 y) → ∃ k, laws_FnPatched.f k l0 = some true := by
  intro code gc
  refine Ev.rounds (g := fun k => laws_FnPatched.f k code) ?_
  refine ev_ite (fun _ => ev_some rfl) fun _ => ?_
  obtain ⟨a, p1, s1, r1, _, q0, q1⟩ := rows_some code gc.2 0 0 (by omega) (by omega)
  obtain ⟨b, p2, s2, r2, _, _, _⟩ := rows_some code gc.2 p1 s1 q0 (by omega)
  have hd : Ev (fun k => spec_DrawPatchOf.f k code) (a, b) := Ev.bind r1 (Ev.bind r2 (ev_some rfl))
  obtain ⟨res, ok, hs, hi, hno, hyes⟩ := patch_same a b
  have eb : (ok != ok) = false := by simp
  refine Ev.bind hd (Ev.bind hi (Ev.bind hs ?_))
  refine ev_neg (by rw [eb]; decide) ?_
  cases ok with
  | false =>
    obtain rfl := hno rfl
    exact ev_neg (by decide) (ev_some rfl)
  | true =>
    obtain ⟨ha, hb, hr, hg, hf⟩ := hyes rfl
    have h1 := apply_loop a ha res hr hg res.length 0 [] (by omega) (by rw [List.drop_zero, hf]; simp; omega)
    rw [List.drop_zero, hf, List.nil_append] at h1
    have h2 : Ev (fun k => impl_ApplyPatch.f k a res) (b, true) := by
      refine ev_neg (by omega) ?_
      rw [decide_eq_false (by omega)]
      exact st_impl_ApplyPatch_j0 (ev_neg (by decide) h1)
    refine ev_pos rfl (Ev.bind h2 (ev_pos rfl (ev_bindc (a := true) ?_ (ev_some rfl))))
    unfold laws_sameBytes.f
    simp
end Go.Proofs.Ytbamdbdcglohmaa.Pure
