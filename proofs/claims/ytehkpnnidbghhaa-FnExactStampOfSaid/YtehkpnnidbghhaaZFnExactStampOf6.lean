/- Texts of a row. -/
import Derived.Test.YtehkpnnidbghhaaZFnExactStampOf1
import Derived.Test.YtehkpnnidbghhaaZFnExactStampOf3
import Derived.Test.YtehkpnnidbghhaaZFnExactStampOf5
import Derived.Test.YtehkpnnidbghhaaZFnExactStampOf0
import Derived.SizedLaws
import Derived.ChangeArms
import Derived.OpenShut
import Derived.WideShapes
import Derived.WalkKit
import Derived.KernelRfl
import Derived.Laws.BitsLemmas
namespace Go.Proofs.Ytehkpnnidbghhaa.PFnExactStampOf
open Go.RowKit Go.Proofs.YtehkpnnidbghhaaW.PrintWords Go.Proofs.YtehkpnnidbghhaaW.PrintLast Go.Proofs.YtehkpnnidbghhaaW.PrintMore
attribute [local go_sem] max2_int min2_int max_two min_two max_three min_three max_four min_four   -- for this text's walks alone
set_option linter.unusedVariables false
set_option linter.unusedSimpArgs false
def impl_four.f (a0 : Int) : Option (List Int) := some (([(a0 / 16777216) % 256, (a0 / 65536) % 256, (a0 / 256) % 256, (a0) % 256] : List Int))
set_option maxHeartbeats 8000000 in
set_option maxRecDepth 100000 in
theorem impl_four.calls (a0 : Int) (r : List Int) (w : World) (h : impl_four.f a0 = some r) :
  Calls Try.prog 34 #[.int .u32 a0] w fun e w' => ∃ v0_ : Value, e = .returned (v0_) ∧ Kd.R (Kd.int .u8) 5 w' w.heap.size (fun _ => True) v0_ r ∧ Below w.heap.size w w' := by
 have HB := Aside0.mk (Below.refl w.heap.size w)
 have H : (some (([(a0 / 16777216) % 256, (a0 / 65536) % 256, (a0 / 256) % 256, (a0) % 256] : List Int))) = some r := h
 clear h
 obtain ⟨y252, hy252⟩ : ∃ y_ : List Int, y_ = (([(a0 / 16777216) % 256, (a0 / 65536) % 256, (a0 / 256) % 256, (a0) % 256] : List Int)) := ⟨_, rfl⟩
 replace H : (some y252) = some r := by first | (rw [hy252]; with_reducible exact H) | (have H2_ := (Option.bind_some _ _).symm.trans H; rw [hy252]; with_reducible exact H2_) | (have H2_ := (Option.bind_some _ _).symm.trans H; with_reducible exact H2_) | with_reducible exact H | (rw [hy252]; exact H) | exact H
 have Ny252 := Aside0.mk hy252
 clear hy252
 obtain rfl := Option.some.inj H
 go_enter Try.func34, Try.ntmps34
 go_wp2_with (first | ((with_reducible refine gate_dst (N := 14) rfl ?_); refine Kd.R_lit (Kd.int .u8) _ 5 ?hg (N := 14) ?hd (xs := ([(a0 / 16777216) % 256, (a0 / 65536) % 256, (a0 / 256) % 256, (a0) % 256] : List Int)) (inner := [.int .u8 ((a0 / 16777216) % 256), .int .u8 ((a0 / 65536) % 256), .int .u8 ((a0 / 256) % 256), .int .u8 ((a0) % 256)]) (ok := fun _ => True) (okp := fun _ => True) ?hr ?hp (fun _ hk => hk) trivial (Below.refl _ _) (Nat.le_refl _) (by simp) ?_; (case hd => rfl); (case hg => rfl); (case hr => first | (go_simp; done) | (go_simp; rfl)); (case hp => exact (Reps.one (show Kd.M (Kd.int .u8) _ _ _ ((a0 / 16777216) % 256) [.int .u8 ((a0 / 16777216) % 256)] from rfl) (Reps.one (show Kd.M (Kd.int .u8) _ _ _ ((a0 / 65536) % 256) [.int .u8 ((a0 / 65536) % 256)] from rfl) (Reps.one (show Kd.M (Kd.int .u8) _ _ _ ((a0 / 256) % 256) [.int .u8 ((a0 / 256) % 256)] from rfl) (Reps.one (show Kd.M (Kd.int .u8) _ _ _ ((a0) % 256) [.int .u8 ((a0) % 256)] from rfl) (Reps.none _ _)))))); intro v253 w2 ho3 hb hg_ hnew_; clear hg_ hnew_; (first | rw [← Ny252.out] at ho3 | (simp only [Int.reduceToNat] at ho3; rw [← Ny252.out] at ho3)); have n0_ := Aside0.mk (Kd.R_lower ho3 (below_size (by repeat (first | (with_reducible first | exact HB.out | apply below_alloc | apply pw_below_drewN | apply below_drew1) | exact HB.out)))); have n1_ := Aside0.mk (below_step (by repeat (first | (with_reducible first | exact HB.out | apply below_alloc | apply pw_below_drewN | apply below_drew1) | exact HB.out)) hb); clear HB; have HO254 := n0_; have HB := n1_; clear n0_ n1_; clear hb ho3))
 go_ret
 exact ⟨_, by first | rfl | (simp [errW_none, errW_some] <;> rfl) | (simp [*, errW_none, errW_some] <;> rfl), by (with_reducible repeat (first | apply Kd.R_alloc | apply Kd.R_drewN | apply Kd.R_drew)); exact HO254.out, by repeat (first | (with_reducible first | exact HB.out | apply below_alloc | apply pw_below_drewN | apply below_drew1) | exact HB.out)⟩
def impl_digest.l0 : Nat → Int → List Int → Int → Int → Option (Int)
 | 0, _, _, _, _ => none
 | k + 1, x3, x6, x7, x8 => if x8 < x7 then (if 0 ≤ x8 then (if x8 < (x6.length : Int) then (impl_digest.l0 k (((Go.bits .xor .u32 x3 ((rd x6 x8) % 4294967296)) * 16777619) % 4294967296) x6 x7 (wrap64 (x8 + 1))) else (none)) else (none)) else (some x3)
def impl_digest.f (k : Nat) (l0 : List Int) : Option (Int) := impl_digest.l0 k 2166136261 l0 (l0.length : Int) 0
theorem impl_digest.mono_l : ∀ k, (∀ y0 y1 y2 y3, LeO (impl_digest.l0 k y0 y1 y2 y3) (impl_digest.l0 (k + 1) y0 y1 y2 y3))
 | 0 => fun _ _ _ _ r h => by simp [impl_digest.l0] at h
 | k + 1 => by
  have ih0 := impl_digest.mono_l k
  ·intro y0 y1 y2 y3
   unfold impl_digest.l0
   repeat' first
   | (with_reducible exact ih0 _ _ _ _)
   | (with_reducible first | exact LeO.refl _ | exact LeO.none _ | refine LeO.ite ?_ ?_ | refine LeO.bind ?_ (fun _ => ?_))
   | exact ih0 _ _ _ _ | exact LeO.none _ | refine LeO.ite ?_ ?_ | refine LeO.bind ?_ (fun _ => ?_)
theorem impl_digest.mono : ∀ a0 k, LeO (impl_digest.f k a0) (impl_digest.f (k + 1) a0) := by
 intro a0 k
 have ih0 := impl_digest.mono_l k
 unfold impl_digest.f
 repeat' first
   | (with_reducible exact ih0 _ _ _ _)
   | (with_reducible first | exact LeO.refl _ | exact LeO.none _ | refine LeO.ite ?_ ?_ | refine LeO.bind ?_ (fun _ => ?_))
   | exact ih0 _ _ _ _ | exact LeO.none _ | refine LeO.ite ?_ ?_ | refine LeO.bind ?_ (fun _ => ?_)
set_option maxHeartbeats 8000000 in
set_option maxRecDepth 100000 in
theorem impl_digest.calls (k : Nat) (A0 : Option Addr) (c0 : Nat) (l0 : List Int) (r : Int) (w : World) (hr0 : Kd.C (Kd.int .u8) w A0 l0.length l0) (hc0 : l0.length ≤ c0) (h : impl_digest.f k l0 = some r) :
  Calls Try.prog 35 #[.slice A0 l0.length c0] w fun e w' => e = .returned (.int .u32 r) ∧ Drawn0 w w' := by
 have HR0 := Aside0.mk hr0
 have HC0 := Aside0.mk hc0
 clear hr0 hc0
 have H : (impl_digest.l0 k 2166136261 l0 (l0.length : Int) 0) = some r := h
 clear h
 have H' := Aside0.mk H
 clear H
 go_enter Try.func35, Try.ntmps35
 go_wp2
 go_loopg [3, 8] k (fun kq v3 v8 w' => ∃ (x3_1 : Int) (x8_1 : Int), v3 = .int .u32 x3_1 ∧ v8 = .int .i64 x8_1 ∧ Aside0 (impl_digest.l0 kq x3_1 l0 (l0.length : Int) x8_1 = some r) ∧ Aside0 (kq ≤ k) ∧ Drawn0 w w')
 case atStart => exact ⟨(2166136261), (0), (by first | rfl | (simp; done) | (simp [*]; done) | exact not_isEmpty _ | exact (not_isEmpty _).symm | exact is_empty _ | exact (is_empty _).symm), (by first | rfl | (simp; done) | (simp [*]; done) | exact not_isEmpty _ | exact (not_isEmpty _).symm | exact is_empty _ | exact (is_empty _).symm), H', ⟨Nat.le_refl _⟩, by repeat (first | exact Drawn0.refl _ | apply Drawn0.step)⟩
 case round =>
  clear H'
  obtain ⟨x3_1, x8_1, rfl, rfl, HA, HK1, ⟨m1, rfl⟩⟩ := hrel
  cases gk with
  | zero => exact absurd HA.out (by simp [impl_digest.l0])
  | succ k1 =>
   have H := HA.out
   clear HA
   simp only [impl_digest.l0] at H
   by_cases c2 : x8_1 < (l0.length : Int)
   ·rw [if_pos c2] at H
    have c2b0 : decide (x8_1 < (l0.length : Int)) = true := decide_eq_true c2
    clear c2
    by_cases c3 : 0 ≤ x8_1
    ·rw [if_pos c3] at H
     have c3b0 : decide (0 ≤ x8_1) = true := decide_eq_true c3
     clear c3
     by_cases c4 : x8_1 < (l0.length : Int)
     ·rw [if_pos c4] at H
      have c4b0 : decide (x8_1 < (l0.length : Int)) = true := decide_eq_true c4
      clear c4
      have H' := Aside0.mk H
      clear H
      have p255 : 0 ≤ (x8_1 : Int) := of_decide_eq_true (by first | (with_reducible assumption) | assumption)
      have q255 : x8_1 < (l0.length : Int) := of_decide_eq_true (by first | (with_reducible assumption) | assumption)
      obtain ⟨ad255, e255, hx255_0⟩ := Kd.at_int HR0.out x8_1 p255 q255
      cases e255
      replace p255 := eq_true p255
      replace q255 := eq_true q255
      go_wp2
      go_roundg k1
      case measure => have := HK1.out; omega
      case rel => exact ⟨(((Go.bits .xor .u32 x3_1 ((rd l0 x8_1) % 4294967296)) * 16777619) % 4294967296), (wrap64 (x8_1 + 1)), (by first | rfl | (simp; done) | (simp [*]; done) | exact not_isEmpty _ | exact (not_isEmpty _).symm | exact is_empty _ | exact (is_empty _).symm), (by first | rfl | (simp; done) | (simp [*]; done) | exact not_isEmpty _ | exact (not_isEmpty _).symm | exact is_empty _ | exact (is_empty _).symm), H', ⟨by have := HK1.out; omega⟩, by repeat (first | exact Drawn0.refl _ | apply Drawn0.step)⟩
     ·rw [if_neg c4] at H
      exact absurd H (by simp)
    ·rw [if_neg c3] at H
     exact absurd H (by simp)
   ·rw [if_neg c2] at H
    have c2b0 : decide (x8_1 < (l0.length : Int)) = false := decide_eq_false c2
    clear c2
    obtain rfl := Option.some.inj H
    go_wp2
    go_ret
    exact ⟨by first | rfl | (simp; done) | (simp [*]; done) | exact not_isEmpty _ | exact (not_isEmpty _).symm | exact is_empty _ | exact (is_empty _).symm, by repeat (first | exact Drawn0.refl _ | apply Drawn0.step)⟩
theorem hT {w w1 : World} {a : Addr} {v : Value} (hb : Below w.heap.size w w1) (h : w.cell? a = some v) : w1.cell? a = some v := (hb.cell (World.block_lt_of_cell? _ _ h)).trans h
theorem R_cut0 {w : World} {e base : Nat} {ok : Nat → Prop} {v : Value} {xs : List Int} (h : (Kd.int .u8).R e w base ok v xs) (hp : 0 < xs.length) : ∃ g cap, v = .slice (some ⟨g, 0, none⟩) xs.length cap ∧ (Kd.int .u8).R e w base ok (.slice (some ⟨g, 0, none⟩) 0 cap) [] := by
 obtain ⟨h0, inner, hown, _⟩ := h
 rcases hown.2 with ⟨rfl, h1⟩ | ⟨g, cap, cur, rfl, hb, hg, hn, hc, hs, ht⟩
 ·omega
 ·exact ⟨g, cap, rfl, h0, [], ⟨rfl, .inr ⟨g, cap, cur, rfl, hb, hg, Nat.zero_le _, hc, hs, by simp⟩⟩, ⟨rfl, fun j p hj => by simp at hj⟩⟩
set_option maxHeartbeats 8000000 in
set_option maxRecDepth 100000 in
theorem grow_nil (n : Int) (w : World) (h0 : 0 < n) (h1 : n ≤ 1000000000) :
  Calls Try.prog 48 #[.slice none 0 0, .int .i64 n] w fun e w' => ∃ v0_ : Value, e = .returned (v0_) ∧ Kd.R (Kd.int .u8) 5 w' w.heap.size (fun _ => True) v0_ [] ∧ Below w.heap.size w w' := by
 have hz1 : ¬ n < 0 := by omega
 have hz2 : n > 0 := h0
 have hw : wrap64 n = n := by unfold wrap64; omega
 have hel : Try.prog.elem 33 = 5 := by simp [Program.elem, Try.underlying33]
 obtain ⟨j0, hj0, _, hj1, _⟩ := info_parts info5
 have cutA : ∀ (W : World) (g m cap : Nat), (Instr.slice 33 (.slice (some ⟨g, 0, none⟩) m cap) none (some (.int .i64 0)) none).run Try.prog W = .ok (.slice (some ⟨g, 0, none⟩) 0 cap) W := by
  intro W g m cap
  have hu : Try.prog.underlying 33 = some (.slice (Try.prog.elem 33)) := by rw [hel]; exact Try.underlying33
  rw [run_slice_h W 33 (some ⟨g, 0, none⟩) m cap hu .i64 0 (by omega) (by omega), hel]
  simp [sizeOf, typeInfo, hj0, hj1, sliced, Result.andThen, add_plain]
 go_enter Try.func48, Try.ntmps48
 go_wp2_with (first | ((with_reducible refine gate_builtin (b := .append) (xs := #[.tmp 20, .tmp 21]) rfl ?_); at_builtin; refine Kd.R_append_zeros (Kd.int .u8) (w0 := w) w.heap.size rfl (.tmp 20) (.tmp 21) 33 3 5 (.int .u8 0) 1 rfl Try.underlying33 Try.underlying3 info5 rfl (by decide) (by omega) (.slice none 0 0) ([] : List Int) 0 (n : Int) (fun _ => True) rfl rfl rfl ?aF ?aO (by omega) ?aB ?aS ?aL ?_; (case aF => exact fun _ _ => trivial); (case aO => exact Kd.R_nil _ _ _ _ _); (case aB => exact Below.refl _ _); (case aS => exact Nat.le_refl _); (case aL => simp; omega); intro v1 w1 ho hb hg hat; rw [List.nil_append] at ho; obtain ⟨g, cap, rfl, hR⟩ := R_cut0 ho (by rw [List.length_replicate]; omega); have HR := Aside0.mk hR; have HB := Aside0.mk hb; clear ho hb hg hat hR))
 go_ret
 exact ⟨_, rfl, HR.out, HB.out⟩
def sumTo (L : Nat → List Int) : Nat → Nat
 | 0 => 0
 | i + 1 => sumTo L i + (L i).length
def catTo (L : Nat → List Int) : Nat → List Int
 | 0 => []
 | i + 1 => catTo L i ++ L i
theorem catTo_length (L : Nat → List Int) : ∀ i, (catTo L i).length = sumTo L i
 | 0 => rfl
 | i + 1 => by simp [catTo, sumTo, catTo_length L i]
theorem sumTo_mono (L : Nat → List Int) : ∀ i j, i ≤ j → sumTo L i ≤ sumTo L j
 | i, 0, h => by
  obtain rfl : i = 0 := by omega
  exact Nat.le_refl _
 | i, j + 1, h => by
  by_cases e : i = j + 1
  ·rw [e]; exact Nat.le_refl _
  ·have := sumTo_mono L i j (by omega); simp only [sumTo]; omega
set_option maxHeartbeats 8000000 in
set_option maxRecDepth 100000 in
theorem concat_ (A : Nat → Option Addr) (C : Nat → Nat) (L : Nat → List Int) (g m : Nat) (w : World) (hm : m ≤ 100) (hpos : 0 < sumTo L m) (hsum : sumTo L m ≤ 1000000)
  (h : ∀ i, i < m → w.cell? ⟨g, i, none⟩ = some (.slice (A i) (L i).length (C i)) ∧ Kd.C (Kd.int .u8) w (A i) (L i).length (L i)) :
  Calls Try.prog 33 #[.slice (some ⟨g, 0, none⟩) m m] w fun e w' => ∃ v0_ : Value, e = .returned (v0_) ∧ Kd.R (Kd.int .u8) 5 w' w.heap.size (fun _ => True) v0_ (catTo L m) ∧ Below w.heap.size w w' := by
 have H := Aside0.mk h
 clear h
 have HS := Aside0.mk hsum
 have HP := Aside0.mk hpos
 clear hsum hpos
 go_enter Try.func33, Try.ntmps33
 go_wp2
 go_loopg [3, 11] m (fun gk v3 v11 wx => ∃ i : Nat, i + gk = m ∧ v3 = .int .i64 (sumTo L i : Nat) ∧ v11 = .int .i64 (i : Nat) ∧ w = wx)
 case atStart => exact ⟨0, by omega, rfl, rfl, rfl⟩
 case round =>
  obtain ⟨i, hig, rfl, rfl, rfl⟩ := hrel
  cases gk with
  | zero =>
   obtain rfl : i = m := by omega
   have hn : ¬ ((i : Int) < (i : Int)) := by omega
   go_wp2_with (first | (go_at_call 48; refine (grow_nil ((sumTo L i : Nat) : Int) _ (by have := HP.out; omega) (by have := HS.out; omega)).mono ?_; rintro e w1 ⟨v1, rfl, ho, hb⟩; have HO := Aside0.mk ho; have HB := Aside0.mk hb; clear ho hb))
   go_loopg [6, 27] i (fun gk v6 v27 wx => ∃ j : Nat, j + gk = i ∧ v27 = .int .i64 (j : Nat) ∧ Aside0 (Kd.R (Kd.int .u8) 5 wx w.heap.size (fun _ => True) v6 (catTo L j)) ∧ Aside0 (Below w.heap.size w wx))
   case atStart => exact ⟨0, by omega, rfl, HO, HB⟩
   case round =>
    obtain ⟨j, hjg, rfl, HO2, HB2⟩ := hrel
    cases gk with
    | zero =>
     obtain rfl : j = i := by omega
     have hn : ¬ ((j : Int) < (j : Int)) := by omega
     go_wp2
     go_ret
     exact ⟨_, rfl, HO2.out, HB2.out⟩
    | succ gk =>
     have hji : j < i := by omega
     have hlt : (j : Int) < (i : Int) := by omega
     have h0 : (0 : Int) ≤ (j : Int) := by omega
     obtain ⟨hc, hC⟩ := H.out j hji
     have hc2 := (HB2.out.cell (World.block_lt_of_cell? _ _ hc)).trans hc
     have HC := Aside0.mk (Kd.C_below hC HB2.out)
     clear hC hc
     have hs1 := sumTo_mono L (j + 1) i (by omega)
     have HL := Aside0.mk (show (catTo L j).length + (L j).length ≤ 1000000 by have := HS.out; rw [catTo_length]; simp only [sumTo] at hs1; omega)
     clear hs1
     obtain ⟨Ao, co, rfl⟩ := Kd.R_slice HO2.out
     go_wp2_with (first | ((with_reducible refine gate_builtin (b := .append) (xs := #[.tmp 31, .tmp 32]) rfl ?_); at_builtin; refine Kd.R_append_rows (Kd.int .u8) (w0 := w) w.heap.size rfl (.tmp 31) (.tmp 32) 33 5 (.int .u8 0) 1 rfl Try.underlying33 info5 rfl (by decide) (by omega) (.slice Ao (catTo L j).length co) (catTo L j) (L j) (A j) (L j).length (C j) (fun _ => True) (fun _ => False) rfl rfl ?aO ?aR (fun _ _ h => h) (fun _ h => h.elim) ?aF ?aB ?aS ?aL ?_; (case aF => exact fun _ _ => trivial); (case aO => exact HO2.out); (case aR => exact HC.out); (case aB => exact HB2.out); (case aS => exact below_size HB2.out); (case aL => have := HL.out; omega); intro v1 w1 ho hb hg hat; have HO3 := Aside0.mk ho; have HB3 := Aside0.mk hb; clear ho hb hg hat))
     go_roundg gk
     case measure => omega
     case rel => exact ⟨j + 1, by omega, rfl, HO3, HB3⟩
  | succ gk =>
   have him : i < m := by omega
   have hlt : (i : Int) < (m : Int) := by omega
   have h0 : (0 : Int) ≤ (i : Int) := by omega
   obtain ⟨hc, _⟩ := H.out i him
   have hs1 := sumTo_mono L (i + 1) m (by omega)
   have hw : wrap64 (((sumTo L i : Nat) : Int) + ((L i).length : Int)) = ((sumTo L (i + 1) : Nat) : Int) := by have := HS.out; simp only [sumTo] at hs1 ⊢; unfold wrap64; omega
   have hn : ¬ (((sumTo L (i + 1) : Nat) : Int) < 0) := by omega
   clear hs1
   go_wp2
   go_roundg gk
   case measure => omega
   case rel => exact ⟨i + 1, by omega, by go_num, by go_num, rfl⟩
def impl_stamps.needs (m : List (ByteArray × Int)) : List ByteArray → List Int → Option (List Int)
 | [], d => some d
 | n :: r, d => (impl_four.f ((Mp.get m n).getD 0)).bind fun q => if d.length + q.length < 140737488355328 then impl_stamps.needs m r (d ++ q) else none
def impl_stamps.go (k : Nat) (l : List S40) : List ByteArray → List (ByteArray × Int) → Option (List (ByteArray × Int))
 | [], m => some m
 | nm :: r, m => (impl_assetAt.f k l nm).bind fun i => if 0 ≤ i ∧ i < (l.length : Int) ∧ (rd_T40 l i).f0.size + (rd_T40 l i).f2.length < 900000 then (impl_stamps.needs m (rd_T40 l i).f1 (bytesOf (rd_T40 l i).f0 ++ [0] ++ (rd_T40 l i).f2 ++ [0])).bind fun d => (impl_digest.f k d).bind fun s => impl_stamps.go k l r (Mp.put m nm s) else none
def impl_stamps.f (k : Nat) (l0 : List S40) : Option (List (ByteArray × Int)) := (impl_makeOrder.f k l0).bind fun names => impl_stamps.go k l0 names []
set_option maxHeartbeats 8000000 in
set_option maxRecDepth 100000 in
theorem impl_stamps.calls (k : Nat) (A0 : Option Addr) (c0 : Nat) (l0 : List S40) (r : List (ByteArray × Int)) (w : World) (hr0 : Kd.C k40 w A0 l0.length l0) (hc0 : l0.length ≤ c0) (h : impl_stamps.f k l0 = some r) :
  Calls Try.prog 16 #[.slice A0 l0.length c0] w fun e w' => ∃ g, e = .returned (.map (some g)) ∧ w.heap.size ≤ g ∧ Mp.Is w' g r ∧ Below w.heap.size w w' := by
 obtain ⟨names, hn, hgo⟩ := Option.bind_eq_some_iff.mp h
 have HN := Aside0.mk hn
 have HG := Aside0.mk hgo
 have HR0 := Aside0.mk hr0
 have HC0 := Aside0.mk hc0
 clear h hn hgo hr0 hc0
 have hmm := @run_makeMap Try.prog
 go_enter Try.func16, Try.ntmps16
 go_wp2_with (first | (go_at_call 30; refine (impl_makeOrder.calls k A0 c0 l0 names _ (Kd.C_alloc HR0.out _) HC0.out HN.out).mono ?_; rintro e w1 ⟨v1, rfl, ho, hb⟩; obtain ⟨Ao, co, rfl⟩ := Kd.R_slice ho; have HM := Aside0.mk ((Mp.Is.made w).below hb); have HO := Aside0.mk (show Kd.R Kd.string 9 w1 w.heap.size (fun q => q ≠ w.heap.size) (.slice Ao names.length co) names from Kd.R_mono (Kd.R_lower (Kd.R_bound ho) (by simp)) (fun q hq => by have := hq.2.1; simp at this; omega)); have HB := Aside0.mk (below_step (below_alloc (Below.refl w.heap.size w) (.map #[] 0)) hb); clear ho hb))
 go_loopg [14] names.length (fun gk v14 wx => ∃ (i : Nat) (m : List (ByteArray × Int)), i + gk = names.length ∧ v14 = .int .i64 (i : Nat) ∧ Aside0 (Mp.Is wx w.heap.size m) ∧ Aside0 (Kd.R Kd.string 9 wx w.heap.size (fun q => q ≠ w.heap.size) (.slice Ao names.length co) names) ∧ Aside0 (Below w.heap.size w wx) ∧ Aside0 (impl_stamps.go k l0 (names.drop i) m = some r))
 case atStart => exact ⟨0, [], by omega, rfl, HM, HO, HB, HG⟩
 case round =>
  clear HM HO HB HG
  obtain ⟨i, m, hig, rfl, HM, HO, HB, HG⟩ := hrel
  cases gk with
  | zero =>
   obtain rfl : i = names.length := by omega
   have hn : ¬ ((names.length : Int) < (names.length : Int)) := by omega
   have hG := HG.out
   rw [List.drop_length] at hG
   obtain rfl := Option.some.inj hG
   clear hG
   go_wp2
   go_ret
   exact ⟨_, rfl, Nat.le_refl _, HM.out, HB.out⟩
  | succ go =>
   obtain ⟨wo, rfl⟩ : ∃ x, x = wr := ⟨_, rfl⟩
   have hil : i < names.length := by omega
   have hmx : names.length ≤ 9223372036854775807 := (Kd.R_reads' HO.out).2.2.2.1
   have hG := HG.out
   rw [List.drop_eq_getElem_cons hil] at hG
   obtain ⟨nm, hnm⟩ : ∃ nm, nm = names[i] := ⟨_, rfl⟩
   rw [← hnm] at hG
   unfold impl_stamps.go at hG
   obtain ⟨q, hq, hG⟩ := Option.bind_eq_some_iff.mp hG
   split at hG
   ·rename_i hc
    obtain ⟨d, hd, hG⟩ := Option.bind_eq_some_iff.mp hG
    obtain ⟨s, hs, hG⟩ := Option.bind_eq_some_iff.mp hG
    obtain ⟨hq0, hql, hsz⟩ := hc
    have HQ := Aside0.mk hq
    have HD := Aside0.mk hd
    have HSg := Aside0.mk hs
    have HG2 := Aside0.mk hG
    have HSZ := Aside0.mk hsz
    clear hq hd hs hG HG hsz
    obtain ⟨adn, en, hxn⟩ := Kd.at_string (Kd.R_reads' HO.out).2.2 (i : Int) (by omega) (by omega)
    have hrn : rdOf ByteArray.empty names (i : Int) = nm := by rw [hnm]; simp [rdOf, List.getD_eq_getElem?_getD, hil]
    rw [hrn] at hxn
    have hin : ((i : Int)).toNat = i := rfl
    rw [hin] at hxn
    cases en
    clear hrn hin hnm
    have hlt : (i : Int) < (names.length : Int) := by omega
    have h0 : (0 : Int) ≤ (i : Int) := by omega
    obtain ⟨ada, A1, c1, A2, c2, ea, hx0, hx1, hx2, hl1, hC1, hl2, hC2⟩ := at_T40 (Kd.C_below HR0.out HB.out) q hq0 hql
    cases ea
    obtain ⟨a, ha⟩ : ∃ a, a = rd_T40 l0 q := ⟨_, rfl⟩
    rw [← ha] at hx0 hx1 hx2 hl1 hC1 hl2 hC2
    have HD := Aside0.mk (show impl_stamps.needs m a.f1 (bytesOf a.f0 ++ [0] ++ a.f2 ++ [0]) = some d by rw [ha]; exact HD.out)
    have HSZ := Aside0.mk (show a.f0.size + a.f2.length < 900000 by rw [ha]; exact HSZ.out)
    have HC1 := Aside0.mk hC1
    have HC2 := Aside0.mk hC2
    have HL1 := Aside0.mk hl1
    have HL2 := Aside0.mk hl2
    clear hC1 hC2 hl1 hl2 ha
    have q0b := eq_true hq0
    have q1b := eq_true hql
    go_wp2_with (first
     | (go_at_call 15; refine (impl_assetAt.calls k _ c0 l0 nm q _ (Kd.C_below HR0.out HB.out) HC0.out HQ.out).mono ?_; rintro e w5 ⟨rfl, hb⟩; replace hx0 := hT hb hx0; replace hx1 := hT hb hx1; replace hx2 := hT hb hx2; have HBr := Aside0.mk hb; clear hb)
     | ((with_reducible refine gate_convert_ rfl ?_); refine Mk.bytes_event (w0 := wo) wo.heap.size rfl 9 33 5 _ a.f0 rfl Try.underlying9 Try.underlying33 Try.underlying5 rfl ?aB ?aS ?aL ?_; (case aB => exact below_step HBr.out (below_alloc (Below.refl _ _) _)); (case aS => exact below_size (below_step HBr.out (below_alloc (Below.refl _ _) _))); (case aL => have := HSZ.out; omega); intro v1 w6 ho hb hg; obtain ⟨A26, c26, rfl⟩ := Mk.R_slice ho; have BK := Aside0.mk (blk_grown (blk_new w5 _) hg (by simp)); have HMK := Aside0.mk ho; replace HBr := Aside0.mk hb; clear ho hb hg; have hcz0 := cz BK 0 (.string a.f0); have hcz1 := cz BK 1 (.slice A1 a.f1.length c1); have hcz2 := cz BK 2 (.slice A2 a.f2.length c2))
     | ((with_reducible refine gate_dst (N := 27) rfl ?_); refine Kd.R_lit (Kd.int .u8) _ 5 ?hg (N := 27) ?hd (xs := ([0] : List Int)) (inner := [.int .u8 0]) (ok := fun _ => True) (okp := fun _ => True) ?hr ?hp (fun _ hk => hk) trivial (Below.refl _ _) (Nat.le_refl _) (by simp) ?_; (case hd => rfl); (case hg => rfl); (case hr => first | (go_simp; done) | (go_simp; rfl)); (case hp => exact (Reps.one (show Kd.M (Kd.int .u8) _ _ _ 0 [.int .u8 0] from rfl) (Reps.none _ _))); intro v2 w8 ho hb hg_ hnew_; obtain ⟨A27, c27, rfl⟩ := Kd.R_slice ho; skip; replace BK := bB BK.out hb; replace HMK := Aside0.mk (Mk.R_below HMK.out hb); replace HBr := Aside0.mk (below_step HBr.out hb); have HV27 := Aside0.mk (Kd.R_reads' ho).2.2; have HW27 := Aside0.mk (Kd.R_reads' ho).2.1; clear ho hb hg_ hnew_; have hcz0 := cz BK 0 (.string a.f0); have hcz1 := cz BK 1 (.slice A1 a.f1.length c1); have hcz2 := cz BK 2 (.slice A2 a.f2.length c2))
     | ((with_reducible refine gate_dst (N := 30) rfl ?_); refine Kd.R_lit (Kd.int .u8) _ 5 ?hg (N := 30) ?hd (xs := ([0] : List Int)) (inner := [.int .u8 0]) (ok := fun _ => True) (okp := fun _ => True) ?hr ?hp (fun _ hk => hk) trivial (Below.refl _ _) (Nat.le_refl _) (by simp) ?_; (case hd => rfl); (case hg => rfl); (case hr => first | (go_simp; done) | (go_simp; rfl)); (case hp => exact (Reps.one (show Kd.M (Kd.int .u8) _ _ _ 0 [.int .u8 0] from rfl) (Reps.none _ _))); intro v3 w9 ho hb hg_ hnew_; obtain ⟨A30, c30, rfl⟩ := Kd.R_slice ho; replace HV27 := Aside0.mk (Kd.C_below HV27.out hb); replace BK := bB BK.out hb; replace HMK := Aside0.mk (Mk.R_below HMK.out hb); replace HBr := Aside0.mk (below_step HBr.out hb); have HV30 := Aside0.mk (Kd.R_reads' ho).2.2; have HW30 := Aside0.mk (Kd.R_reads' ho).2.1; clear ho hb hg_ hnew_; have hcz0 := cz BK 0 (.string a.f0); have hcz1 := cz BK 1 (.slice A1 a.f1.length c1); have hcz2 := cz BK 2 (.slice A2 a.f2.length c2))
     | (go_at_call 33; refine (concat_ (fun i => ([A26, A27, A2, A30] : List (Option Addr)).getD i none) (fun i => ([c26, c27, c2, c30] : List Nat).getD i 0) (fun i => ([bytesOf a.f0, [0], a.f2, [0]] : List (List Int)).getD i []) w9.heap.size 4 _ (by omega) ?p1 ?p2 ?p3).mono ?_; (case p1 => simp [sumTo]); (case p2 => have := HSZ.out; simp [sumTo, bytesOf_length]; omega); (case p3 => intro x hx; rcases (show x = 0 ∨ x = 1 ∨ x = 2 ∨ x = 3 by omega) with rfl | rfl | rfl | rfl; exact ⟨(blk_cell (blk_new w9 _) 0).trans rfl, Kd.C_alloc (Mk.R_reads' HMK.out).2.2 _⟩; exact ⟨(blk_cell (blk_new w9 _) 1).trans rfl, Kd.C_alloc HV27.out _⟩; exact ⟨(blk_cell (blk_new w9 _) 2).trans rfl, Kd.C_alloc (Kd.C_below HC2.out HBr.out) _⟩; exact ⟨(blk_cell (blk_new w9 _) 3).trans rfl, Kd.C_alloc HV30.out _⟩); rintro e w12 ⟨v4, rfl, ho, hb⟩; replace BK := Aside0.mk (blk_below (blk_alloc BK.out _) hb); have HDR := Aside0.mk (show Kd.R (Kd.int .u8) 5 w12 wo.heap.size (fun _ => True) v4 (bytesOf a.f0 ++ [0] ++ a.f2 ++ [0]) from Kd.R_lower ho (Nat.le_trans HBr.out.size (by simp))); replace HBr := Aside0.mk (below_step HBr.out (below_step (below_alloc (Below.refl _ _) _) hb)); clear ho hb; have hcz0 := cz BK 0 (.string a.f0); have hcz1 := cz BK 1 (.slice A1 a.f1.length c1); have hcz2 := cz BK 2 (.slice A2 a.f2.length c2)))
    go_loopg [7, 36] a.f1.length (fun gk v7 v36 wx => ∃ (j : Nat) (dd : List Int), j + gk = a.f1.length ∧ v36 = .int .i64 (j : Nat) ∧ Aside0 (Kd.R (Kd.int .u8) 5 wx wo.heap.size (fun _ => True) v7 dd) ∧ Aside0 (Below wo.heap.size wo wx) ∧ Aside0 (impl_stamps.needs m (a.f1.drop j) dd = some d))
    case atStart => exact ⟨0, _, by omega, rfl, HDR, HBr, HD⟩
    case round =>
     clear HDR HD
     obtain ⟨j, dd, hjg, rfl, HO2, HB2, HD⟩ := hrel
     obtain ⟨Ad, cd, rfl⟩ := Kd.R_slice HO2.out
     cases gk with
     | zero =>
      obtain rfl : j = a.f1.length := by omega
      have hD := HD.out
      rw [List.drop_length] at hD
      obtain rfl := Option.some.inj hD
      clear hD
      have hn : ¬ ((a.f1.length : Int) < (a.f1.length : Int)) := by omega
      go_wp2_with (first
       | (go_at_call 35; refine (impl_digest.calls k _ _ dd s _ (Kd.R_reads' HO2.out).2.2 (Kd.R_reads' HO2.out).2.1 HSg.out).mono ?_; rintro e w' ⟨rfl, ⟨ndr, rfl⟩⟩)
       | ((with_reducible refine Mp.gate_update rfl ?_); refine Mp.update_event rfl (.tmp 47) (.tmp 48) (.tmp 50) 42 9 24 rfl Try.underlying42 Try.underlying9 w.heap.size m nm s rfl rfl rfl ?uM ?_; (case uM => exact (HM.out.below HB2.out).drewN _); intro w15 hm hg; have HM3 := Aside0.mk hm; have HO3 := Aside0.mk (Kd.R_grown (Kd.R_drewN (Kd.R_below HO.out HB2.out) ndr) hg (fun q hq e => hq (Option.some.inj e))); have HB3 := Aside0.mk ((pw_below_drewN (below_step HB.out HB2.out) ndr).grown hg (Nat.le_trans HB.out.size HB2.out.size) (fun q hq => by injection hq with hq; omega)); clear hm hg))
      go_roundg go
      case measure => omega
      case rel => exact ⟨i + 1, Mp.put m nm s, by omega, by go_num, HM3, HO3, HB3, HG2⟩
     | succ gk =>
      have hjl : j < a.f1.length := by omega
      have hmy : a.f1.length ≤ 9223372036854775807 := HC1.out.2.1
      have hD := HD.out
      rw [List.drop_eq_getElem_cons hjl] at hD
      obtain ⟨nd, hnd⟩ : ∃ nd, nd = a.f1[j] := ⟨_, rfl⟩
      rw [← hnd] at hD
      unfold impl_stamps.needs at hD
      obtain ⟨qd, hqd, hD⟩ := Option.bind_eq_some_iff.mp hD
      split at hD
      ·rename_i hln
       obtain ⟨adk, ek, hxk⟩ := Kd.at_string HC1.out (j : Int) (by omega) (by omega)
       have hrk : rdOf ByteArray.empty a.f1 (j : Int) = nd := by rw [hnd]; simp [rdOf, List.getD_eq_getElem?_getD, hjl]
       rw [hrk] at hxk
       have hjn : ((j : Int)).toNat = j := rfl
       rw [hjn] at hxk
       cases ek
       replace hxk := hT HB2.out hxk
       clear hrk hjn hnd
       have HF := Aside0.mk hqd
       have HLN := Aside0.mk hln
       have HD3 := Aside0.mk hD
       clear hqd hln hD HD
       have hlt2 : (j : Int) < (a.f1.length : Int) := by omega
       have h02 : (0 : Int) ≤ (j : Int) := by omega
       have hlk := Mp.lookup_run (P := Try.prog) (HM.out.below HB2.out) Try.underlying42 Try.underlying9 (Try.zeroValue24 _) nd false
       simp only [Bool.false_eq_true, if_false] at hlk
       go_wp2_with (first
        | (go_at_call 34; refine (impl_four.calls _ qd _ HF.out).mono ?_; rintro e w13 ⟨v5, rfl, ho, hb⟩; obtain ⟨A5, c5, rfl⟩ := Kd.R_slice ho; replace HO2 := Aside0.mk (Kd.R_below HO2.out hb); replace HB2 := Aside0.mk (below_step HB2.out hb); have HV5 := Aside0.mk (Kd.R_reads' ho).2.2; clear ho hb)
        | ((with_reducible refine gate_builtin (b := .append) (xs := #[.tmp 40, .tmp 44]) rfl ?_); at_builtin; refine Kd.R_append_rows (Kd.int .u8) (w0 := wo) wo.heap.size rfl (.tmp 40) (.tmp 44) 33 5 (.int .u8 0) 1 rfl Try.underlying33 info5 rfl (by decide) (by omega) (.slice Ad dd.length cd) dd qd A5 qd.length c5 (fun _ => True) (fun _ => False) rfl rfl ?aO ?aR (fun _ _ h => h) (fun _ h => h.elim) ?aF ?aB ?aS ?aL ?_; (case aF => exact fun _ _ => trivial); (case aO => exact HO2.out); (case aR => exact HV5.out); (case aB => exact HB2.out); (case aS => exact below_size HB2.out); (case aL => have := HLN.out; omega); intro v6 w14 ho hb hg hat; have HO4 := Aside0.mk ho; have HB4 := Aside0.mk hb; clear ho hb hg hat))
       go_roundg gk
       case measure => omega
       case rel => exact ⟨j + 1, dd ++ qd, by omega, by go_num, HO4, HB4, HD3⟩
      ·cases hD
   ·cases hG
theorem impl_stamps.go_mono (k : Nat) (l : List S40) : ∀ (ns : List ByteArray) (m : List (ByteArray × Int)), LeO (impl_stamps.go k l ns m) (impl_stamps.go (k + 1) l ns m)
 | [], m => LeO.refl _
 | nm :: r, m => by
  unfold impl_stamps.go
  refine LeO.bind (impl_assetAt.mono _ _ _) (fun i => LeO.ite (LeO.bind (LeO.refl _) (fun d => LeO.bind (impl_digest.mono _ _) (fun s => impl_stamps.go_mono k l r _))) (LeO.refl _))
theorem impl_stamps.mono (l : List S40) (k : Nat) : LeO (impl_stamps.f k l) (impl_stamps.f (k + 1) l) := LeO.bind (impl_makeOrder.mono _ _) (fun names => impl_stamps.go_mono k l names [])
def impl_StampOf.f (k : Nat) (l0 : List S40) (a1 : ByteArray) : Option (Int × Bool) := (impl_GoodAssets.f k l0).bind fun g => if g = true then (impl_assetAt.f k l0 a1).bind fun q => if q < 0 then some (0, false) else (impl_stamps.f k l0).bind fun m => some ((Mp.get m a1).getD 0, true) else some (0, false)
theorem impl_StampOf.mono : ∀ a0 a1 k, LeO (impl_StampOf.f k a0 a1) (impl_StampOf.f (k + 1) a0 a1) := by
 intro a0 a1 k
 exact LeO.bind (impl_GoodAssets.mono _ _) (fun g => LeO.ite (LeO.bind (impl_assetAt.mono _ _ _) (fun q => LeO.ite (LeO.refl _) (LeO.bind (impl_stamps.mono _ _) (fun m => LeO.refl _)))) (LeO.refl _))
set_option maxHeartbeats 8000000 in
set_option maxRecDepth 100000 in
theorem impl_StampOf.calls (k : Nat) (A0 : Option Addr) (c0 : Nat) (l0 : List (S40)) (a1 : ByteArray) (r1 : Int) (r2 : Bool) (w : World) (hr0 : Kd.C k40 w A0 l0.length l0) (hc0 : l0.length ≤ c0) (h : impl_StampOf.f k l0 a1 = some (r1, r2)) :
  Calls Try.prog 7 #[.slice A0 l0.length c0, .string a1] w fun e w' => e = .returned (.tuple #[.int .u32 r1, .bool r2]) ∧ Below w.heap.size w w' := by
 obtain ⟨g, hg, h⟩ := Option.bind_eq_some_iff.mp h
 have HGd := Aside0.mk hg
 have HR0 := Aside0.mk hr0
 have HC0 := Aside0.mk hc0
 clear hg hr0 hc0
 cases g with
 | false =>
  obtain ⟨rfl, rfl⟩ := Prod.mk.inj (Option.some.inj h)
  clear h
  go_enter Try.func7, Try.ntmps7
  go_wp2_with (first | (go_at_call 14; refine (impl_GoodAssets.calls k _ c0 l0 false _ HR0.out HC0.out HGd.out).mono ?_; rintro e w1 ⟨rfl, hb⟩; have HB := Aside0.mk hb; clear hb))
  go_ret2
  exact ⟨rfl, HB.out⟩
 | true =>
  obtain ⟨q, hq, h⟩ := Option.bind_eq_some_iff.mp h
  have HQ := Aside0.mk hq
  clear hq
  by_cases hn : q < 0
  ·rw [if_pos hn] at h
   obtain ⟨rfl, rfl⟩ := Prod.mk.inj (Option.some.inj h)
   clear h
   go_enter Try.func7, Try.ntmps7
   go_wp2_with (first
    | (go_at_call 14; refine (impl_GoodAssets.calls k _ c0 l0 true _ HR0.out HC0.out HGd.out).mono ?_; rintro e w1 ⟨rfl, hb⟩; have HB := Aside0.mk hb; clear hb)
    | (go_at_call 15; refine (impl_assetAt.calls k _ c0 l0 a1 q _ (Kd.C_below HR0.out HB.out) HC0.out HQ.out).mono ?_; rintro e w2 ⟨rfl, hb⟩; replace HB := Aside0.mk (below_step HB.out hb); clear hb))
   go_ret2
   exact ⟨rfl, HB.out⟩
  ·rw [if_neg hn] at h
   obtain ⟨m, hm, h⟩ := Option.bind_eq_some_iff.mp h
   have HM := Aside0.mk hm
   obtain ⟨rfl, rfl⟩ := Prod.mk.inj (Option.some.inj h)
   clear hm h
   go_enter Try.func7, Try.ntmps7
   go_wp2_with (first
    | (go_at_call 14; refine (impl_GoodAssets.calls k _ c0 l0 true _ HR0.out HC0.out HGd.out).mono ?_; rintro e w1 ⟨rfl, hb⟩; have HB := Aside0.mk hb; clear hb)
    | (go_at_call 15; refine (impl_assetAt.calls k _ c0 l0 a1 q _ (Kd.C_below HR0.out HB.out) HC0.out HQ.out).mono ?_; rintro e w2 ⟨rfl, hb⟩; replace HB := Aside0.mk (below_step HB.out hb); clear hb)
    | (go_at_call 16; refine (impl_stamps.calls k _ c0 l0 m _ (Kd.C_below HR0.out HB.out) HC0.out HM.out).mono ?_; rintro e w3 ⟨gm, rfl, hge, hmm, hb⟩; replace HB := Aside0.mk (below_step HB.out hb); have hlk := Mp.lookup_run (P := Try.prog) hmm Try.underlying42 Try.underlying9 (Try.zeroValue24 _) a1 false; simp only [Bool.false_eq_true, if_false] at hlk; clear hb hge hmm))
   go_ret2
   exact ⟨rfl, HB.out⟩
def laws_eqStringS.l0 : Nat → List ByteArray → List ByteArray → Int → Option (Bool)
 | 0, _, _, _ => none
 | k + 1, x0, x1, x5 => if x5 < (x0.length : Int) then (if 0 ≤ x5 then (if x5 < (x1.length : Int) then (if (rdOf ByteArray.empty x0 x5).toList = (rdOf ByteArray.empty x1 x5).toList then (laws_eqStringS.l0 k x0 x1 (wrap64 (x5 + 1))) else (some false)) else (none)) else (none)) else (some true)
def laws_eqStringS.f (k : Nat) (l0 : List ByteArray) (l1 : List ByteArray) : Option (Bool) := if (l0.length : Int) = (l1.length : Int) then (laws_eqStringS.l0 k l0 l1 0) else (some false)
theorem laws_eqStringS.mono_l : ∀ k, (∀ y0 y1 y2, LeO (laws_eqStringS.l0 k y0 y1 y2) (laws_eqStringS.l0 (k + 1) y0 y1 y2))
 | 0 => fun _ _ _ r h => by simp [laws_eqStringS.l0] at h
 | k + 1 => by
  have ih0 := laws_eqStringS.mono_l k
  ·intro y0 y1 y2
   unfold laws_eqStringS.l0
   repeat' first
   | (with_reducible exact ih0 _ _ _)
   | (with_reducible first | exact LeO.refl _ | exact LeO.none _ | refine LeO.ite ?_ ?_ | refine LeO.bind ?_ (fun _ => ?_))
   | exact ih0 _ _ _ | exact LeO.none _ | refine LeO.ite ?_ ?_ | refine LeO.bind ?_ (fun _ => ?_)
theorem laws_eqStringS.mono : ∀ a0 a1 k, LeO (laws_eqStringS.f k a0 a1) (laws_eqStringS.f (k + 1) a0 a1) := by
 intro a0 a1 k
 have ih0 := laws_eqStringS.mono_l k
 unfold laws_eqStringS.f
 repeat' first
   | (with_reducible exact ih0 _ _ _)
   | (with_reducible first | exact LeO.refl _ | exact LeO.none _ | refine LeO.ite ?_ ?_ | refine LeO.bind ?_ (fun _ => ?_))
   | exact ih0 _ _ _ | exact LeO.none _ | refine LeO.ite ?_ ?_ | refine LeO.bind ?_ (fun _ => ?_)
set_option maxHeartbeats 8000000 in
set_option maxRecDepth 100000 in
theorem laws_eqStringS.calls (k : Nat) (A0 : Option Addr) (c0 : Nat) (l0 : List ByteArray) (A1 : Option Addr) (c1 : Nat) (l1 : List ByteArray) (r : Bool) (w : World) (hr0 : Kd.C Kd.string w A0 l0.length l0) (hc0 : l0.length ≤ c0) (hr1 : Kd.C Kd.string w A1 l1.length l1) (hc1 : l1.length ≤ c1) (h : laws_eqStringS.f k l0 l1 = some r) :
  Calls Try.prog 36 #[.slice A0 l0.length c0, .slice A1 l1.length c1] w fun e w' => e = .returned (.bool r) ∧ Drawn0 w w' := by
 have HR0 := Aside0.mk hr0
 have HC0 := Aside0.mk hc0
 clear hr0 hc0
 have HR1 := Aside0.mk hr1
 have HC1 := Aside0.mk hc1
 clear hr1 hc1
 have H : (if (l0.length : Int) = (l1.length : Int) then (laws_eqStringS.l0 k l0 l1 0) else (some false)) = some r := h
 clear h
 by_cases c3 : (l0.length : Int) = (l1.length : Int)
 ·rw [if_pos c3] at H
  have c3b0 : ((l0.length : Int) == (l1.length : Int)) = true := beq_iff_eq.mpr c3
  have c3b1 : ((l0.length : Int) != (l1.length : Int)) = false := bne_eq_false_iff_eq.mpr c3
  have c3b2 : (l0.length == l1.length) = true := by first | simpa using c3 | (simp at c3 ⊢; omega)
  clear c3
  have H' := Aside0.mk H
  clear H
  go_enter Try.func36, Try.ntmps36
  go_wp2
  repeat (go_quiet (fail); try go_wp2)
  go_loopg [5] k (fun kq v5 w' => ∃ (x5_1 : Int), v5 = .int .i64 x5_1 ∧ Aside0 (laws_eqStringS.l0 kq l0 l1 x5_1 = some r) ∧ Aside0 (kq ≤ k) ∧ Drawn0 w w')
  case atStart => exact ⟨(0), (by first | rfl | (simp; done) | (simp [*]; done) | exact not_isEmpty _ | exact (not_isEmpty _).symm | exact is_empty _ | exact (is_empty _).symm), H', ⟨Nat.le_refl _⟩, by repeat (first | exact Drawn0.refl _ | apply Drawn0.step)⟩
  case round =>
   clear H'
   try clear c1
   try clear p2
   try clear c3
   try clear c3b0
   try clear c3b1
   try clear c3b2
   obtain ⟨x5_1, rfl, HA, HK1, ⟨m1, rfl⟩⟩ := hrel
   cases gk with
   | zero => exact absurd HA.out (by simp [laws_eqStringS.l0])
   | succ k1 =>
    have H := HA.out
    clear HA
    simp only [laws_eqStringS.l0] at H
    by_cases c4 : x5_1 < (l0.length : Int)
    ·rw [if_pos c4] at H
     have c4b0 : decide (x5_1 < (l0.length : Int)) = true := decide_eq_true c4
     clear c4
     by_cases c5 : 0 ≤ x5_1
     ·rw [if_pos c5] at H
      have c5b0 : decide (0 ≤ x5_1) = true := decide_eq_true c5
      clear c5
      by_cases c6 : x5_1 < (l1.length : Int)
      ·rw [if_pos c6] at H
       have c6b0 : decide (x5_1 < (l1.length : Int)) = true := decide_eq_true c6
       clear c6
       by_cases c7 : (rdOf ByteArray.empty l0 x5_1).toList = (rdOf ByteArray.empty l1 x5_1).toList
       ·rw [if_pos c7] at H
        have c7b0 : ((rdOf ByteArray.empty l0 x5_1).toList == (rdOf ByteArray.empty l1 x5_1).toList) = true := beq_iff_eq.mpr c7
        have c7b1 : ((rdOf ByteArray.empty l0 x5_1).toList != (rdOf ByteArray.empty l1 x5_1).toList) = false := bne_eq_false_iff_eq.mpr c7
        clear c7
        have H' := Aside0.mk H
        clear H
        have p256 : 0 ≤ (x5_1 : Int) := of_decide_eq_true (by first | (with_reducible assumption) | assumption)
        have q256 : x5_1 < (l0.length : Int) := of_decide_eq_true (by first | (with_reducible assumption) | assumption)
        obtain ⟨ad256, e256, hx256_0⟩ := Kd.at_string HR0.out x5_1 p256 q256
        cases e256
        replace p256 := eq_true p256
        replace q256 := eq_true q256
        have p257 : 0 ≤ (x5_1 : Int) := of_decide_eq_true (by first | (with_reducible assumption) | assumption)
        have q257 : x5_1 < (l1.length : Int) := of_decide_eq_true (by first | (with_reducible assumption) | assumption)
        obtain ⟨ad257, e257, hx257_0⟩ := Kd.at_string HR1.out x5_1 p257 q257
        cases e257
        replace p257 := eq_true p257
        replace q257 := eq_true q257
        go_wp2
        repeat (go_quiet (fail); try go_wp2)
        go_roundg k1
        case measure => have := HK1.out; omega
        case rel => exact ⟨(wrap64 (x5_1 + 1)), (by first | rfl | (simp; done) | (simp [*]; done) | exact not_isEmpty _ | exact (not_isEmpty _).symm | exact is_empty _ | exact (is_empty _).symm), H', ⟨by have := HK1.out; omega⟩, by repeat (first | exact Drawn0.refl _ | apply Drawn0.step)⟩
       ·rw [if_neg c7] at H
        have c7b0 : ((rdOf ByteArray.empty l0 x5_1).toList == (rdOf ByteArray.empty l1 x5_1).toList) = false := beq_eq_false_iff_ne.mpr c7
        have c7b1 : ((rdOf ByteArray.empty l0 x5_1).toList != (rdOf ByteArray.empty l1 x5_1).toList) = true := bne_iff_ne.mpr c7
        obtain rfl := Option.some.inj H
        have p256 : 0 ≤ (x5_1 : Int) := of_decide_eq_true (by first | (with_reducible assumption) | assumption)
        have q256 : x5_1 < (l0.length : Int) := of_decide_eq_true (by first | (with_reducible assumption) | assumption)
        obtain ⟨ad256, e256, hx256_0⟩ := Kd.at_string HR0.out x5_1 p256 q256
        cases e256
        replace p256 := eq_true p256
        replace q256 := eq_true q256
        have p257 : 0 ≤ (x5_1 : Int) := of_decide_eq_true (by first | (with_reducible assumption) | assumption)
        have q257 : x5_1 < (l1.length : Int) := of_decide_eq_true (by first | (with_reducible assumption) | assumption)
        obtain ⟨ad257, e257, hx257_0⟩ := Kd.at_string HR1.out x5_1 p257 q257
        cases e257
        replace p257 := eq_true p257
        replace q257 := eq_true q257
        go_wp2
        repeat (go_quiet (fail); try go_wp2)
        go_ret
        exact ⟨by first | rfl | (simp; done) | (simp [*]; done) | exact not_isEmpty _ | exact (not_isEmpty _).symm | exact is_empty _ | exact (is_empty _).symm, by repeat (first | exact Drawn0.refl _ | apply Drawn0.step)⟩
      ·rw [if_neg c6] at H
       exact absurd H (by simp)
     ·rw [if_neg c5] at H
      exact absurd H (by simp)
    ·rw [if_neg c4] at H
     have c4b0 : decide (x5_1 < (l0.length : Int)) = false := decide_eq_false c4
     clear c4
     obtain rfl := Option.some.inj H
     go_wp2
     repeat (go_quiet (fail); try go_wp2)
     go_ret
     exact ⟨by first | rfl | (simp; done) | (simp [*]; done) | exact not_isEmpty _ | exact (not_isEmpty _).symm | exact is_empty _ | exact (is_empty _).symm, by repeat (first | exact Drawn0.refl _ | apply Drawn0.step)⟩
 ·rw [if_neg c3] at H
  have c3b0 : ((l0.length : Int) == (l1.length : Int)) = false := beq_eq_false_iff_ne.mpr c3
  have c3b1 : ((l0.length : Int) != (l1.length : Int)) = true := bne_iff_ne.mpr c3
  have c3b2 : (l0.length == l1.length) = false := by first | simpa using c3 | (simp at c3 ⊢; omega)
  obtain rfl := Option.some.inj H
  go_enter Try.func36, Try.ntmps36
  go_wp2
  repeat (go_quiet (fail); try go_wp2)
  go_ret
  exact ⟨by first | rfl | (simp; done) | (simp [*]; done) | exact not_isEmpty _ | exact (not_isEmpty _).symm | exact is_empty _ | exact (is_empty _).symm, by repeat (first | exact Drawn0.refl _ | apply Drawn0.step)⟩
def laws_eqByteS.l0 : Nat → List Int → List Int → Int → Option (Bool)
 | 0, _, _, _ => none
 | k + 1, x0, x1, x5 => if x5 < (x0.length : Int) then (if 0 ≤ x5 then (if x5 < (x1.length : Int) then (if (rd x0 x5) = (rd x1 x5) then (laws_eqByteS.l0 k x0 x1 (wrap64 (x5 + 1))) else (some false)) else (none)) else (none)) else (some true)
def laws_eqByteS.f (k : Nat) (l0 : List Int) (l1 : List Int) : Option (Bool) := if (l0.length : Int) = (l1.length : Int) then (laws_eqByteS.l0 k l0 l1 0) else (some false)
theorem laws_eqByteS.mono_l : ∀ k, (∀ y0 y1 y2, LeO (laws_eqByteS.l0 k y0 y1 y2) (laws_eqByteS.l0 (k + 1) y0 y1 y2))
 | 0 => fun _ _ _ r h => by simp [laws_eqByteS.l0] at h
 | k + 1 => by
  have ih0 := laws_eqByteS.mono_l k
  ·intro y0 y1 y2
   unfold laws_eqByteS.l0
   repeat' first
   | (with_reducible exact ih0 _ _ _)
   | (with_reducible first | exact LeO.refl _ | exact LeO.none _ | refine LeO.ite ?_ ?_ | refine LeO.bind ?_ (fun _ => ?_))
   | exact ih0 _ _ _ | exact LeO.none _ | refine LeO.ite ?_ ?_ | refine LeO.bind ?_ (fun _ => ?_)
theorem laws_eqByteS.mono : ∀ a0 a1 k, LeO (laws_eqByteS.f k a0 a1) (laws_eqByteS.f (k + 1) a0 a1) := by
 intro a0 a1 k
 have ih0 := laws_eqByteS.mono_l k
 unfold laws_eqByteS.f
 repeat' first
   | (with_reducible exact ih0 _ _ _)
   | (with_reducible first | exact LeO.refl _ | exact LeO.none _ | refine LeO.ite ?_ ?_ | refine LeO.bind ?_ (fun _ => ?_))
   | exact ih0 _ _ _ | exact LeO.none _ | refine LeO.ite ?_ ?_ | refine LeO.bind ?_ (fun _ => ?_)
set_option maxHeartbeats 8000000 in
set_option maxRecDepth 100000 in
theorem laws_eqByteS.calls (k : Nat) (A0 : Option Addr) (c0 : Nat) (l0 : List Int) (A1 : Option Addr) (c1 : Nat) (l1 : List Int) (r : Bool) (w : World) (hr0 : Kd.C (Kd.int .u8) w A0 l0.length l0) (hc0 : l0.length ≤ c0) (hr1 : Kd.C (Kd.int .u8) w A1 l1.length l1) (hc1 : l1.length ≤ c1) (h : laws_eqByteS.f k l0 l1 = some r) :
  Calls Try.prog 37 #[.slice A0 l0.length c0, .slice A1 l1.length c1] w fun e w' => e = .returned (.bool r) ∧ Drawn0 w w' := by
 have HR0 := Aside0.mk hr0
 have HC0 := Aside0.mk hc0
 clear hr0 hc0
 have HR1 := Aside0.mk hr1
 have HC1 := Aside0.mk hc1
 clear hr1 hc1
 have H : (if (l0.length : Int) = (l1.length : Int) then (laws_eqByteS.l0 k l0 l1 0) else (some false)) = some r := h
 clear h
 by_cases c3 : (l0.length : Int) = (l1.length : Int)
 ·rw [if_pos c3] at H
  have c3b0 : ((l0.length : Int) == (l1.length : Int)) = true := beq_iff_eq.mpr c3
  have c3b1 : ((l0.length : Int) != (l1.length : Int)) = false := bne_eq_false_iff_eq.mpr c3
  have c3b2 : (l0.length == l1.length) = true := by first | simpa using c3 | (simp at c3 ⊢; omega)
  clear c3
  have H' := Aside0.mk H
  clear H
  go_enter Try.func37, Try.ntmps37
  go_wp2
  repeat (go_quiet (fail); try go_wp2)
  go_loopg [5] k (fun kq v5 w' => ∃ (x5_1 : Int), v5 = .int .i64 x5_1 ∧ Aside0 (laws_eqByteS.l0 kq l0 l1 x5_1 = some r) ∧ Aside0 (kq ≤ k) ∧ Drawn0 w w')
  case atStart => exact ⟨(0), (by first | rfl | (simp; done) | (simp [*]; done) | exact not_isEmpty _ | exact (not_isEmpty _).symm | exact is_empty _ | exact (is_empty _).symm), H', ⟨Nat.le_refl _⟩, by repeat (first | exact Drawn0.refl _ | apply Drawn0.step)⟩
  case round =>
   clear H'
   try clear c1
   try clear p2
   try clear c3
   try clear c3b0
   try clear c3b1
   try clear c3b2
   obtain ⟨x5_1, rfl, HA, HK1, ⟨m1, rfl⟩⟩ := hrel
   cases gk with
   | zero => exact absurd HA.out (by simp [laws_eqByteS.l0])
   | succ k1 =>
    have H := HA.out
    clear HA
    simp only [laws_eqByteS.l0] at H
    by_cases c4 : x5_1 < (l0.length : Int)
    ·rw [if_pos c4] at H
     have c4b0 : decide (x5_1 < (l0.length : Int)) = true := decide_eq_true c4
     clear c4
     by_cases c5 : 0 ≤ x5_1
     ·rw [if_pos c5] at H
      have c5b0 : decide (0 ≤ x5_1) = true := decide_eq_true c5
      clear c5
      by_cases c6 : x5_1 < (l1.length : Int)
      ·rw [if_pos c6] at H
       have c6b0 : decide (x5_1 < (l1.length : Int)) = true := decide_eq_true c6
       clear c6
       by_cases c7 : (rd l0 x5_1) = (rd l1 x5_1)
       ·rw [if_pos c7] at H
        have c7b0 : ((rd l0 x5_1) == (rd l1 x5_1)) = true := beq_iff_eq.mpr c7
        have c7b1 : ((rd l0 x5_1) != (rd l1 x5_1)) = false := bne_eq_false_iff_eq.mpr c7
        clear c7
        have H' := Aside0.mk H
        clear H
        have p258 : 0 ≤ (x5_1 : Int) := of_decide_eq_true (by first | (with_reducible assumption) | assumption)
        have q258 : x5_1 < (l0.length : Int) := of_decide_eq_true (by first | (with_reducible assumption) | assumption)
        obtain ⟨ad258, e258, hx258_0⟩ := Kd.at_int HR0.out x5_1 p258 q258
        cases e258
        replace p258 := eq_true p258
        replace q258 := eq_true q258
        have p259 : 0 ≤ (x5_1 : Int) := of_decide_eq_true (by first | (with_reducible assumption) | assumption)
        have q259 : x5_1 < (l1.length : Int) := of_decide_eq_true (by first | (with_reducible assumption) | assumption)
        obtain ⟨ad259, e259, hx259_0⟩ := Kd.at_int HR1.out x5_1 p259 q259
        cases e259
        replace p259 := eq_true p259
        replace q259 := eq_true q259
        go_wp2
        repeat (go_quiet (fail); try go_wp2)
        go_roundg k1
        case measure => have := HK1.out; omega
        case rel => exact ⟨(wrap64 (x5_1 + 1)), (by first | rfl | (simp; done) | (simp [*]; done) | exact not_isEmpty _ | exact (not_isEmpty _).symm | exact is_empty _ | exact (is_empty _).symm), H', ⟨by have := HK1.out; omega⟩, by repeat (first | exact Drawn0.refl _ | apply Drawn0.step)⟩
       ·rw [if_neg c7] at H
        have c7b0 : ((rd l0 x5_1) == (rd l1 x5_1)) = false := beq_eq_false_iff_ne.mpr c7
        have c7b1 : ((rd l0 x5_1) != (rd l1 x5_1)) = true := bne_iff_ne.mpr c7
        obtain rfl := Option.some.inj H
        have p258 : 0 ≤ (x5_1 : Int) := of_decide_eq_true (by first | (with_reducible assumption) | assumption)
        have q258 : x5_1 < (l0.length : Int) := of_decide_eq_true (by first | (with_reducible assumption) | assumption)
        obtain ⟨ad258, e258, hx258_0⟩ := Kd.at_int HR0.out x5_1 p258 q258
        cases e258
        replace p258 := eq_true p258
        replace q258 := eq_true q258
        have p259 : 0 ≤ (x5_1 : Int) := of_decide_eq_true (by first | (with_reducible assumption) | assumption)
        have q259 : x5_1 < (l1.length : Int) := of_decide_eq_true (by first | (with_reducible assumption) | assumption)
        obtain ⟨ad259, e259, hx259_0⟩ := Kd.at_int HR1.out x5_1 p259 q259
        cases e259
        replace p259 := eq_true p259
        replace q259 := eq_true q259
        go_wp2
        repeat (go_quiet (fail); try go_wp2)
        go_ret
        exact ⟨by first | rfl | (simp; done) | (simp [*]; done) | exact not_isEmpty _ | exact (not_isEmpty _).symm | exact is_empty _ | exact (is_empty _).symm, by repeat (first | exact Drawn0.refl _ | apply Drawn0.step)⟩
      ·rw [if_neg c6] at H
       exact absurd H (by simp)
     ·rw [if_neg c5] at H
      exact absurd H (by simp)
    ·rw [if_neg c4] at H
     have c4b0 : decide (x5_1 < (l0.length : Int)) = false := decide_eq_false c4
     clear c4
     obtain rfl := Option.some.inj H
     go_wp2
     repeat (go_quiet (fail); try go_wp2)
     go_ret
     exact ⟨by first | rfl | (simp; done) | (simp [*]; done) | exact not_isEmpty _ | exact (not_isEmpty _).symm | exact is_empty _ | exact (is_empty _).symm, by repeat (first | exact Drawn0.refl _ | apply Drawn0.step)⟩
 ·rw [if_neg c3] at H
  have c3b0 : ((l0.length : Int) == (l1.length : Int)) = false := beq_eq_false_iff_ne.mpr c3
  have c3b1 : ((l0.length : Int) != (l1.length : Int)) = true := bne_iff_ne.mpr c3
  have c3b2 : (l0.length == l1.length) = false := by first | simpa using c3 | (simp at c3 ⊢; omega)
  obtain rfl := Option.some.inj H
  go_enter Try.func37, Try.ntmps37
  go_wp2
  repeat (go_quiet (fail); try go_wp2)
  go_ret
  exact ⟨by first | rfl | (simp; done) | (simp [*]; done) | exact not_isEmpty _ | exact (not_isEmpty _).symm | exact is_empty _ | exact (is_empty _).symm, by repeat (first | exact Drawn0.refl _ | apply Drawn0.step)⟩
def laws_eqAsset.f (k : Nat) (a0_0 : ByteArray) (l0_1 : List ByteArray) (l0_2 : List Int) (a1_0 : ByteArray) (l1_1 : List ByteArray) (l1_2 : List Int) : Option (Bool) := if a0_0.toList = a1_0.toList then ((laws_eqStringS.f k l0_1 l1_1).bind fun t262 => (if t262 = true then ((laws_eqByteS.f k l0_2 l1_2).bind fun t263 => (if t263 = true then (some true) else (some false))) else (some false))) else (some false)
theorem laws_eqAsset.mono : ∀ a0 a1 a2 a3 a4 a5 k, LeO (laws_eqAsset.f k a0 a1 a2 a3 a4 a5) (laws_eqAsset.f (k + 1) a0 a1 a2 a3 a4 a5) := by
 intro a0 a1 a2 a3 a4 a5 k
 unfold laws_eqAsset.f
 repeat' first
   | (with_reducible exact laws_eqByteS.mono _ _ _)
   | (with_reducible exact laws_eqStringS.mono _ _ _)
   | (with_reducible first | exact LeO.refl _ | exact LeO.none _ | refine LeO.ite ?_ ?_ | refine LeO.bind ?_ (fun _ => ?_))
   | exact laws_eqByteS.mono _ _ _
   | exact laws_eqStringS.mono _ _ _ | exact LeO.none _ | refine LeO.ite ?_ ?_ | refine LeO.bind ?_ (fun _ => ?_)
set_option maxHeartbeats 8000000 in
set_option maxRecDepth 100000 in
theorem laws_eqAsset.calls (k : Nat) (a0_0 : ByteArray) (A0_1 : Option Addr) (c0_1 : Nat) (l0_1 : List ByteArray) (A0_2 : Option Addr) (c0_2 : Nat) (l0_2 : List Int) (a1_0 : ByteArray) (A1_1 : Option Addr) (c1_1 : Nat) (l1_1 : List ByteArray) (A1_2 : Option Addr) (c1_2 : Nat) (l1_2 : List Int) (r : Bool) (w : World) (hr0_1 : Kd.C Kd.string w A0_1 l0_1.length l0_1) (hc0_1 : l0_1.length ≤ c0_1) (hr0_2 : Kd.C (Kd.int .u8) w A0_2 l0_2.length l0_2) (hc0_2 : l0_2.length ≤ c0_2) (hr1_1 : Kd.C Kd.string w A1_1 l1_1.length l1_1) (hc1_1 : l1_1.length ≤ c1_1) (hr1_2 : Kd.C (Kd.int .u8) w A1_2 l1_2.length l1_2) (hc1_2 : l1_2.length ≤ c1_2) (h : laws_eqAsset.f k a0_0 l0_1 l0_2 a1_0 l1_1 l1_2 = some r) :
  Calls Try.prog 17 #[.agg #[.string a0_0, .slice A0_1 l0_1.length c0_1, .slice A0_2 l0_2.length c0_2], .agg #[.string a1_0, .slice A1_1 l1_1.length c1_1, .slice A1_2 l1_2.length c1_2]] w fun e w' => e = .returned (.bool r) ∧ Below w.heap.size w w' := by
 have hu40 := Try.underlying40
 have HR0_1 := Aside0.mk hr0_1
 have HC0_1 := Aside0.mk hc0_1
 clear hr0_1 hc0_1
 have HR0_2 := Aside0.mk hr0_2
 have HC0_2 := Aside0.mk hc0_2
 clear hr0_2 hc0_2
 have HR1_1 := Aside0.mk hr1_1
 have HC1_1 := Aside0.mk hc1_1
 clear hr1_1 hc1_1
 have HR1_2 := Aside0.mk hr1_2
 have HC1_2 := Aside0.mk hc1_2
 clear hr1_2 hc1_2
 have HB := Aside0.mk (Below.refl w.heap.size w)
 have H : (if a0_0.toList = a1_0.toList then ((laws_eqStringS.f k l0_1 l1_1).bind fun t262 => (if t262 = true then ((laws_eqByteS.f k l0_2 l1_2).bind fun t263 => (if t263 = true then (some true) else (some false))) else (some false))) else (some false)) = some r := h
 clear h
 by_cases c3 : a0_0.toList = a1_0.toList
 ·rw [if_pos c3] at H
  have c3b0 : (a0_0.toList == a1_0.toList) = true := beq_iff_eq.mpr c3
  have c3b1 : (a0_0.toList != a1_0.toList) = false := bne_eq_false_iff_eq.mpr c3
  clear c3
  replace H := Option.bind_eq_some_iff.mp H
  obtain ⟨t262, A40, H⟩ := H
  replace H : (if t262 = true then ((laws_eqByteS.f k l0_2 l1_2).bind fun t263 => (if t263 = true then (some true) else (some false))) else (some false)) = some r := H
  have A4 := Aside0.mk A40
  clear A40
  by_cases c5 : t262 = true
  ·subst c5
   have H1 : ((laws_eqByteS.f k l0_2 l1_2).bind fun t263 => (if t263 = true then (some true) else (some false))) = some r := by rw [if_pos rfl] at H; exact H
   clear H
   have H := H1
   clear H1
   replace H := Option.bind_eq_some_iff.mp H
   obtain ⟨t263, A60, H⟩ := H
   replace H : (if t263 = true then (some true) else (some false)) = some r := H
   have A6 := Aside0.mk A60
   clear A60
   by_cases c7 : t263 = true
   ·subst c7
    have H1 : (some true) = some r := by rw [if_pos rfl] at H; exact H
    clear H
    have H := H1
    clear H1
    obtain rfl := Option.some.inj H
    go_enter Try.func17, Try.ntmps17
    go_wp2_with (first | ((with_reducible refine gate_dst (N := 2) rfl ?_); refine box_event ?hg (N := 2) ?hd (cs := #[.string a0_0, .slice A0_1 l0_1.length c0_1, .slice A0_2 l0_2.length c0_2]) (t := 40) ?hr ?_; (case hd => rfl); (case hg => rfl); (case hr => first | (go_simp; done) | (go_simp; rfl)); intro gb260 hg w8 hbox hb; have n0_ := Aside0.mk (below_step (by repeat (first | (with_reducible first | exact HB.out | apply below_alloc | apply pw_below_drewN | apply below_drew1) | exact HB.out)) hb); have n1_ := Aside0.mk (hbox); have n2_ := Aside0.mk ((by rw [hg]; exact (below_size (by repeat (first | (with_reducible first | exact HB.out | apply below_alloc | apply pw_below_drewN | apply below_drew1) | exact HB.out))) : w.heap.size ≤ gb260)); have n3_ := Aside0.mk ((by rw [hg]; exact (below_size (by repeat (first | (with_reducible first | exact HB.out | apply below_alloc | apply pw_below_drewN | apply below_drew1) | exact HB.out))) : w.heap.size ≤ gb260)); clear HB; have HB := n0_; have BK260 := n1_; have GW260 := n2_; have GE260 := n3_; clear n0_ n1_ n2_ n3_; clear hb hbox hg) | ((with_reducible refine gate_dst (N := 3) rfl ?_); refine box_event ?hg (N := 3) ?hd (cs := #[.string a1_0, .slice A1_1 l1_1.length c1_1, .slice A1_2 l1_2.length c1_2]) (t := 40) ?hr ?_; (case hd => rfl); (case hg => rfl); (case hr => first | (go_simp; done) | (go_simp; rfl)); intro gb261 hg w9 hbox hb; have n0_ := Aside0.mk (blk_below (g := gb260) (o := .cells #[.string a0_0, .slice A0_1 l0_1.length c0_1, .slice A0_2 l0_2.length c0_2] 40 (0, 0)) (by (with_reducible repeat (first | refine blk_drewN ?_ _ | refine blk_drew ?_ | refine blk_alloc ?_ _)); exact BK260.out) hb); have n1_ := Aside0.mk (below_step (by repeat (first | (with_reducible first | exact HB.out | apply below_alloc | apply pw_below_drewN | apply below_drew1 | refine below_set ?_ GE260.out) | exact HB.out)) hb); have n2_ := Aside0.mk (hbox); have n3_ := Aside0.mk ((by rw [hg]; exact (below_size (by repeat (first | (with_reducible first | exact HB.out | apply below_alloc | apply pw_below_drewN | apply below_drew1 | refine below_set ?_ GE260.out) | exact HB.out))) : w.heap.size ≤ gb261)); have n4_ := Aside0.mk ((by rw [hg]; exact (below_size (by repeat (first | (with_reducible first | exact HB.out | apply below_alloc | apply pw_below_drewN | apply below_drew1 | refine below_set ?_ GE260.out) | exact HB.out))) : w.heap.size ≤ gb261)); have n5_ := Aside0.mk ((by rw [hg]; exact Nat.ne_of_lt (blk_lt (g := gb260) (o := .cells #[.string a0_0, .slice A0_1 l0_1.length c0_1, .slice A0_2 l0_2.length c0_2] 40 (0, 0)) (by (with_reducible repeat (first | refine blk_drewN ?_ _ | refine blk_drew ?_ | refine blk_alloc ?_ _)); exact BK260.out)) : gb260 ≠ gb261)); have n6_ := Aside0.mk ((by rw [hg]; exact Nat.ne_of_gt (blk_lt (g := gb260) (o := .cells #[.string a0_0, .slice A0_1 l0_1.length c0_1, .slice A0_2 l0_2.length c0_2] 40 (0, 0)) (by (with_reducible repeat (first | refine blk_drewN ?_ _ | refine blk_drew ?_ | refine blk_alloc ?_ _)); exact BK260.out)) : gb261 ≠ gb260)); clear BK260; clear HB; have BK260 := n0_; have HB := n1_; have BK261 := n2_; have GW261 := n3_; have GE261 := n4_; have NB260_261 := n5_; have NB261_260 := n6_; clear n0_ n1_ n2_ n3_ n4_ n5_ n6_; clear hb hbox hg; have hnb10 := NB260_261.out; have hnc10 := NB261_260.out; have hcz11_0 : w9.cell? ⟨gb260, 0, none⟩ = some (.string a0_0) := (blk_cell BK260.out 0).trans rfl; have hcz11_1 : w9.cell? ⟨gb260, 1, none⟩ = some (.slice A0_1 l0_1.length c0_1) := (blk_cell BK260.out 1).trans rfl; have hcz11_2 : w9.cell? ⟨gb260, 2, none⟩ = some (.slice A0_2 l0_2.length c0_2) := (blk_cell BK260.out 2).trans rfl; have hfz11_0 := blk_frozen BK260.out 0; have hfz11_1 := blk_frozen BK260.out 1; have hfz11_2 := blk_frozen BK260.out 2; have hcz12_0 : w9.cell? ⟨gb261, 0, none⟩ = some (.string a1_0) := (blk_cell BK261.out 0).trans rfl; have hcz12_1 : w9.cell? ⟨gb261, 1, none⟩ = some (.slice A1_1 l1_1.length c1_1) := (blk_cell BK261.out 1).trans rfl; have hcz12_2 : w9.cell? ⟨gb261, 2, none⟩ = some (.slice A1_2 l1_2.length c1_2) := (blk_cell BK261.out 2).trans rfl; have hfz12_0 := blk_frozen BK261.out 0; have hfz12_1 := blk_frozen BK261.out 1; have hfz12_2 := blk_frozen BK261.out 2) | ((with_reducible refine gate_callee (f := 36) rfl ?_); refine goesL_ (some 14) rfl rfl Try.func36 (by kernel_rfl) rfl #[.slice A0_1 l0_1.length c0_1, .slice A1_1 l1_1.length c1_1] rfl (by (try simp only [List.map_toArray, List.map_cons, List.map_nil]); first | done | rfl | (simp only [List.length_drop, List.length_take]; rfl)) ?_; (with_reducible refine (laws_eqStringS.calls k _ _ l0_1 _ _ l1_1 true _ ?side1 ?side2 ?side3 ?side4 A4.out).mono ?_); (case side1 => repeat (first | exact (Kd.C_below HR0_1.out HB.out) | (with_reducible refine Kd.C_alloc ?_ _) | (with_reducible refine Kd.C_drewN ?_ _) | (with_reducible refine Kd.C_drew ?_))); (case side2 => exact HC0_1.out); (case side3 => repeat (first | exact (Kd.C_below HR1_1.out HB.out) | (with_reducible refine Kd.C_alloc ?_ _) | (with_reducible refine Kd.C_drewN ?_ _) | (with_reducible refine Kd.C_drew ?_))); (case side4 => exact HC1_1.out); rintro e w' ⟨rfl, ⟨nd, rfl⟩⟩; refine ⟨_, rfl, ?_⟩) | ((with_reducible refine gate_callee (f := 37) rfl ?_); refine goesL_ (some 20) rfl rfl Try.func37 (by kernel_rfl) rfl #[.slice A0_2 l0_2.length c0_2, .slice A1_2 l1_2.length c1_2] rfl (by (try simp only [List.map_toArray, List.map_cons, List.map_nil]); first | done | rfl | (simp only [List.length_drop, List.length_take]; rfl)) ?_; (with_reducible refine (laws_eqByteS.calls k _ _ l0_2 _ _ l1_2 true _ ?side1 ?side2 ?side3 ?side4 A6.out).mono ?_); (case side1 => repeat (first | exact (Kd.C_below HR0_2.out (by repeat (first | (with_reducible first | exact HB.out | apply below_alloc | apply pw_below_drewN | apply below_drew1 | refine below_set ?_ GE260.out | refine below_set ?_ GE261.out) | exact HB.out))) | (with_reducible refine Kd.C_alloc ?_ _) | (with_reducible refine Kd.C_drewN ?_ _) | (with_reducible refine Kd.C_drew ?_))); (case side2 => exact HC0_2.out); (case side3 => repeat (first | exact (Kd.C_below HR1_2.out (by repeat (first | (with_reducible first | exact HB.out | apply below_alloc | apply pw_below_drewN | apply below_drew1 | refine below_set ?_ GE260.out | refine below_set ?_ GE261.out) | exact HB.out))) | (with_reducible refine Kd.C_alloc ?_ _) | (with_reducible refine Kd.C_drewN ?_ _) | (with_reducible refine Kd.C_drew ?_))); (case side4 => exact HC1_2.out); rintro e w' ⟨rfl, ⟨nd, rfl⟩⟩; refine ⟨_, rfl, ?_⟩))
    go_ret
    exact ⟨by first | rfl | (simp [errW_none, errW_some] <;> rfl) | (simp [*, errW_none, errW_some] <;> rfl), by repeat (first | (with_reducible first | exact HB.out | apply below_alloc | apply pw_below_drewN | apply below_drew1 | refine below_set ?_ GE260.out | refine below_set ?_ GE261.out) | exact HB.out)⟩
   ·replace c7 := Bool.eq_false_iff.mpr c7
    subst c7
    have H1 : (some false) = some r := by rw [if_neg (show ¬ (false = true) by decide)] at H; exact H
    clear H
    have H := H1
    clear H1
    obtain rfl := Option.some.inj H
    go_enter Try.func17, Try.ntmps17
    go_wp2_with (first | ((with_reducible refine gate_dst (N := 2) rfl ?_); refine box_event ?hg (N := 2) ?hd (cs := #[.string a0_0, .slice A0_1 l0_1.length c0_1, .slice A0_2 l0_2.length c0_2]) (t := 40) ?hr ?_; (case hd => rfl); (case hg => rfl); (case hr => first | (go_simp; done) | (go_simp; rfl)); intro gb260 hg w13 hbox hb; have n0_ := Aside0.mk (below_step (by repeat (first | (with_reducible first | exact HB.out | apply below_alloc | apply pw_below_drewN | apply below_drew1) | exact HB.out)) hb); have n1_ := Aside0.mk (hbox); have n2_ := Aside0.mk ((by rw [hg]; exact (below_size (by repeat (first | (with_reducible first | exact HB.out | apply below_alloc | apply pw_below_drewN | apply below_drew1) | exact HB.out))) : w.heap.size ≤ gb260)); have n3_ := Aside0.mk ((by rw [hg]; exact (below_size (by repeat (first | (with_reducible first | exact HB.out | apply below_alloc | apply pw_below_drewN | apply below_drew1) | exact HB.out))) : w.heap.size ≤ gb260)); clear HB; have HB := n0_; have BK260 := n1_; have GW260 := n2_; have GE260 := n3_; clear n0_ n1_ n2_ n3_; clear hb hbox hg) | ((with_reducible refine gate_dst (N := 3) rfl ?_); refine box_event ?hg (N := 3) ?hd (cs := #[.string a1_0, .slice A1_1 l1_1.length c1_1, .slice A1_2 l1_2.length c1_2]) (t := 40) ?hr ?_; (case hd => rfl); (case hg => rfl); (case hr => first | (go_simp; done) | (go_simp; rfl)); intro gb261 hg w14 hbox hb; have n0_ := Aside0.mk (blk_below (g := gb260) (o := .cells #[.string a0_0, .slice A0_1 l0_1.length c0_1, .slice A0_2 l0_2.length c0_2] 40 (0, 0)) (by (with_reducible repeat (first | refine blk_drewN ?_ _ | refine blk_drew ?_ | refine blk_alloc ?_ _)); exact BK260.out) hb); have n1_ := Aside0.mk (below_step (by repeat (first | (with_reducible first | exact HB.out | apply below_alloc | apply pw_below_drewN | apply below_drew1 | refine below_set ?_ GE260.out) | exact HB.out)) hb); have n2_ := Aside0.mk (hbox); have n3_ := Aside0.mk ((by rw [hg]; exact (below_size (by repeat (first | (with_reducible first | exact HB.out | apply below_alloc | apply pw_below_drewN | apply below_drew1 | refine below_set ?_ GE260.out) | exact HB.out))) : w.heap.size ≤ gb261)); have n4_ := Aside0.mk ((by rw [hg]; exact (below_size (by repeat (first | (with_reducible first | exact HB.out | apply below_alloc | apply pw_below_drewN | apply below_drew1 | refine below_set ?_ GE260.out) | exact HB.out))) : w.heap.size ≤ gb261)); have n5_ := Aside0.mk ((by rw [hg]; exact Nat.ne_of_lt (blk_lt (g := gb260) (o := .cells #[.string a0_0, .slice A0_1 l0_1.length c0_1, .slice A0_2 l0_2.length c0_2] 40 (0, 0)) (by (with_reducible repeat (first | refine blk_drewN ?_ _ | refine blk_drew ?_ | refine blk_alloc ?_ _)); exact BK260.out)) : gb260 ≠ gb261)); have n6_ := Aside0.mk ((by rw [hg]; exact Nat.ne_of_gt (blk_lt (g := gb260) (o := .cells #[.string a0_0, .slice A0_1 l0_1.length c0_1, .slice A0_2 l0_2.length c0_2] 40 (0, 0)) (by (with_reducible repeat (first | refine blk_drewN ?_ _ | refine blk_drew ?_ | refine blk_alloc ?_ _)); exact BK260.out)) : gb261 ≠ gb260)); clear BK260; clear HB; have BK260 := n0_; have HB := n1_; have BK261 := n2_; have GW261 := n3_; have GE261 := n4_; have NB260_261 := n5_; have NB261_260 := n6_; clear n0_ n1_ n2_ n3_ n4_ n5_ n6_; clear hb hbox hg; have hnb15 := NB260_261.out; have hnc15 := NB261_260.out; have hcz16_0 : w14.cell? ⟨gb260, 0, none⟩ = some (.string a0_0) := (blk_cell BK260.out 0).trans rfl; have hcz16_1 : w14.cell? ⟨gb260, 1, none⟩ = some (.slice A0_1 l0_1.length c0_1) := (blk_cell BK260.out 1).trans rfl; have hcz16_2 : w14.cell? ⟨gb260, 2, none⟩ = some (.slice A0_2 l0_2.length c0_2) := (blk_cell BK260.out 2).trans rfl; have hfz16_0 := blk_frozen BK260.out 0; have hfz16_1 := blk_frozen BK260.out 1; have hfz16_2 := blk_frozen BK260.out 2; have hcz17_0 : w14.cell? ⟨gb261, 0, none⟩ = some (.string a1_0) := (blk_cell BK261.out 0).trans rfl; have hcz17_1 : w14.cell? ⟨gb261, 1, none⟩ = some (.slice A1_1 l1_1.length c1_1) := (blk_cell BK261.out 1).trans rfl; have hcz17_2 : w14.cell? ⟨gb261, 2, none⟩ = some (.slice A1_2 l1_2.length c1_2) := (blk_cell BK261.out 2).trans rfl; have hfz17_0 := blk_frozen BK261.out 0; have hfz17_1 := blk_frozen BK261.out 1; have hfz17_2 := blk_frozen BK261.out 2) | ((with_reducible refine gate_callee (f := 36) rfl ?_); refine goesL_ (some 14) rfl rfl Try.func36 (by kernel_rfl) rfl #[.slice A0_1 l0_1.length c0_1, .slice A1_1 l1_1.length c1_1] rfl (by (try simp only [List.map_toArray, List.map_cons, List.map_nil]); first | done | rfl | (simp only [List.length_drop, List.length_take]; rfl)) ?_; (with_reducible refine (laws_eqStringS.calls k _ _ l0_1 _ _ l1_1 true _ ?side1 ?side2 ?side3 ?side4 A4.out).mono ?_); (case side1 => repeat (first | exact (Kd.C_below HR0_1.out HB.out) | (with_reducible refine Kd.C_alloc ?_ _) | (with_reducible refine Kd.C_drewN ?_ _) | (with_reducible refine Kd.C_drew ?_))); (case side2 => exact HC0_1.out); (case side3 => repeat (first | exact (Kd.C_below HR1_1.out HB.out) | (with_reducible refine Kd.C_alloc ?_ _) | (with_reducible refine Kd.C_drewN ?_ _) | (with_reducible refine Kd.C_drew ?_))); (case side4 => exact HC1_1.out); rintro e w' ⟨rfl, ⟨nd, rfl⟩⟩; refine ⟨_, rfl, ?_⟩) | ((with_reducible refine gate_callee (f := 37) rfl ?_); refine goesL_ (some 20) rfl rfl Try.func37 (by kernel_rfl) rfl #[.slice A0_2 l0_2.length c0_2, .slice A1_2 l1_2.length c1_2] rfl (by (try simp only [List.map_toArray, List.map_cons, List.map_nil]); first | done | rfl | (simp only [List.length_drop, List.length_take]; rfl)) ?_; (with_reducible refine (laws_eqByteS.calls k _ _ l0_2 _ _ l1_2 false _ ?side1 ?side2 ?side3 ?side4 A6.out).mono ?_); (case side1 => repeat (first | exact (Kd.C_below HR0_2.out (by repeat (first | (with_reducible first | exact HB.out | apply below_alloc | apply pw_below_drewN | apply below_drew1 | refine below_set ?_ GE260.out | refine below_set ?_ GE261.out) | exact HB.out))) | (with_reducible refine Kd.C_alloc ?_ _) | (with_reducible refine Kd.C_drewN ?_ _) | (with_reducible refine Kd.C_drew ?_))); (case side2 => exact HC0_2.out); (case side3 => repeat (first | exact (Kd.C_below HR1_2.out (by repeat (first | (with_reducible first | exact HB.out | apply below_alloc | apply pw_below_drewN | apply below_drew1 | refine below_set ?_ GE260.out | refine below_set ?_ GE261.out) | exact HB.out))) | (with_reducible refine Kd.C_alloc ?_ _) | (with_reducible refine Kd.C_drewN ?_ _) | (with_reducible refine Kd.C_drew ?_))); (case side4 => exact HC1_2.out); rintro e w' ⟨rfl, ⟨nd, rfl⟩⟩; refine ⟨_, rfl, ?_⟩))
    go_ret
    exact ⟨by first | rfl | (simp [errW_none, errW_some] <;> rfl) | (simp [*, errW_none, errW_some] <;> rfl), by repeat (first | (with_reducible first | exact HB.out | apply below_alloc | apply pw_below_drewN | apply below_drew1 | refine below_set ?_ GE260.out | refine below_set ?_ GE261.out) | exact HB.out)⟩
  ·replace c5 := Bool.eq_false_iff.mpr c5
   subst c5
   have H1 : (some false) = some r := by rw [if_neg (show ¬ (false = true) by decide)] at H; exact H
   clear H
   have H := H1
   clear H1
   obtain rfl := Option.some.inj H
   go_enter Try.func17, Try.ntmps17
   go_wp2_with (first | ((with_reducible refine gate_dst (N := 2) rfl ?_); refine box_event ?hg (N := 2) ?hd (cs := #[.string a0_0, .slice A0_1 l0_1.length c0_1, .slice A0_2 l0_2.length c0_2]) (t := 40) ?hr ?_; (case hd => rfl); (case hg => rfl); (case hr => first | (go_simp; done) | (go_simp; rfl)); intro gb260 hg w18 hbox hb; have n0_ := Aside0.mk (below_step (by repeat (first | (with_reducible first | exact HB.out | apply below_alloc | apply pw_below_drewN | apply below_drew1) | exact HB.out)) hb); have n1_ := Aside0.mk (hbox); have n2_ := Aside0.mk ((by rw [hg]; exact (below_size (by repeat (first | (with_reducible first | exact HB.out | apply below_alloc | apply pw_below_drewN | apply below_drew1) | exact HB.out))) : w.heap.size ≤ gb260)); have n3_ := Aside0.mk ((by rw [hg]; exact (below_size (by repeat (first | (with_reducible first | exact HB.out | apply below_alloc | apply pw_below_drewN | apply below_drew1) | exact HB.out))) : w.heap.size ≤ gb260)); clear HB; have HB := n0_; have BK260 := n1_; have GW260 := n2_; have GE260 := n3_; clear n0_ n1_ n2_ n3_; clear hb hbox hg) | ((with_reducible refine gate_dst (N := 3) rfl ?_); refine box_event ?hg (N := 3) ?hd (cs := #[.string a1_0, .slice A1_1 l1_1.length c1_1, .slice A1_2 l1_2.length c1_2]) (t := 40) ?hr ?_; (case hd => rfl); (case hg => rfl); (case hr => first | (go_simp; done) | (go_simp; rfl)); intro gb261 hg w19 hbox hb; have n0_ := Aside0.mk (blk_below (g := gb260) (o := .cells #[.string a0_0, .slice A0_1 l0_1.length c0_1, .slice A0_2 l0_2.length c0_2] 40 (0, 0)) (by (with_reducible repeat (first | refine blk_drewN ?_ _ | refine blk_drew ?_ | refine blk_alloc ?_ _)); exact BK260.out) hb); have n1_ := Aside0.mk (below_step (by repeat (first | (with_reducible first | exact HB.out | apply below_alloc | apply pw_below_drewN | apply below_drew1 | refine below_set ?_ GE260.out) | exact HB.out)) hb); have n2_ := Aside0.mk (hbox); have n3_ := Aside0.mk ((by rw [hg]; exact (below_size (by repeat (first | (with_reducible first | exact HB.out | apply below_alloc | apply pw_below_drewN | apply below_drew1 | refine below_set ?_ GE260.out) | exact HB.out))) : w.heap.size ≤ gb261)); have n4_ := Aside0.mk ((by rw [hg]; exact (below_size (by repeat (first | (with_reducible first | exact HB.out | apply below_alloc | apply pw_below_drewN | apply below_drew1 | refine below_set ?_ GE260.out) | exact HB.out))) : w.heap.size ≤ gb261)); have n5_ := Aside0.mk ((by rw [hg]; exact Nat.ne_of_lt (blk_lt (g := gb260) (o := .cells #[.string a0_0, .slice A0_1 l0_1.length c0_1, .slice A0_2 l0_2.length c0_2] 40 (0, 0)) (by (with_reducible repeat (first | refine blk_drewN ?_ _ | refine blk_drew ?_ | refine blk_alloc ?_ _)); exact BK260.out)) : gb260 ≠ gb261)); have n6_ := Aside0.mk ((by rw [hg]; exact Nat.ne_of_gt (blk_lt (g := gb260) (o := .cells #[.string a0_0, .slice A0_1 l0_1.length c0_1, .slice A0_2 l0_2.length c0_2] 40 (0, 0)) (by (with_reducible repeat (first | refine blk_drewN ?_ _ | refine blk_drew ?_ | refine blk_alloc ?_ _)); exact BK260.out)) : gb261 ≠ gb260)); clear BK260; clear HB; have BK260 := n0_; have HB := n1_; have BK261 := n2_; have GW261 := n3_; have GE261 := n4_; have NB260_261 := n5_; have NB261_260 := n6_; clear n0_ n1_ n2_ n3_ n4_ n5_ n6_; clear hb hbox hg; have hnb20 := NB260_261.out; have hnc20 := NB261_260.out; have hcz21_0 : w19.cell? ⟨gb260, 0, none⟩ = some (.string a0_0) := (blk_cell BK260.out 0).trans rfl; have hcz21_1 : w19.cell? ⟨gb260, 1, none⟩ = some (.slice A0_1 l0_1.length c0_1) := (blk_cell BK260.out 1).trans rfl; have hcz21_2 : w19.cell? ⟨gb260, 2, none⟩ = some (.slice A0_2 l0_2.length c0_2) := (blk_cell BK260.out 2).trans rfl; have hfz21_0 := blk_frozen BK260.out 0; have hfz21_1 := blk_frozen BK260.out 1; have hfz21_2 := blk_frozen BK260.out 2; have hcz22_0 : w19.cell? ⟨gb261, 0, none⟩ = some (.string a1_0) := (blk_cell BK261.out 0).trans rfl; have hcz22_1 : w19.cell? ⟨gb261, 1, none⟩ = some (.slice A1_1 l1_1.length c1_1) := (blk_cell BK261.out 1).trans rfl; have hcz22_2 : w19.cell? ⟨gb261, 2, none⟩ = some (.slice A1_2 l1_2.length c1_2) := (blk_cell BK261.out 2).trans rfl; have hfz22_0 := blk_frozen BK261.out 0; have hfz22_1 := blk_frozen BK261.out 1; have hfz22_2 := blk_frozen BK261.out 2) | ((with_reducible refine gate_callee (f := 36) rfl ?_); refine goesL_ (some 14) rfl rfl Try.func36 (by kernel_rfl) rfl #[.slice A0_1 l0_1.length c0_1, .slice A1_1 l1_1.length c1_1] rfl (by (try simp only [List.map_toArray, List.map_cons, List.map_nil]); first | done | rfl | (simp only [List.length_drop, List.length_take]; rfl)) ?_; (with_reducible refine (laws_eqStringS.calls k _ _ l0_1 _ _ l1_1 false _ ?side1 ?side2 ?side3 ?side4 A4.out).mono ?_); (case side1 => repeat (first | exact (Kd.C_below HR0_1.out HB.out) | (with_reducible refine Kd.C_alloc ?_ _) | (with_reducible refine Kd.C_drewN ?_ _) | (with_reducible refine Kd.C_drew ?_))); (case side2 => exact HC0_1.out); (case side3 => repeat (first | exact (Kd.C_below HR1_1.out HB.out) | (with_reducible refine Kd.C_alloc ?_ _) | (with_reducible refine Kd.C_drewN ?_ _) | (with_reducible refine Kd.C_drew ?_))); (case side4 => exact HC1_1.out); rintro e w' ⟨rfl, ⟨nd, rfl⟩⟩; refine ⟨_, rfl, ?_⟩))
   go_ret
   exact ⟨by first | rfl | (simp [errW_none, errW_some] <;> rfl) | (simp [*, errW_none, errW_some] <;> rfl), by repeat (first | (with_reducible first | exact HB.out | apply below_alloc | apply pw_below_drewN | apply below_drew1 | refine below_set ?_ GE260.out | refine below_set ?_ GE261.out) | exact HB.out)⟩
 ·rw [if_neg c3] at H
  have c3b0 : (a0_0.toList == a1_0.toList) = false := beq_eq_false_iff_ne.mpr c3
  have c3b1 : (a0_0.toList != a1_0.toList) = true := bne_iff_ne.mpr c3
  obtain rfl := Option.some.inj H
  go_enter Try.func17, Try.ntmps17
  go_wp2_with (first | ((with_reducible refine gate_dst (N := 2) rfl ?_); refine box_event ?hg (N := 2) ?hd (cs := #[.string a0_0, .slice A0_1 l0_1.length c0_1, .slice A0_2 l0_2.length c0_2]) (t := 40) ?hr ?_; (case hd => rfl); (case hg => rfl); (case hr => first | (go_simp; done) | (go_simp; rfl)); intro gb260 hg w23 hbox hb; have n0_ := Aside0.mk (below_step (by repeat (first | (with_reducible first | exact HB.out | apply below_alloc | apply pw_below_drewN | apply below_drew1) | exact HB.out)) hb); have n1_ := Aside0.mk (hbox); have n2_ := Aside0.mk ((by rw [hg]; exact (below_size (by repeat (first | (with_reducible first | exact HB.out | apply below_alloc | apply pw_below_drewN | apply below_drew1) | exact HB.out))) : w.heap.size ≤ gb260)); have n3_ := Aside0.mk ((by rw [hg]; exact (below_size (by repeat (first | (with_reducible first | exact HB.out | apply below_alloc | apply pw_below_drewN | apply below_drew1) | exact HB.out))) : w.heap.size ≤ gb260)); clear HB; have HB := n0_; have BK260 := n1_; have GW260 := n2_; have GE260 := n3_; clear n0_ n1_ n2_ n3_; clear hb hbox hg) | ((with_reducible refine gate_dst (N := 3) rfl ?_); refine box_event ?hg (N := 3) ?hd (cs := #[.string a1_0, .slice A1_1 l1_1.length c1_1, .slice A1_2 l1_2.length c1_2]) (t := 40) ?hr ?_; (case hd => rfl); (case hg => rfl); (case hr => first | (go_simp; done) | (go_simp; rfl)); intro gb261 hg w24 hbox hb; have n0_ := Aside0.mk (blk_below (g := gb260) (o := .cells #[.string a0_0, .slice A0_1 l0_1.length c0_1, .slice A0_2 l0_2.length c0_2] 40 (0, 0)) (by (with_reducible repeat (first | refine blk_drewN ?_ _ | refine blk_drew ?_ | refine blk_alloc ?_ _)); exact BK260.out) hb); have n1_ := Aside0.mk (below_step (by repeat (first | (with_reducible first | exact HB.out | apply below_alloc | apply pw_below_drewN | apply below_drew1 | refine below_set ?_ GE260.out) | exact HB.out)) hb); have n2_ := Aside0.mk (hbox); have n3_ := Aside0.mk ((by rw [hg]; exact (below_size (by repeat (first | (with_reducible first | exact HB.out | apply below_alloc | apply pw_below_drewN | apply below_drew1 | refine below_set ?_ GE260.out) | exact HB.out))) : w.heap.size ≤ gb261)); have n4_ := Aside0.mk ((by rw [hg]; exact (below_size (by repeat (first | (with_reducible first | exact HB.out | apply below_alloc | apply pw_below_drewN | apply below_drew1 | refine below_set ?_ GE260.out) | exact HB.out))) : w.heap.size ≤ gb261)); have n5_ := Aside0.mk ((by rw [hg]; exact Nat.ne_of_lt (blk_lt (g := gb260) (o := .cells #[.string a0_0, .slice A0_1 l0_1.length c0_1, .slice A0_2 l0_2.length c0_2] 40 (0, 0)) (by (with_reducible repeat (first | refine blk_drewN ?_ _ | refine blk_drew ?_ | refine blk_alloc ?_ _)); exact BK260.out)) : gb260 ≠ gb261)); have n6_ := Aside0.mk ((by rw [hg]; exact Nat.ne_of_gt (blk_lt (g := gb260) (o := .cells #[.string a0_0, .slice A0_1 l0_1.length c0_1, .slice A0_2 l0_2.length c0_2] 40 (0, 0)) (by (with_reducible repeat (first | refine blk_drewN ?_ _ | refine blk_drew ?_ | refine blk_alloc ?_ _)); exact BK260.out)) : gb261 ≠ gb260)); clear BK260; clear HB; have BK260 := n0_; have HB := n1_; have BK261 := n2_; have GW261 := n3_; have GE261 := n4_; have NB260_261 := n5_; have NB261_260 := n6_; clear n0_ n1_ n2_ n3_ n4_ n5_ n6_; clear hb hbox hg; have hnb25 := NB260_261.out; have hnc25 := NB261_260.out; have hcz26_0 : w24.cell? ⟨gb260, 0, none⟩ = some (.string a0_0) := (blk_cell BK260.out 0).trans rfl; have hcz26_1 : w24.cell? ⟨gb260, 1, none⟩ = some (.slice A0_1 l0_1.length c0_1) := (blk_cell BK260.out 1).trans rfl; have hcz26_2 : w24.cell? ⟨gb260, 2, none⟩ = some (.slice A0_2 l0_2.length c0_2) := (blk_cell BK260.out 2).trans rfl; have hfz26_0 := blk_frozen BK260.out 0; have hfz26_1 := blk_frozen BK260.out 1; have hfz26_2 := blk_frozen BK260.out 2; have hcz27_0 : w24.cell? ⟨gb261, 0, none⟩ = some (.string a1_0) := (blk_cell BK261.out 0).trans rfl; have hcz27_1 : w24.cell? ⟨gb261, 1, none⟩ = some (.slice A1_1 l1_1.length c1_1) := (blk_cell BK261.out 1).trans rfl; have hcz27_2 : w24.cell? ⟨gb261, 2, none⟩ = some (.slice A1_2 l1_2.length c1_2) := (blk_cell BK261.out 2).trans rfl; have hfz27_0 := blk_frozen BK261.out 0; have hfz27_1 := blk_frozen BK261.out 1; have hfz27_2 := blk_frozen BK261.out 2))
  go_ret
  exact ⟨by first | rfl | (simp [errW_none, errW_some] <;> rfl) | (simp [*, errW_none, errW_some] <;> rfl), by repeat (first | (with_reducible first | exact HB.out | apply below_alloc | apply pw_below_drewN | apply below_drew1 | refine below_set ?_ GE260.out | refine below_set ?_ GE261.out) | exact HB.out)⟩
end Go.Proofs.Ytehkpnnidbghhaa.PFnExactStampOf
namespace Go.Proofs.Ytehkpnnidbghhaa.PFnExactStampOf
open Go.RowKit Go.Proofs.YtehkpnnidbghhaaW.PrintWords Go.Proofs.YtehkpnnidbghhaaW.PrintLast Go.Proofs.YtehkpnnidbghhaaW.PrintMore
attribute [local go_sem] max2_int min2_int max_two min_two max_three min_three max_four min_four   -- for this text's walks alone
set_option linter.unusedVariables false
set_option linter.unusedSimpArgs false
def laws_eqAssetS.l0 : Nat → List (S40) → List (S40) → Int → Option (Bool)
 | 0, _, _, _ => none
 | k + 1, x0, x1, x5 => if x5 < (x0.length : Int) then (if 0 ≤ x5 then (if x5 < (x1.length : Int) then ((laws_eqAsset.f k ((rd_T40 x0 x5).f0) ((rd_T40 x0 x5).f1) ((rd_T40 x0 x5).f2) ((rd_T40 x1 x5).f0) ((rd_T40 x1 x5).f1) ((rd_T40 x1 x5).f2)).bind fun t266 => (if t266 = true then (laws_eqAssetS.l0 k x0 x1 (wrap64 (x5 + 1))) else (some false))) else (none)) else (none)) else (some true)
def laws_eqAssetS.f (k : Nat) (l0 : List (S40)) (l1 : List (S40)) : Option (Bool) := if (l0.length : Int) = (l1.length : Int) then (laws_eqAssetS.l0 k l0 l1 0) else (some false)
theorem laws_eqAssetS.mono_l : ∀ k, (∀ y0 y1 y2, LeO (laws_eqAssetS.l0 k y0 y1 y2) (laws_eqAssetS.l0 (k + 1) y0 y1 y2))
 | 0 => fun _ _ _ r h => by simp [laws_eqAssetS.l0] at h
 | k + 1 => by
  have ih0 := laws_eqAssetS.mono_l k
  ·intro y0 y1 y2
   unfold laws_eqAssetS.l0
   repeat' first
   | (with_reducible exact ih0 _ _ _)
   | (with_reducible exact laws_eqAsset.mono _ _ _ _ _ _ _)
   | (with_reducible first | exact LeO.refl _ | exact LeO.none _ | refine LeO.ite ?_ ?_ | refine LeO.bind ?_ (fun _ => ?_))
   | exact ih0 _ _ _
   | exact laws_eqAsset.mono _ _ _ _ _ _ _ | exact LeO.none _ | refine LeO.ite ?_ ?_ | refine LeO.bind ?_ (fun _ => ?_)
theorem laws_eqAssetS.mono : ∀ a0 a1 k, LeO (laws_eqAssetS.f k a0 a1) (laws_eqAssetS.f (k + 1) a0 a1) := by
 intro a0 a1 k
 have ih0 := laws_eqAssetS.mono_l k
 unfold laws_eqAssetS.f
 repeat' first
   | (with_reducible exact ih0 _ _ _)
   | (with_reducible exact laws_eqAsset.mono _ _ _ _ _ _ _)
   | (with_reducible first | exact LeO.refl _ | exact LeO.none _ | refine LeO.ite ?_ ?_ | refine LeO.bind ?_ (fun _ => ?_))
   | exact ih0 _ _ _
   | exact laws_eqAsset.mono _ _ _ _ _ _ _ | exact LeO.none _ | refine LeO.ite ?_ ?_ | refine LeO.bind ?_ (fun _ => ?_)
def laws_eqAssetS.T6 : Bool × List (List Nat × List Nat) := (true, [([], []), ([], []), ([0, 1], [0, 1]), ([2], [2]), ([], []), ([], []), ([4, 5], [4, 5]), ([6], [6]), ([3, 7], [3, 7]), ([8], [8])])
def laws_eqAssetS.B6 : List Nat := [0, 0, 3, 7, 0, 0, 48, 112, 255, 511]
theorem laws_eqAssetS.tab6 : rtab .any (opsOf Try.f8 6) = laws_eqAssetS.T6 := by kernel_rfl
theorem laws_eqAssetS.bits6 : waitsOk laws_eqAssetS.T6.2 laws_eqAssetS.B6 = true := by kernel_rfl
set_option maxHeartbeats 8000000 in
set_option maxRecDepth 100000 in
theorem laws_eqAssetS.calls (k : Nat) (A0 : Option Addr) (c0 : Nat) (l0 : List (S40)) (A1 : Option Addr) (c1 : Nat) (l1 : List (S40)) (r : Bool) (w : World) (hr0 : Kd.C k40 w A0 l0.length l0) (hc0 : l0.length ≤ c0) (hr1 : Kd.C k40 w A1 l1.length l1) (hc1 : l1.length ≤ c1) (h : laws_eqAssetS.f k l0 l1 = some r) :
  Calls Try.prog 8 #[.slice A0 l0.length c0, .slice A1 l1.length c1] w fun e w' => e = .returned (.bool r) ∧ Below w.heap.size w w' := by
 have hu40 := Try.underlying40
 have HR0 := Aside0.mk hr0
 have HC0 := Aside0.mk hc0
 clear hr0 hc0
 have HR1 := Aside0.mk hr1
 have HC1 := Aside0.mk hc1
 clear hr1 hc1
 have HB := Aside0.mk (Below.refl w.heap.size w)
 have H : (if (l0.length : Int) = (l1.length : Int) then (laws_eqAssetS.l0 k l0 l1 0) else (some false)) = some r := h
 clear h
 by_cases c3 : (l0.length : Int) = (l1.length : Int)
 ·rw [if_pos c3] at H
  have c3b0 : ((l0.length : Int) == (l1.length : Int)) = true := beq_iff_eq.mpr c3
  have c3b1 : ((l0.length : Int) != (l1.length : Int)) = false := bne_eq_false_iff_eq.mpr c3
  have c3b2 : (l0.length == l1.length) = true := by first | simpa using c3 | (simp at c3 ⊢; omega)
  clear c3
  have H' := Aside0.mk H
  clear H
  go_enter Try.func8, Try.ntmps8
  go_wp2
  go_loopg [5] k (fun kq v5 w' => ∃ (x5_1 : Int), v5 = .int .i64 x5_1 ∧ Aside0 (laws_eqAssetS.l0 kq l0 l1 x5_1 = some r) ∧ Aside0 (kq ≤ k) ∧ Aside0 (Below w.heap.size w w'))
  case atStart => exact ⟨(0), (by first | rfl | (simp; done) | (simp [*]; done) | exact not_isEmpty _ | exact (not_isEmpty _).symm | exact is_empty _ | exact (is_empty _).symm), H', ⟨Nat.le_refl _⟩, ⟨by repeat (first | (with_reducible first | exact HB.out | apply below_alloc | apply pw_below_drewN | apply below_drew1) | exact HB.out)⟩⟩
  case round =>
   clear H'
   try clear c1
   try clear p2
   try clear c3
   try clear c3b0
   try clear c3b1
   try clear c3b2
   obtain ⟨x5_1, rfl, HA, HK1, HB⟩ := hrel
   cases gk with
   | zero => exact absurd HA.out (by simp [laws_eqAssetS.l0])
   | succ k1 =>
    have H := HA.out
    clear HA
    simp only [laws_eqAssetS.l0] at H
    by_cases c4 : x5_1 < (l0.length : Int)
    ·rw [if_pos c4] at H
     have c4b0 : decide (x5_1 < (l0.length : Int)) = true := decide_eq_true c4
     clear c4
     by_cases c5 : 0 ≤ x5_1
     ·rw [if_pos c5] at H
      have c5b0 : decide (0 ≤ x5_1) = true := decide_eq_true c5
      clear c5
      by_cases c6 : x5_1 < (l1.length : Int)
      ·rw [if_pos c6] at H
       have c6b0 : decide (x5_1 < (l1.length : Int)) = true := decide_eq_true c6
       clear c6
       replace H := Option.bind_eq_some_iff.mp H
       obtain ⟨t266, A70, H⟩ := H
       replace H : (if t266 = true then (laws_eqAssetS.l0 k1 l0 l1 (wrap64 (x5_1 + 1))) else (some false)) = some r := H
       have A7 := Aside0.mk A70
       clear A70
       by_cases c8 : t266 = true
       ·subst c8
        have H1 : (laws_eqAssetS.l0 k1 l0 l1 (wrap64 (x5_1 + 1))) = some r := by rw [if_pos rfl] at H; exact H
        clear H
        have H := H1
        clear H1
        have H' := Aside0.mk H
        clear H
        try go_wp2
        have n0_ := Aside0.mk (below_drew1 HB.out)
        clear HB
        have HB := n0_
        clear n0_
        have p264 : 0 ≤ (x5_1 : Int) := of_decide_eq_true (by first | (with_reducible assumption) | assumption)
        have q264 : x5_1 < (l0.length : Int) := of_decide_eq_true (by first | (with_reducible assumption) | assumption)
        obtain ⟨ad264, A264_1, c264_1, A264_2, c264_2, e264, hx264_0, hx264_1, hx264_2, hl264_1, hi264_1, hl264_2, hi264_2⟩ := at_T40 HR0.out x5_1 p264 q264
        have hw264_2 := hx264_2
        have hw264_1 := hx264_1
        have hw264_0 := hx264_0
        cases e264
        replace hx264_0 := (HB.out.cell (World.block_lt_of_cell? w _ hx264_0)).trans hx264_0
        replace hx264_1 := (HB.out.cell (World.block_lt_of_cell? w _ hx264_1)).trans hx264_1
        replace hx264_2 := (HB.out.cell (World.block_lt_of_cell? w _ hx264_2)).trans hx264_2
        have HR264_1 := Aside0.mk hi264_1
        have HC264_1 := Aside0.mk hl264_1
        clear hi264_1 hl264_1
        have HR264_2 := Aside0.mk hi264_2
        have HC264_2 := Aside0.mk hl264_2
        clear hi264_2 hl264_2
        replace p264 := eq_true p264
        replace q264 := eq_true q264
        have p265 : 0 ≤ (x5_1 : Int) := of_decide_eq_true (by first | (with_reducible assumption) | assumption)
        have q265 : x5_1 < (l1.length : Int) := of_decide_eq_true (by first | (with_reducible assumption) | assumption)
        obtain ⟨ad265, A265_1, c265_1, A265_2, c265_2, e265, hx265_0, hx265_1, hx265_2, hl265_1, hi265_1, hl265_2, hi265_2⟩ := at_T40 HR1.out x5_1 p265 q265
        have hw265_2 := hx265_2
        have hw265_1 := hx265_1
        have hw265_0 := hx265_0
        cases e265
        replace hx265_0 := (HB.out.cell (World.block_lt_of_cell? w _ hx265_0)).trans hx265_0
        replace hx265_1 := (HB.out.cell (World.block_lt_of_cell? w _ hx265_1)).trans hx265_1
        replace hx265_2 := (HB.out.cell (World.block_lt_of_cell? w _ hx265_2)).trans hx265_2
        have HR265_1 := Aside0.mk hi265_1
        have HC265_1 := Aside0.mk hl265_1
        clear hi265_1 hl265_1
        have HR265_2 := Aside0.mk hi265_2
        have HC265_2 := Aside0.mk hl265_2
        clear hi265_2 hl265_2
        replace p265 := eq_true p265
        replace q265 := eq_true q265
        refine start_ (n := 10) (S := fun w' => w'.cell? (ad264.add ((x5_1).toNat * 3)) = some (.string ((rd_T40 l0 x5_1).f0)) ∧ w'.cell? ⟨(ad264.add ((x5_1).toNat * 3)).block, (ad264.add ((x5_1).toNat * 3)).off + 1, none⟩ = some (.slice A264_1 ((rd_T40 l0 x5_1).f1).length c264_1) ∧ w'.cell? ⟨(ad264.add ((x5_1).toNat * 3)).block, (ad264.add ((x5_1).toNat * 3)).off + 2, none⟩ = some (.slice A264_2 ((rd_T40 l0 x5_1).f2).length c264_2) ∧ w'.cell? (ad265.add ((x5_1).toNat * 3)) = some (.string ((rd_T40 l1 x5_1).f0)) ∧ w'.cell? ⟨(ad265.add ((x5_1).toNat * 3)).block, (ad265.add ((x5_1).toNat * 3)).off + 1, none⟩ = some (.slice A265_1 ((rd_T40 l1 x5_1).f1).length c265_1) ∧ w'.cell? ⟨(ad265.add ((x5_1).toNat * 3)).block, (ad265.add ((x5_1).toNat * 3)).off + 2, none⟩ = some (.slice A265_2 ((rd_T40 l1 x5_1).f2).length c265_2)) (ds := []) #[false, false, false, false, false, false, false, false, false, false] (by kernel_rfl) rfl rfl ⟨((HB.out.cell (World.block_lt_of_cell? w _ hw264_0)).trans hw264_0), ((HB.out.cell (World.block_lt_of_cell? w _ hw264_1)).trans hw264_1), ((HB.out.cell (World.block_lt_of_cell? w _ hw264_2)).trans hw264_2), ((HB.out.cell (World.block_lt_of_cell? w _ hw265_0)).trans hw265_0), ((HB.out.cell (World.block_lt_of_cell? w _ hw265_1)).trans hw265_1), ((HB.out.cell (World.block_lt_of_cell? w _ hw265_2)).trans hw265_2)⟩ (fun hHeld => ?_); refine with_tabW laws_eqAssetS.tab6 laws_eqAssetS.bits6 (fun HT_ HW_ => ?_)
        generalize wr.drew = w9 at HB HR264_1 HR264_2 HR265_1 HR265_2 hx264_0 hx264_1 hx264_2 hx265_0 hx265_1 hx265_2 hHeld ⊢
        refine pure_ (i := 0) (N := some 17) (v := ?_) (a' := ?_) #[true, false, false, false, false, false, false, false, false, false] rfl rfl (any_of HT_.out (by kernel_rfl)) (fun _ _ _ h => h) (Or.inl ⟨by rfl, ?_⟩) ?_ ?_
        rotate_left
        ·intro w'
         go_simp
         with_reducible rfl
        rotate_left
        ·simp only [Act.put, List.setIfInBounds_toArray, List.set_cons_zero, List.set_cons_succ, i64_w, i32_w]
         rfl
        refine pure_ (i := 1) (N := some 18) (v := ?_) (a' := ?_) #[true, true, false, false, false, false, false, false, false, false] rfl rfl (any_of HT_.out (by kernel_rfl)) (fun _ _ _ h => h) (Or.inl ⟨by rfl, ?_⟩) ?_ ?_
        rotate_left
        ·intro w'
         go_simp
         with_reducible rfl
        rotate_left
        ·simp only [Act.put, List.setIfInBounds_toArray, List.set_cons_zero, List.set_cons_succ, i64_w, i32_w]
         rfl
        refine pure_ (i := 2) (N := some 19) (v := ?_) (a' := ?_) #[true, true, true, false, false, false, false, false, false, false] rfl rfl (any_of HT_.out (by kernel_rfl)) (fun _ _ _ h => h) (Or.inl ⟨by rfl, ?_⟩) ?_ ?_
        rotate_left
        ·intro w'
         go_simp
         with_reducible rfl
        rotate_left
        ·simp only [Act.put, List.setIfInBounds_toArray, List.set_cons_zero, List.set_cons_succ, i64_w, i32_w]
         rfl
        refine pure_ (i := 4) (N := some 21) (v := ?_) (a' := ?_) #[true, true, true, false, true, false, false, false, false, false] rfl rfl (any_of HT_.out (by kernel_rfl)) (fun _ _ _ h => h) (Or.inl ⟨by rfl, ?_⟩) ?_ ?_
        rotate_left
        ·intro w'
         go_simp
         with_reducible rfl
        rotate_left
        ·simp only [Act.put, List.setIfInBounds_toArray, List.set_cons_zero, List.set_cons_succ, i64_w, i32_w]
         rfl
        refine pure_ (i := 5) (N := some 22) (v := ?_) (a' := ?_) #[true, true, true, false, true, true, false, false, false, false] rfl rfl (any_of HT_.out (by kernel_rfl)) (fun _ _ _ h => h) (Or.inl ⟨by rfl, ?_⟩) ?_ ?_
        rotate_left
        ·intro w'
         go_simp
         with_reducible rfl
        rotate_left
        ·simp only [Act.put, List.setIfInBounds_toArray, List.set_cons_zero, List.set_cons_succ, i64_w, i32_w]
         rfl
        refine pure_ (i := 6) (N := some 23) (v := ?_) (a' := ?_) #[true, true, true, false, true, true, true, false, false, false] rfl rfl (any_of HT_.out (by kernel_rfl)) (fun _ _ _ h => h) (Or.inl ⟨by rfl, ?_⟩) ?_ ?_
        rotate_left
        ·intro w'
         go_simp
         with_reducible rfl
        rotate_left
        ·simp only [Act.put, List.setIfInBounds_toArray, List.set_cons_zero, List.set_cons_succ, i64_w, i32_w]
         rfl
        refine take_ (i := 3) (N := some 20) (v := ?_) (a' := ?_) #[true, true, true, true, true, true, true, false, false, false] rfl rfl (take_ofW HT_.out HW_.out (by kernel_rfl)) (fun _ _ _ h => h) (Or.inl ⟨by rfl, ?_⟩) hHeld ?_ ?_
        rotate_left
        ·rintro w' ⟨s0, s1, s2, s3, s4, s5⟩
         go_simp
         with_reducible rfl
        rotate_left
        ·simp only [Act.put, List.setIfInBounds_toArray, List.set_cons_zero, List.set_cons_succ, i64_w, i32_w]
         rfl
        refine take_ (i := 7) (N := some 24) (v := ?_) (a' := ?_) #[true, true, true, true, true, true, true, true, false, false] rfl rfl (take_ofW HT_.out HW_.out (by kernel_rfl)) (fun _ _ _ h => h) (Or.inl ⟨by rfl, ?_⟩) hHeld ?_ ?_
        rotate_left
        ·rintro w' ⟨s0, s1, s2, s3, s4, s5⟩
         go_simp
         with_reducible rfl
        rotate_left
        ·simp only [Act.put, List.setIfInBounds_toArray, List.set_cons_zero, List.set_cons_succ, i64_w, i32_w]
         rfl
        refine one_ (i := 8) (N := some 25) #[true, true, true, true, true, true, true, true, true, false] rfl rfl (one_of HT_.out (by kernel_rfl)) (by decide) (fun K hK => ?_)
        refine goes_ Try.func17 (by kernel_rfl) rfl #[.agg #[.string ((rd_T40 l0 x5_1).f0), .slice A264_1 ((rd_T40 l0 x5_1).f1).length c264_1, .slice A264_2 ((rd_T40 l0 x5_1).f2).length c264_2], .agg #[.string ((rd_T40 l1 x5_1).f0), .slice A265_1 ((rd_T40 l1 x5_1).f1).length c265_1, .slice A265_2 ((rd_T40 l1 x5_1).f2).length c265_2]] (by rfl) rfl rfl (by (try simp only [List.map_toArray, List.map_cons, List.map_nil]); first | done | rfl | (simp only [List.length_drop, List.length_take]; rfl)) ?_
        with_reducible refine (laws_eqAsset.calls k1 ((rd_T40 l0 x5_1).f0) _ _ ((rd_T40 l0 x5_1).f1) _ _ ((rd_T40 l0 x5_1).f2) ((rd_T40 l1 x5_1).f0) _ _ ((rd_T40 l1 x5_1).f1) _ _ ((rd_T40 l1 x5_1).f2) true _ ?side1 ?side2 ?side3 ?side4 ?side5 ?side6 ?side7 ?side8 A7.out).mono ?_
        (case side1 => repeat (first | exact (Kd.C_below HR264_1.out HB.out) | (with_reducible refine Kd.C_alloc ?_ _) | (with_reducible refine Kd.C_drewN ?_ _) | (with_reducible refine Kd.C_drew ?_)))
        (case side2 => exact HC264_1.out)
        (case side3 => repeat (first | exact (Kd.C_below HR264_2.out HB.out) | (with_reducible refine Kd.C_alloc ?_ _) | (with_reducible refine Kd.C_drewN ?_ _) | (with_reducible refine Kd.C_drew ?_)))
        (case side4 => exact HC264_2.out)
        (case side5 => repeat (first | exact (Kd.C_below HR265_1.out HB.out) | (with_reducible refine Kd.C_alloc ?_ _) | (with_reducible refine Kd.C_drewN ?_ _) | (with_reducible refine Kd.C_drew ?_)))
        (case side6 => exact HC265_1.out)
        (case side7 => repeat (first | exact (Kd.C_below HR265_2.out HB.out) | (with_reducible refine Kd.C_alloc ?_ _) | (with_reducible refine Kd.C_drewN ?_ _) | (with_reducible refine Kd.C_drew ?_)))
        (case side8 => exact HC265_2.out)
        rintro e w10 ⟨rfl, hb⟩
        refine ⟨_, rfl, ?_⟩
        have n0_ := Aside0.mk (below_step (by repeat (first | (with_reducible first | exact HB.out | apply below_alloc | apply pw_below_drewN | apply below_drew1) | exact HB.out)) hb)
        clear HB
        have HB := n0_
        clear n0_
        (try clear hb)
        (try clear hb2)
        (try clear hk)
        (try clear hi)
        refine hK.out _ _ ⟨((HB.out.cell (World.block_lt_of_cell? w _ hw264_0)).trans hw264_0), ((HB.out.cell (World.block_lt_of_cell? w _ hw264_1)).trans hw264_1), ((HB.out.cell (World.block_lt_of_cell? w _ hw264_2)).trans hw264_2), ((HB.out.cell (World.block_lt_of_cell? w _ hw265_0)).trans hw265_0), ((HB.out.cell (World.block_lt_of_cell? w _ hw265_1)).trans hw265_1), ((HB.out.cell (World.block_lt_of_cell? w _ hw265_2)).trans hw265_2)⟩ (fun hHeld => ?_)
        clear hK K
        refine norm_ (a' := ?_) ?_ ?_
        rotate_left
        ·show Act.put _ (some 25) _ = _
         simp only [Act.put, List.setIfInBounds_toArray, List.set_cons_zero, List.set_cons_succ, i64_w, i32_w]
         rfl
        refine pure_ (i := 9) (N := some 26) (v := ?_) (a' := ?_) #[true, true, true, true, true, true, true, true, true, true] rfl rfl (any_of HT_.out (by kernel_rfl)) (fun _ _ _ h => h) (Or.inl ⟨by rfl, ?_⟩) ?_ ?_
        rotate_left
        ·intro w'
         go_simp
         with_reducible rfl
        rotate_left
        ·simp only [Act.put, List.setIfInBounds_toArray, List.set_cons_zero, List.set_cons_succ, i64_w, i32_w]
         rfl
        refine done_ (done_of HT_.out (by kernel_rfl)) ?_
        try go_wp2
        go_roundg k1
        case measure => have := HK1.out; omega
        case rel => exact ⟨(wrap64 (x5_1 + 1)), (by first | rfl | (simp; done) | (simp [*]; done) | exact not_isEmpty _ | exact (not_isEmpty _).symm | exact is_empty _ | exact (is_empty _).symm), H', ⟨by have := HK1.out; omega⟩, ⟨by repeat (first | (with_reducible first | exact HB.out | apply below_alloc | apply pw_below_drewN | apply below_drew1) | exact HB.out)⟩⟩
       ·replace c8 := Bool.eq_false_iff.mpr c8
        subst c8
        have H1 : (some false) = some r := by rw [if_neg (show ¬ (false = true) by decide)] at H; exact H
        clear H
        have H := H1
        clear H1
        obtain rfl := Option.some.inj H
        try go_wp2
        have n0_ := Aside0.mk (below_drew1 HB.out)
        clear HB
        have HB := n0_
        clear n0_
        have p264 : 0 ≤ (x5_1 : Int) := of_decide_eq_true (by first | (with_reducible assumption) | assumption)
        have q264 : x5_1 < (l0.length : Int) := of_decide_eq_true (by first | (with_reducible assumption) | assumption)
        obtain ⟨ad264, A264_1, c264_1, A264_2, c264_2, e264, hx264_0, hx264_1, hx264_2, hl264_1, hi264_1, hl264_2, hi264_2⟩ := at_T40 HR0.out x5_1 p264 q264
        have hw264_2 := hx264_2
        have hw264_1 := hx264_1
        have hw264_0 := hx264_0
        cases e264
        replace hx264_0 := (HB.out.cell (World.block_lt_of_cell? w _ hx264_0)).trans hx264_0
        replace hx264_1 := (HB.out.cell (World.block_lt_of_cell? w _ hx264_1)).trans hx264_1
        replace hx264_2 := (HB.out.cell (World.block_lt_of_cell? w _ hx264_2)).trans hx264_2
        have HR264_1 := Aside0.mk hi264_1
        have HC264_1 := Aside0.mk hl264_1
        clear hi264_1 hl264_1
        have HR264_2 := Aside0.mk hi264_2
        have HC264_2 := Aside0.mk hl264_2
        clear hi264_2 hl264_2
        replace p264 := eq_true p264
        replace q264 := eq_true q264
        have p265 : 0 ≤ (x5_1 : Int) := of_decide_eq_true (by first | (with_reducible assumption) | assumption)
        have q265 : x5_1 < (l1.length : Int) := of_decide_eq_true (by first | (with_reducible assumption) | assumption)
        obtain ⟨ad265, A265_1, c265_1, A265_2, c265_2, e265, hx265_0, hx265_1, hx265_2, hl265_1, hi265_1, hl265_2, hi265_2⟩ := at_T40 HR1.out x5_1 p265 q265
        have hw265_2 := hx265_2
        have hw265_1 := hx265_1
        have hw265_0 := hx265_0
        cases e265
        replace hx265_0 := (HB.out.cell (World.block_lt_of_cell? w _ hx265_0)).trans hx265_0
        replace hx265_1 := (HB.out.cell (World.block_lt_of_cell? w _ hx265_1)).trans hx265_1
        replace hx265_2 := (HB.out.cell (World.block_lt_of_cell? w _ hx265_2)).trans hx265_2
        have HR265_1 := Aside0.mk hi265_1
        have HC265_1 := Aside0.mk hl265_1
        clear hi265_1 hl265_1
        have HR265_2 := Aside0.mk hi265_2
        have HC265_2 := Aside0.mk hl265_2
        clear hi265_2 hl265_2
        replace p265 := eq_true p265
        replace q265 := eq_true q265
        refine start_ (n := 10) (S := fun w' => w'.cell? (ad264.add ((x5_1).toNat * 3)) = some (.string ((rd_T40 l0 x5_1).f0)) ∧ w'.cell? ⟨(ad264.add ((x5_1).toNat * 3)).block, (ad264.add ((x5_1).toNat * 3)).off + 1, none⟩ = some (.slice A264_1 ((rd_T40 l0 x5_1).f1).length c264_1) ∧ w'.cell? ⟨(ad264.add ((x5_1).toNat * 3)).block, (ad264.add ((x5_1).toNat * 3)).off + 2, none⟩ = some (.slice A264_2 ((rd_T40 l0 x5_1).f2).length c264_2) ∧ w'.cell? (ad265.add ((x5_1).toNat * 3)) = some (.string ((rd_T40 l1 x5_1).f0)) ∧ w'.cell? ⟨(ad265.add ((x5_1).toNat * 3)).block, (ad265.add ((x5_1).toNat * 3)).off + 1, none⟩ = some (.slice A265_1 ((rd_T40 l1 x5_1).f1).length c265_1) ∧ w'.cell? ⟨(ad265.add ((x5_1).toNat * 3)).block, (ad265.add ((x5_1).toNat * 3)).off + 2, none⟩ = some (.slice A265_2 ((rd_T40 l1 x5_1).f2).length c265_2)) (ds := []) #[false, false, false, false, false, false, false, false, false, false] (by kernel_rfl) rfl rfl ⟨((HB.out.cell (World.block_lt_of_cell? w _ hw264_0)).trans hw264_0), ((HB.out.cell (World.block_lt_of_cell? w _ hw264_1)).trans hw264_1), ((HB.out.cell (World.block_lt_of_cell? w _ hw264_2)).trans hw264_2), ((HB.out.cell (World.block_lt_of_cell? w _ hw265_0)).trans hw265_0), ((HB.out.cell (World.block_lt_of_cell? w _ hw265_1)).trans hw265_1), ((HB.out.cell (World.block_lt_of_cell? w _ hw265_2)).trans hw265_2)⟩ (fun hHeld => ?_); refine with_tabW laws_eqAssetS.tab6 laws_eqAssetS.bits6 (fun HT_ HW_ => ?_)
        generalize wr.drew = w11 at HB HR264_1 HR264_2 HR265_1 HR265_2 hx264_0 hx264_1 hx264_2 hx265_0 hx265_1 hx265_2 hHeld ⊢
        refine pure_ (i := 0) (N := some 17) (v := ?_) (a' := ?_) #[true, false, false, false, false, false, false, false, false, false] rfl rfl (any_of HT_.out (by kernel_rfl)) (fun _ _ _ h => h) (Or.inl ⟨by rfl, ?_⟩) ?_ ?_
        rotate_left
        ·intro w'
         go_simp
         with_reducible rfl
        rotate_left
        ·simp only [Act.put, List.setIfInBounds_toArray, List.set_cons_zero, List.set_cons_succ, i64_w, i32_w]
         rfl
        refine pure_ (i := 1) (N := some 18) (v := ?_) (a' := ?_) #[true, true, false, false, false, false, false, false, false, false] rfl rfl (any_of HT_.out (by kernel_rfl)) (fun _ _ _ h => h) (Or.inl ⟨by rfl, ?_⟩) ?_ ?_
        rotate_left
        ·intro w'
         go_simp
         with_reducible rfl
        rotate_left
        ·simp only [Act.put, List.setIfInBounds_toArray, List.set_cons_zero, List.set_cons_succ, i64_w, i32_w]
         rfl
        refine pure_ (i := 2) (N := some 19) (v := ?_) (a' := ?_) #[true, true, true, false, false, false, false, false, false, false] rfl rfl (any_of HT_.out (by kernel_rfl)) (fun _ _ _ h => h) (Or.inl ⟨by rfl, ?_⟩) ?_ ?_
        rotate_left
        ·intro w'
         go_simp
         with_reducible rfl
        rotate_left
        ·simp only [Act.put, List.setIfInBounds_toArray, List.set_cons_zero, List.set_cons_succ, i64_w, i32_w]
         rfl
        refine pure_ (i := 4) (N := some 21) (v := ?_) (a' := ?_) #[true, true, true, false, true, false, false, false, false, false] rfl rfl (any_of HT_.out (by kernel_rfl)) (fun _ _ _ h => h) (Or.inl ⟨by rfl, ?_⟩) ?_ ?_
        rotate_left
        ·intro w'
         go_simp
         with_reducible rfl
        rotate_left
        ·simp only [Act.put, List.setIfInBounds_toArray, List.set_cons_zero, List.set_cons_succ, i64_w, i32_w]
         rfl
        refine pure_ (i := 5) (N := some 22) (v := ?_) (a' := ?_) #[true, true, true, false, true, true, false, false, false, false] rfl rfl (any_of HT_.out (by kernel_rfl)) (fun _ _ _ h => h) (Or.inl ⟨by rfl, ?_⟩) ?_ ?_
        rotate_left
        ·intro w'
         go_simp
         with_reducible rfl
        rotate_left
        ·simp only [Act.put, List.setIfInBounds_toArray, List.set_cons_zero, List.set_cons_succ, i64_w, i32_w]
         rfl
        refine pure_ (i := 6) (N := some 23) (v := ?_) (a' := ?_) #[true, true, true, false, true, true, true, false, false, false] rfl rfl (any_of HT_.out (by kernel_rfl)) (fun _ _ _ h => h) (Or.inl ⟨by rfl, ?_⟩) ?_ ?_
        rotate_left
        ·intro w'
         go_simp
         with_reducible rfl
        rotate_left
        ·simp only [Act.put, List.setIfInBounds_toArray, List.set_cons_zero, List.set_cons_succ, i64_w, i32_w]
         rfl
        refine take_ (i := 3) (N := some 20) (v := ?_) (a' := ?_) #[true, true, true, true, true, true, true, false, false, false] rfl rfl (take_ofW HT_.out HW_.out (by kernel_rfl)) (fun _ _ _ h => h) (Or.inl ⟨by rfl, ?_⟩) hHeld ?_ ?_
        rotate_left
        ·rintro w' ⟨s0, s1, s2, s3, s4, s5⟩
         go_simp
         with_reducible rfl
        rotate_left
        ·simp only [Act.put, List.setIfInBounds_toArray, List.set_cons_zero, List.set_cons_succ, i64_w, i32_w]
         rfl
        refine take_ (i := 7) (N := some 24) (v := ?_) (a' := ?_) #[true, true, true, true, true, true, true, true, false, false] rfl rfl (take_ofW HT_.out HW_.out (by kernel_rfl)) (fun _ _ _ h => h) (Or.inl ⟨by rfl, ?_⟩) hHeld ?_ ?_
        rotate_left
        ·rintro w' ⟨s0, s1, s2, s3, s4, s5⟩
         go_simp
         with_reducible rfl
        rotate_left
        ·simp only [Act.put, List.setIfInBounds_toArray, List.set_cons_zero, List.set_cons_succ, i64_w, i32_w]
         rfl
        refine one_ (i := 8) (N := some 25) #[true, true, true, true, true, true, true, true, true, false] rfl rfl (one_of HT_.out (by kernel_rfl)) (by decide) (fun K hK => ?_)
        refine goes_ Try.func17 (by kernel_rfl) rfl #[.agg #[.string ((rd_T40 l0 x5_1).f0), .slice A264_1 ((rd_T40 l0 x5_1).f1).length c264_1, .slice A264_2 ((rd_T40 l0 x5_1).f2).length c264_2], .agg #[.string ((rd_T40 l1 x5_1).f0), .slice A265_1 ((rd_T40 l1 x5_1).f1).length c265_1, .slice A265_2 ((rd_T40 l1 x5_1).f2).length c265_2]] (by rfl) rfl rfl (by (try simp only [List.map_toArray, List.map_cons, List.map_nil]); first | done | rfl | (simp only [List.length_drop, List.length_take]; rfl)) ?_
        with_reducible refine (laws_eqAsset.calls k1 ((rd_T40 l0 x5_1).f0) _ _ ((rd_T40 l0 x5_1).f1) _ _ ((rd_T40 l0 x5_1).f2) ((rd_T40 l1 x5_1).f0) _ _ ((rd_T40 l1 x5_1).f1) _ _ ((rd_T40 l1 x5_1).f2) false _ ?side1 ?side2 ?side3 ?side4 ?side5 ?side6 ?side7 ?side8 A7.out).mono ?_
        (case side1 => repeat (first | exact (Kd.C_below HR264_1.out HB.out) | (with_reducible refine Kd.C_alloc ?_ _) | (with_reducible refine Kd.C_drewN ?_ _) | (with_reducible refine Kd.C_drew ?_)))
        (case side2 => exact HC264_1.out)
        (case side3 => repeat (first | exact (Kd.C_below HR264_2.out HB.out) | (with_reducible refine Kd.C_alloc ?_ _) | (with_reducible refine Kd.C_drewN ?_ _) | (with_reducible refine Kd.C_drew ?_)))
        (case side4 => exact HC264_2.out)
        (case side5 => repeat (first | exact (Kd.C_below HR265_1.out HB.out) | (with_reducible refine Kd.C_alloc ?_ _) | (with_reducible refine Kd.C_drewN ?_ _) | (with_reducible refine Kd.C_drew ?_)))
        (case side6 => exact HC265_1.out)
        (case side7 => repeat (first | exact (Kd.C_below HR265_2.out HB.out) | (with_reducible refine Kd.C_alloc ?_ _) | (with_reducible refine Kd.C_drewN ?_ _) | (with_reducible refine Kd.C_drew ?_)))
        (case side8 => exact HC265_2.out)
        rintro e w12 ⟨rfl, hb⟩
        refine ⟨_, rfl, ?_⟩
        have n0_ := Aside0.mk (below_step (by repeat (first | (with_reducible first | exact HB.out | apply below_alloc | apply pw_below_drewN | apply below_drew1) | exact HB.out)) hb)
        clear HB
        have HB := n0_
        clear n0_
        (try clear hb)
        (try clear hb2)
        (try clear hk)
        (try clear hi)
        refine hK.out _ _ ⟨((HB.out.cell (World.block_lt_of_cell? w _ hw264_0)).trans hw264_0), ((HB.out.cell (World.block_lt_of_cell? w _ hw264_1)).trans hw264_1), ((HB.out.cell (World.block_lt_of_cell? w _ hw264_2)).trans hw264_2), ((HB.out.cell (World.block_lt_of_cell? w _ hw265_0)).trans hw265_0), ((HB.out.cell (World.block_lt_of_cell? w _ hw265_1)).trans hw265_1), ((HB.out.cell (World.block_lt_of_cell? w _ hw265_2)).trans hw265_2)⟩ (fun hHeld => ?_)
        clear hK K
        refine norm_ (a' := ?_) ?_ ?_
        rotate_left
        ·show Act.put _ (some 25) _ = _
         simp only [Act.put, List.setIfInBounds_toArray, List.set_cons_zero, List.set_cons_succ, i64_w, i32_w]
         rfl
        refine pure_ (i := 9) (N := some 26) (v := ?_) (a' := ?_) #[true, true, true, true, true, true, true, true, true, true] rfl rfl (any_of HT_.out (by kernel_rfl)) (fun _ _ _ h => h) (Or.inl ⟨by rfl, ?_⟩) ?_ ?_
        rotate_left
        ·intro w'
         go_simp
         with_reducible rfl
        rotate_left
        ·simp only [Act.put, List.setIfInBounds_toArray, List.set_cons_zero, List.set_cons_succ, i64_w, i32_w]
         rfl
        refine done_ (done_of HT_.out (by kernel_rfl)) ?_
        try go_wp2
        go_ret
        exact ⟨by first | rfl | (simp [errW_none, errW_some] <;> rfl) | (simp [*, errW_none, errW_some] <;> rfl), by repeat (first | (with_reducible first | exact HB.out | apply below_alloc | apply pw_below_drewN | apply below_drew1) | exact HB.out)⟩
      ·rw [if_neg c6] at H
       exact absurd H (by simp)
     ·rw [if_neg c5] at H
      exact absurd H (by simp)
    ·rw [if_neg c4] at H
     have c4b0 : decide (x5_1 < (l0.length : Int)) = false := decide_eq_false c4
     clear c4
     obtain rfl := Option.some.inj H
     go_wp2
     go_ret
     exact ⟨by first | rfl | (simp [errW_none, errW_some] <;> rfl) | (simp [*, errW_none, errW_some] <;> rfl), by repeat (first | (with_reducible first | exact HB.out | apply below_alloc | apply pw_below_drewN | apply below_drew1) | exact HB.out)⟩
 ·rw [if_neg c3] at H
  have c3b0 : ((l0.length : Int) == (l1.length : Int)) = false := beq_eq_false_iff_ne.mpr c3
  have c3b1 : ((l0.length : Int) != (l1.length : Int)) = true := bne_iff_ne.mpr c3
  have c3b2 : (l0.length == l1.length) = false := by first | simpa using c3 | (simp at c3 ⊢; omega)
  obtain rfl := Option.some.inj H
  go_enter Try.func8, Try.ntmps8
  go_wp2
  go_ret
  exact ⟨by first | rfl | (simp [errW_none, errW_some] <;> rfl) | (simp [*, errW_none, errW_some] <;> rfl), by repeat (first | (with_reducible first | exact HB.out | apply below_alloc | apply pw_below_drewN | apply below_drew1) | exact HB.out)⟩
def laws_FnExactStampOf.j0 : Nat → List (S35) → List (S40) → Bool → Option (Bool)
 | 0, _, _, _ => none
 | k + 1, x0, x8, x41 => if x41 = true then (some false) else ((laws_toAssetS.f k x0).bind fun t278 => ((laws_eqAssetS.f k x8 t278).bind fun t281 => (if t281 = true then (some true) else (some false))))
def laws_FnExactStampOf.f (k : Nat) (l0 : List (S35)) (a1 : ByteArray) : Option (Bool) := if (a1.size : Int) > 1048576 then (some true) else ((laws_szAssetS.f k l0 1048576).bind fun t267 => (if t267 < 0 then (some true) else ((laws_toAssetS.f k l0).bind fun t268 => ((spec_StampOf.f k t268 a1).bind fun bt271 => ((laws_toAssetS.f k l0).bind fun t273 => ((impl_StampOf.f k t273 a1).bind fun bt276 => (if bt276.1 = bt271.1 then (laws_FnExactStampOf.j0 k l0 t273 (bt276.2 != bt271.2)) else (laws_FnExactStampOf.j0 k l0 t273 true))))))))
theorem laws_FnExactStampOf.mono_l : ∀ k, (∀ y0 y1 y2, LeO (laws_FnExactStampOf.j0 k y0 y1 y2) (laws_FnExactStampOf.j0 (k + 1) y0 y1 y2))
 | 0 => fun _ _ _ r h => by simp [laws_FnExactStampOf.j0] at h
 | k + 1 => by
  have ih0 := laws_FnExactStampOf.mono_l k
  ·intro y0 y1 y2
   unfold laws_FnExactStampOf.j0
   repeat' first
   | (with_reducible exact ih0 _ _ _)
   | (with_reducible exact impl_StampOf.mono _ _ _)
   | (with_reducible exact laws_eqAssetS.mono _ _ _)
   | (with_reducible exact laws_szAssetS.mono _ _ _)
   | (with_reducible exact laws_toAssetS.mono _ _)
   | (with_reducible exact spec_StampOf.mono _ _ _)
   | (with_reducible first | exact LeO.refl _ | exact LeO.none _ | refine LeO.ite ?_ ?_ | refine LeO.bind ?_ (fun _ => ?_))
   | exact ih0 _ _ _
   | exact impl_StampOf.mono _ _ _
   | exact laws_eqAssetS.mono _ _ _
   | exact laws_szAssetS.mono _ _ _
   | exact laws_toAssetS.mono _ _
   | exact spec_StampOf.mono _ _ _ | exact LeO.none _ | refine LeO.ite ?_ ?_ | refine LeO.bind ?_ (fun _ => ?_)
theorem laws_FnExactStampOf.mono : ∀ a0 a1 k, LeO (laws_FnExactStampOf.f k a0 a1) (laws_FnExactStampOf.f (k + 1) a0 a1) := by
 intro a0 a1 k
 have ih0 := laws_FnExactStampOf.mono_l k
 unfold laws_FnExactStampOf.f
 repeat' first
   | (with_reducible exact ih0 _ _ _)
   | (with_reducible exact impl_StampOf.mono _ _ _)
   | (with_reducible exact laws_eqAssetS.mono _ _ _)
   | (with_reducible exact laws_szAssetS.mono _ _ _)
   | (with_reducible exact laws_toAssetS.mono _ _)
   | (with_reducible exact spec_StampOf.mono _ _ _)
   | (with_reducible first | exact LeO.refl _ | exact LeO.none _ | refine LeO.ite ?_ ?_ | refine LeO.bind ?_ (fun _ => ?_))
   | exact ih0 _ _ _
   | exact impl_StampOf.mono _ _ _
   | exact laws_eqAssetS.mono _ _ _
   | exact laws_szAssetS.mono _ _ _
   | exact laws_toAssetS.mono _ _
   | exact spec_StampOf.mono _ _ _ | exact LeO.none _ | refine LeO.ite ?_ ?_ | refine LeO.bind ?_ (fun _ => ?_)
set_option maxHeartbeats 8000000 in
set_option maxRecDepth 100000 in
theorem laws_FnExactStampOf.calls (k : Nat) (A0 : Option Addr) (c0 : Nat) (l0 : List (S35)) (a1 : ByteArray) (r : Bool) (w : World) (hr0 : Kd.C k35 w A0 l0.length l0) (hc0 : l0.length ≤ c0) (h : laws_FnExactStampOf.f k l0 a1 = some r) :
  Calls Try.prog 3 #[.slice A0 l0.length c0, .string a1] w fun e w' => e = .returned (.bool r) ∧ Below w.heap.size w w' := by
 have HR0 := Aside0.mk hr0
 have HC0 := Aside0.mk hc0
 clear hr0 hc0
 have HB := Aside0.mk (Below.refl w.heap.size w)
 have H : (if (a1.size : Int) > 1048576 then (some true) else ((laws_szAssetS.f k l0 1048576).bind fun t267 => (if t267 < 0 then (some true) else ((laws_toAssetS.f k l0).bind fun t268 => ((spec_StampOf.f k t268 a1).bind fun bt271 => ((laws_toAssetS.f k l0).bind fun t273 => ((impl_StampOf.f k t273 a1).bind fun bt276 => (if bt276.1 = bt271.1 then (laws_FnExactStampOf.j0 k l0 t273 (bt276.2 != bt271.2)) else (laws_FnExactStampOf.j0 k l0 t273 true))))))))) = some r := h
 clear h
 by_cases c3 : (a1.size : Int) > 1048576
 ·rw [if_pos c3] at H
  have c3b0 : decide (1048576 < (a1.size : Int)) = true := decide_eq_true c3
  have c3b1 : decide (1048576 < a1.size) = true := decide_eq_true (by omega)
  clear c3
  obtain rfl := Option.some.inj H
  go_enter Try.func3, Try.ntmps3
  go_wp2
  go_ret
  exact ⟨by first | rfl | (simp [errW_none, errW_some] <;> rfl) | (simp [*, errW_none, errW_some] <;> rfl), by repeat (first | (with_reducible first | exact HB.out | apply below_alloc | apply pw_below_drewN | apply below_drew1) | exact HB.out)⟩
 ·rw [if_neg c3] at H
  have c3b0 : decide (1048576 < (a1.size : Int)) = false := decide_eq_false c3
  have c3b1 : decide (1048576 < a1.size) = false := decide_eq_false (by omega)
  clear c3
  replace H := Option.bind_eq_some_iff.mp H
  obtain ⟨t267, A40, H⟩ := H
  replace H : (if t267 < 0 then (some true) else ((laws_toAssetS.f k l0).bind fun t268 => ((spec_StampOf.f k t268 a1).bind fun bt271 => ((laws_toAssetS.f k l0).bind fun t273 => ((impl_StampOf.f k t273 a1).bind fun bt276 => (if bt276.1 = bt271.1 then (laws_FnExactStampOf.j0 k l0 t273 (bt276.2 != bt271.2)) else (laws_FnExactStampOf.j0 k l0 t273 true))))))) = some r := H
  have A4 := Aside0.mk A40
  clear A40
  by_cases c5 : t267 < 0
  ·rw [if_pos c5] at H
   have c5b0 : decide (t267 < 0) = true := decide_eq_true c5
   clear c5
   obtain rfl := Option.some.inj H
   go_enter Try.func3, Try.ntmps3
   go_wp2_with (first | ((with_reducible refine gate_callee (f := 4) rfl ?_); refine goesL_ (some 16) rfl rfl Try.func4 (by kernel_rfl) rfl #[.slice A0 l0.length c0, .int .i64 1048576] rfl (by (try simp only [List.map_toArray, List.map_cons, List.map_nil]); first | done | rfl | (simp only [List.length_drop, List.length_take]; rfl)) ?_; (with_reducible refine (laws_szAssetS.calls k _ _ l0 1048576 t267 _ ?side1 ?side2 A4.out).mono ?_); (case side1 => repeat (first | exact HR0.out | (with_reducible refine Kd.C_alloc ?_ _) | (with_reducible refine Kd.C_drewN ?_ _) | (with_reducible refine Kd.C_drew ?_))); (case side2 => exact HC0.out); rintro e w6 ⟨rfl, hb⟩; refine ⟨_, rfl, ?_⟩; have n0_ := Aside0.mk (below_step (by repeat (first | (with_reducible first | exact HB.out | apply below_alloc | apply pw_below_drewN | apply below_drew1) | exact HB.out)) hb); clear HB; have HB := n0_; clear n0_; (try clear hb); (try clear hb2); (try clear hk); (try clear hi)))
   go_ret
   exact ⟨by first | rfl | (simp [errW_none, errW_some] <;> rfl) | (simp [*, errW_none, errW_some] <;> rfl), by repeat (first | (with_reducible first | exact HB.out | apply below_alloc | apply pw_below_drewN | apply below_drew1) | exact HB.out)⟩
  ·rw [if_neg c5] at H
   have c5b0 : decide (t267 < 0) = false := decide_eq_false c5
   clear c5
   replace H := Option.bind_eq_some_iff.mp H
   obtain ⟨t268, A70, H⟩ := H
   replace H : ((spec_StampOf.f k t268 a1).bind fun bt271 => ((laws_toAssetS.f k l0).bind fun t273 => ((impl_StampOf.f k t273 a1).bind fun bt276 => (if bt276.1 = bt271.1 then (laws_FnExactStampOf.j0 k l0 t273 (bt276.2 != bt271.2)) else (laws_FnExactStampOf.j0 k l0 t273 true))))) = some r := H
   have A7 := Aside0.mk A70
   clear A70
   replace H := Option.bind_eq_some_iff.mp H
   obtain ⟨⟨t271, t272⟩, A80, H⟩ := H
   replace H : ((laws_toAssetS.f k l0).bind fun t273 => ((impl_StampOf.f k t273 a1).bind fun bt276 => (if bt276.1 = t271 then (laws_FnExactStampOf.j0 k l0 t273 (bt276.2 != t272)) else (laws_FnExactStampOf.j0 k l0 t273 true)))) = some r := H
   have A8 := Aside0.mk A80
   clear A80
   replace H := Option.bind_eq_some_iff.mp H
   obtain ⟨t273, A90, H⟩ := H
   replace H : ((impl_StampOf.f k t273 a1).bind fun bt276 => (if bt276.1 = t271 then (laws_FnExactStampOf.j0 k l0 t273 (bt276.2 != t272)) else (laws_FnExactStampOf.j0 k l0 t273 true))) = some r := H
   have A9 := Aside0.mk A90
   clear A90
   replace H := Option.bind_eq_some_iff.mp H
   obtain ⟨⟨t276, t277⟩, A100, H⟩ := H
   replace H : (if t276 = t271 then (laws_FnExactStampOf.j0 k l0 t273 (t277 != t272)) else (laws_FnExactStampOf.j0 k l0 t273 true)) = some r := H
   have A10 := Aside0.mk A100
   clear A100
   have HC11 := Aside0.mk H
   clear H
   go_enter Try.func3, Try.ntmps3
   go_upto_region 10 with (first | ((with_reducible refine gate_callee (f := 4) rfl ?_); refine goesL_ (some 16) rfl rfl Try.func4 (by kernel_rfl) rfl #[.slice A0 l0.length c0, .int .i64 1048576] rfl (by (try simp only [List.map_toArray, List.map_cons, List.map_nil]); first | done | rfl | (simp only [List.length_drop, List.length_take]; rfl)) ?_; (with_reducible refine (laws_szAssetS.calls k _ _ l0 1048576 t267 _ ?side1 ?side2 A4.out).mono ?_); (case side1 => repeat (first | exact HR0.out | (with_reducible refine Kd.C_alloc ?_ _) | (with_reducible refine Kd.C_drewN ?_ _) | (with_reducible refine Kd.C_drew ?_))); (case side2 => exact HC0.out); rintro e w12 ⟨rfl, hb⟩; refine ⟨_, rfl, ?_⟩; have n0_ := Aside0.mk (below_step (by repeat (first | (with_reducible first | exact HB.out | apply below_alloc | apply pw_below_drewN | apply below_drew1) | exact HB.out)) hb); clear HB; have HB := n0_; clear n0_; (try clear hb); (try clear hb2); (try clear hk); (try clear hi)) | ((with_reducible refine gate_callee (f := 6) rfl ?_); refine goesL_ (some 21) rfl rfl Try.func6 (by kernel_rfl) rfl #[.slice A0 l0.length c0] rfl (by (try simp only [List.map_toArray, List.map_cons, List.map_nil]); first | done | rfl | (simp only [List.length_drop, List.length_take]; rfl)) ?_; (with_reducible refine (laws_toAssetS.calls k _ _ l0 t268 _ ?side1 ?side2 A7.out).mono ?_); (case side1 => repeat (first | exact (Kd.C_below HR0.out HB.out) | (with_reducible refine Kd.C_alloc ?_ _) | (with_reducible refine Kd.C_drewN ?_ _) | (with_reducible refine Kd.C_drew ?_))); (case side2 => exact HC0.out); rintro e w13 ⟨v269, rfl, ho0, hb⟩; refine ⟨_, rfl, ?_⟩; have n0_ := Aside0.mk (Kd.S_lower ho0 (below_size (by repeat (first | (with_reducible first | exact HB.out | apply below_alloc | apply pw_below_drewN | apply below_drew1) | exact HB.out)))); have n1_ := Aside0.mk (below_step (by repeat (first | (with_reducible first | exact HB.out | apply below_alloc | apply pw_below_drewN | apply below_drew1) | exact HB.out)) hb); clear HB; have HO270 := n0_; have HB := n1_; clear n0_ n1_; (try clear hb); (try clear hb2); (try clear hk); (try clear hi); (try clear ho0); obtain ⟨Ao14, co14, eo14⟩ := Kd.S_slice HO270.out; subst eo14) | ((with_reducible refine gate_callee (f := 5) rfl ?_); refine goesL_ (some 23) rfl rfl Try.func5 (by kernel_rfl) rfl #[.slice Ao14 t268.length co14, .string a1] rfl (by (try simp only [List.map_toArray, List.map_cons, List.map_nil]); first | done | rfl | (simp only [List.length_drop, List.length_take]; rfl)) ?_; (with_reducible refine (spec_StampOf.calls k _ _ t268 a1 t271 t272 _ ?side1 ?side2 A8.out).mono ?_); (case side1 => repeat (first | exact (Kd.S_reads' HO270.out).2.2 | (with_reducible refine Kd.C_alloc ?_ _) | (with_reducible refine Kd.C_drewN ?_ _) | (with_reducible refine Kd.C_drew ?_))); (case side2 => exact (Kd.S_reads' HO270.out).2.1); rintro e w15 ⟨rfl, hb⟩; refine ⟨_, rfl, ?_⟩; have n0_ := Aside0.mk (Kd.S_below (by (with_reducible repeat (first | apply Kd.S_alloc | apply Kd.S_drewN | apply Kd.S_drew)); exact HO270.out) hb); have n1_ := Aside0.mk (below_step (by repeat (first | (with_reducible first | exact HB.out | apply below_alloc | apply pw_below_drewN | apply below_drew1) | exact HB.out)) hb); clear HO270; clear HB; have HO270 := n0_; have HB := n1_; clear n0_ n1_; (try clear hb); (try clear hb2); (try clear hk); (try clear hi)) | ((with_reducible refine gate_callee (f := 6) rfl ?_); refine goesL_ (some 27) rfl rfl Try.func6 (by kernel_rfl) rfl #[.slice A0 l0.length c0] rfl (by (try simp only [List.map_toArray, List.map_cons, List.map_nil]); first | done | rfl | (simp only [List.length_drop, List.length_take]; rfl)) ?_; (with_reducible refine (laws_toAssetS.calls k _ _ l0 t273 _ ?side1 ?side2 A9.out).mono ?_); (case side1 => repeat (first | exact (Kd.C_below HR0.out HB.out) | (with_reducible refine Kd.C_alloc ?_ _) | (with_reducible refine Kd.C_drewN ?_ _) | (with_reducible refine Kd.C_drew ?_))); (case side2 => exact HC0.out); rintro e w16 ⟨v274, rfl, ho0, hb⟩; refine ⟨_, rfl, ?_⟩; have n0_ := Aside0.mk (Kd.S_elder' (by (with_reducible repeat (first | apply Kd.S_alloc | apply Kd.S_drewN | apply Kd.S_drew)); exact HO270.out) (Kd.S_base ho0) hb); have n1_ := Aside0.mk (Kd.S_lower (Kd.S_new' ho0 (Kd.S_lt (by (with_reducible repeat (first | apply Kd.S_alloc | apply Kd.S_drewN | apply Kd.S_drew)); exact HO270.out))) (below_size (by repeat (first | (with_reducible first | exact HB.out | apply below_alloc | apply pw_below_drewN | apply below_drew1) | exact HB.out)))); have n2_ := Aside0.mk (below_step (by repeat (first | (with_reducible first | exact HB.out | apply below_alloc | apply pw_below_drewN | apply below_drew1) | exact HB.out)) hb); clear HO270; clear HB; have HO270 := n0_; have HO275 := n1_; have HB := n2_; clear n0_ n1_ n2_; (try clear hb); (try clear hb2); (try clear hk); (try clear hi); (try clear ho0); obtain ⟨Ao17, co17, eo17⟩ := Kd.S_slice HO275.out; subst eo17) | ((with_reducible refine gate_callee (f := 7) rfl ?_); refine goesL_ (some 31) rfl rfl Try.func7 (by kernel_rfl) rfl #[.slice Ao17 t273.length co17, .string a1] rfl (by (try simp only [List.map_toArray, List.map_cons, List.map_nil]); first | done | rfl | (simp only [List.length_drop, List.length_take]; rfl)) ?_; (with_reducible refine (impl_StampOf.calls k _ _ t273 a1 t276 t277 _ ?side1 ?side2 A10.out).mono ?_); (case side1 => repeat (first | exact (Kd.S_reads' HO275.out).2.2 | (with_reducible refine Kd.C_alloc ?_ _) | (with_reducible refine Kd.C_drewN ?_ _) | (with_reducible refine Kd.C_drew ?_))); (case side2 => exact (Kd.S_reads' HO275.out).2.1); rintro e w18 ⟨rfl, hb⟩; refine ⟨_, rfl, ?_⟩; have n0_ := Aside0.mk (Kd.S_below (by (with_reducible repeat (first | apply Kd.S_alloc | apply Kd.S_drewN | apply Kd.S_drew)); exact HO270.out) hb); have n1_ := Aside0.mk (Kd.S_below (by (with_reducible repeat (first | apply Kd.S_alloc | apply Kd.S_drewN | apply Kd.S_drew)); exact HO275.out) hb); have n2_ := Aside0.mk (below_step (by repeat (first | (with_reducible first | exact HB.out | apply below_alloc | apply pw_below_drewN | apply below_drew1) | exact HB.out)) hb); clear HO270; clear HO275; clear HB; have HO270 := n0_; have HO275 := n1_; have HB := n2_; clear n0_ n1_ n2_; (try clear hb); (try clear hb2); (try clear hk); (try clear hi)))
   (try simp only [Act.put, List.setIfInBounds_toArray, List.set_cons_zero, List.set_cons_succ])
   go_cut [41] (fun v41 wc => ∃ (kq : Nat) (x41_10 : Bool), v41 = .bool x41_10 ∧ Aside0 (laws_FnExactStampOf.j0 kq l0 t273 x41_10 = some r) ∧ Aside0 (kq ≤ k) ∧ Aside0 (Kd.S k40 40 wc w.heap.size (fun _ => True) (.slice Ao17 t273.length co17) t273) ∧ Aside0 (Below w.heap.size w wc))
   case first =>
    have H := HC11.out
    clear HC11
    by_cases c19 : t276 = t271
    ·rw [if_pos c19] at H
     have c19b0 : (t276 == t271) = true := beq_iff_eq.mpr c19
     have c19b1 : (t276 != t271) = false := bne_eq_false_iff_eq.mpr c19
     clear c19
     (first | rw [c19b0] | (simp only [i64_w, i32_w]; rw [c19b0]) | (rw [c19b2]; simp only [Bool.not_false, Bool.not_true]) | skip)
     have H' := Aside0.mk H
     clear H
     go_wp2
     go_meet
     case rel => exact ⟨_, ((t277 != t272)), (by first | rfl | (simp; done) | (simp [*]; done) | exact not_isEmpty _ | exact (not_isEmpty _).symm | exact is_empty _ | exact (is_empty _).symm), H', ⟨by first | omega | exact Nat.le_refl _⟩, ⟨by (with_reducible repeat (first | apply Kd.S_alloc | apply Kd.S_drewN | apply Kd.S_drew)); exact Kd.S_mono HO275.out (fun _ hk => trivial)⟩, ⟨by repeat (first | (with_reducible first | exact HB.out | apply below_alloc | apply pw_below_drewN | apply below_drew1) | exact HB.out)⟩⟩
    ·rw [if_neg c19] at H
     have c19b0 : (t276 == t271) = false := beq_eq_false_iff_ne.mpr c19
     have c19b1 : (t276 != t271) = true := bne_iff_ne.mpr c19
     (first | rw [c19b0] | (simp only [i64_w, i32_w]; rw [c19b0]) | (rw [c19b2]; simp only [Bool.not_false, Bool.not_true]) | skip)
     have H' := Aside0.mk H
     clear H
     go_wp2
     go_meet
     case rel => exact ⟨_, (true), (by first | rfl | (simp; done) | (simp [*]; done) | exact not_isEmpty _ | exact (not_isEmpty _).symm | exact is_empty _ | exact (is_empty _).symm), H', ⟨by first | omega | exact Nat.le_refl _⟩, ⟨by (with_reducible repeat (first | apply Kd.S_alloc | apply Kd.S_drewN | apply Kd.S_drew)); exact Kd.S_mono HO275.out (fun _ hk => trivial)⟩, ⟨by repeat (first | (with_reducible first | exact HB.out | apply below_alloc | apply pw_below_drewN | apply below_drew1) | exact HB.out)⟩⟩
   case rest =>
    clear HC11
    try clear c1
    try clear p2
    try clear c3
    try clear c3b0
    try clear c3b1
    try clear c4
    try clear c5
    try clear c5b0
    try clear c6
    try clear c7
    try clear c19
    try clear c19b0
    try clear c19b1
    try clear c19b2
    obtain ⟨kq, x41_10, rfl, HA, HJ10, HO_8, HB⟩ := hcut
    cases kq with
    | zero => exact absurd HA.out (by simp [laws_FnExactStampOf.j0])
    | succ kj10 =>
     have H := HA.out
     clear HA
     simp only [laws_FnExactStampOf.j0] at H
     by_cases c20 : x41_10 = true
     ·subst c20
      have H1 : (some false) = some r := by rw [if_pos rfl] at H; exact H
      clear H
      have H := H1
      clear H1
      obtain rfl := Option.some.inj H
      go_wp2
      go_ret
      exact ⟨by first | rfl | (simp [errW_none, errW_some] <;> rfl) | (simp [*, errW_none, errW_some] <;> rfl), by repeat (first | (with_reducible first | exact HB.out | apply below_alloc | apply pw_below_drewN | apply below_drew1) | exact HB.out)⟩
     ·replace c20 := Bool.eq_false_iff.mpr c20
      subst c20
      have H1 : ((laws_toAssetS.f kj10 l0).bind fun t278 => ((laws_eqAssetS.f kj10 t273 t278).bind fun t281 => (if t281 = true then (some true) else (some false)))) = some r := by rw [if_neg (show ¬ (false = true) by decide)] at H; exact H
      clear H
      have H := H1
      clear H1
      replace H := Option.bind_eq_some_iff.mp H
      obtain ⟨t278, A210, H⟩ := H
      replace H : ((laws_eqAssetS.f kj10 t273 t278).bind fun t281 => (if t281 = true then (some true) else (some false))) = some r := H
      have A21 := Aside0.mk A210
      clear A210
      replace H := Option.bind_eq_some_iff.mp H
      obtain ⟨t281, A220, H⟩ := H
      replace H : (if t281 = true then (some true) else (some false)) = some r := H
      have A22 := Aside0.mk A220
      clear A220
      by_cases c23 : t281 = true
      ·subst c23
       have H1 : (some true) = some r := by rw [if_pos rfl] at H; exact H
       clear H
       have H := H1
       clear H1
       obtain rfl := Option.some.inj H
       go_wp2_with (first | ((with_reducible refine gate_callee (f := 6) rfl ?_); refine goesL_ (some 44) rfl rfl Try.func6 (by kernel_rfl) rfl #[.slice A0 l0.length c0] rfl (by (try simp only [List.map_toArray, List.map_cons, List.map_nil]); first | done | rfl | (simp only [List.length_drop, List.length_take]; rfl)) ?_; (with_reducible refine (laws_toAssetS.calls kj10 _ _ l0 t278 _ ?side1 ?side2 A21.out).mono ?_); (case side1 => repeat (first | exact (Kd.C_below HR0.out HB.out) | (with_reducible refine Kd.C_alloc ?_ _) | (with_reducible refine Kd.C_drewN ?_ _) | (with_reducible refine Kd.C_drew ?_))); (case side2 => exact HC0.out); rintro e w24 ⟨v279, rfl, ho0, hb⟩; refine ⟨_, rfl, ?_⟩; have n0_ := Aside0.mk (Kd.S_elder' (by (with_reducible repeat (first | apply Kd.S_alloc | apply Kd.S_drewN | apply Kd.S_drew)); exact HO_8.out) (Kd.S_base ho0) hb); have n1_ := Aside0.mk (Kd.S_lower (Kd.S_new' ho0 (Kd.S_lt (by (with_reducible repeat (first | apply Kd.S_alloc | apply Kd.S_drewN | apply Kd.S_drew)); exact HO_8.out))) (below_size (by repeat (first | (with_reducible first | exact HB.out | apply below_alloc | apply pw_below_drewN | apply below_drew1) | exact HB.out)))); have n2_ := Aside0.mk (below_step (by repeat (first | (with_reducible first | exact HB.out | apply below_alloc | apply pw_below_drewN | apply below_drew1) | exact HB.out)) hb); clear HO_8; clear HB; have HO_8 := n0_; have HO280 := n1_; have HB := n2_; clear n0_ n1_ n2_; (try clear hb); (try clear hb2); (try clear hk); (try clear hi); (try clear ho0); obtain ⟨Ao25, co25, eo25⟩ := Kd.S_slice HO280.out; subst eo25) | ((with_reducible refine gate_callee (f := 8) rfl ?_); refine goesL_ (some 45) rfl rfl Try.func8 (by kernel_rfl) rfl #[.slice Ao17 t273.length co17, .slice Ao25 t278.length co25] rfl (by (try simp only [List.map_toArray, List.map_cons, List.map_nil]); first | done | rfl | (simp only [List.length_drop, List.length_take]; rfl)) ?_; (with_reducible refine (laws_eqAssetS.calls kj10 _ _ t273 _ _ t278 true _ ?side1 ?side2 ?side3 ?side4 A22.out).mono ?_); (case side1 => repeat (first | exact (Kd.S_reads' HO_8.out).2.2 | (with_reducible refine Kd.C_alloc ?_ _) | (with_reducible refine Kd.C_drewN ?_ _) | (with_reducible refine Kd.C_drew ?_))); (case side2 => exact (Kd.S_reads' HO_8.out).2.1); (case side3 => repeat (first | exact (Kd.S_reads' HO280.out).2.2 | (with_reducible refine Kd.C_alloc ?_ _) | (with_reducible refine Kd.C_drewN ?_ _) | (with_reducible refine Kd.C_drew ?_))); (case side4 => exact (Kd.S_reads' HO280.out).2.1); rintro e w26 ⟨rfl, hb⟩; refine ⟨_, rfl, ?_⟩; have n0_ := Aside0.mk (Kd.S_below (by (with_reducible repeat (first | apply Kd.S_alloc | apply Kd.S_drewN | apply Kd.S_drew)); exact HO_8.out) hb); have n1_ := Aside0.mk (Kd.S_below (by (with_reducible repeat (first | apply Kd.S_alloc | apply Kd.S_drewN | apply Kd.S_drew)); exact HO280.out) hb); have n2_ := Aside0.mk (below_step (by repeat (first | (with_reducible first | exact HB.out | apply below_alloc | apply pw_below_drewN | apply below_drew1) | exact HB.out)) hb); clear HO_8; clear HO280; clear HB; have HO_8 := n0_; have HO280 := n1_; have HB := n2_; clear n0_ n1_ n2_; (try clear hb); (try clear hb2); (try clear hk); (try clear hi)))
       go_ret
       exact ⟨by first | rfl | (simp [errW_none, errW_some] <;> rfl) | (simp [*, errW_none, errW_some] <;> rfl), by repeat (first | (with_reducible first | exact HB.out | apply below_alloc | apply pw_below_drewN | apply below_drew1) | exact HB.out)⟩
      ·replace c23 := Bool.eq_false_iff.mpr c23
       subst c23
       have H1 : (some false) = some r := by rw [if_neg (show ¬ (false = true) by decide)] at H; exact H
       clear H
       have H := H1
       clear H1
       obtain rfl := Option.some.inj H
       go_wp2_with (first | ((with_reducible refine gate_callee (f := 6) rfl ?_); refine goesL_ (some 44) rfl rfl Try.func6 (by kernel_rfl) rfl #[.slice A0 l0.length c0] rfl (by (try simp only [List.map_toArray, List.map_cons, List.map_nil]); first | done | rfl | (simp only [List.length_drop, List.length_take]; rfl)) ?_; (with_reducible refine (laws_toAssetS.calls kj10 _ _ l0 t278 _ ?side1 ?side2 A21.out).mono ?_); (case side1 => repeat (first | exact (Kd.C_below HR0.out HB.out) | (with_reducible refine Kd.C_alloc ?_ _) | (with_reducible refine Kd.C_drewN ?_ _) | (with_reducible refine Kd.C_drew ?_))); (case side2 => exact HC0.out); rintro e w27 ⟨v279, rfl, ho0, hb⟩; refine ⟨_, rfl, ?_⟩; have n0_ := Aside0.mk (Kd.S_elder' (by (with_reducible repeat (first | apply Kd.S_alloc | apply Kd.S_drewN | apply Kd.S_drew)); exact HO_8.out) (Kd.S_base ho0) hb); have n1_ := Aside0.mk (Kd.S_lower (Kd.S_new' ho0 (Kd.S_lt (by (with_reducible repeat (first | apply Kd.S_alloc | apply Kd.S_drewN | apply Kd.S_drew)); exact HO_8.out))) (below_size (by repeat (first | (with_reducible first | exact HB.out | apply below_alloc | apply pw_below_drewN | apply below_drew1) | exact HB.out)))); have n2_ := Aside0.mk (below_step (by repeat (first | (with_reducible first | exact HB.out | apply below_alloc | apply pw_below_drewN | apply below_drew1) | exact HB.out)) hb); clear HO_8; clear HB; have HO_8 := n0_; have HO280 := n1_; have HB := n2_; clear n0_ n1_ n2_; (try clear hb); (try clear hb2); (try clear hk); (try clear hi); (try clear ho0); obtain ⟨Ao28, co28, eo28⟩ := Kd.S_slice HO280.out; subst eo28) | ((with_reducible refine gate_callee (f := 8) rfl ?_); refine goesL_ (some 45) rfl rfl Try.func8 (by kernel_rfl) rfl #[.slice Ao17 t273.length co17, .slice Ao28 t278.length co28] rfl (by (try simp only [List.map_toArray, List.map_cons, List.map_nil]); first | done | rfl | (simp only [List.length_drop, List.length_take]; rfl)) ?_; (with_reducible refine (laws_eqAssetS.calls kj10 _ _ t273 _ _ t278 false _ ?side1 ?side2 ?side3 ?side4 A22.out).mono ?_); (case side1 => repeat (first | exact (Kd.S_reads' HO_8.out).2.2 | (with_reducible refine Kd.C_alloc ?_ _) | (with_reducible refine Kd.C_drewN ?_ _) | (with_reducible refine Kd.C_drew ?_))); (case side2 => exact (Kd.S_reads' HO_8.out).2.1); (case side3 => repeat (first | exact (Kd.S_reads' HO280.out).2.2 | (with_reducible refine Kd.C_alloc ?_ _) | (with_reducible refine Kd.C_drewN ?_ _) | (with_reducible refine Kd.C_drew ?_))); (case side4 => exact (Kd.S_reads' HO280.out).2.1); rintro e w29 ⟨rfl, hb⟩; refine ⟨_, rfl, ?_⟩; have n0_ := Aside0.mk (Kd.S_below (by (with_reducible repeat (first | apply Kd.S_alloc | apply Kd.S_drewN | apply Kd.S_drew)); exact HO_8.out) hb); have n1_ := Aside0.mk (Kd.S_below (by (with_reducible repeat (first | apply Kd.S_alloc | apply Kd.S_drewN | apply Kd.S_drew)); exact HO280.out) hb); have n2_ := Aside0.mk (below_step (by repeat (first | (with_reducible first | exact HB.out | apply below_alloc | apply pw_below_drewN | apply below_drew1) | exact HB.out)) hb); clear HO_8; clear HO280; clear HB; have HO_8 := n0_; have HO280 := n1_; have HB := n2_; clear n0_ n1_ n2_; (try clear hb); (try clear hb2); (try clear hk); (try clear hi)))
       go_ret
       exact ⟨by first | rfl | (simp [errW_none, errW_some] <;> rfl) | (simp [*, errW_none, errW_some] <;> rfl), by repeat (first | (with_reducible first | exact HB.out | apply below_alloc | apply pw_below_drewN | apply below_drew1) | exact HB.out)⟩
end Go.Proofs.Ytehkpnnidbghhaa.PFnExactStampOf
namespace Go.Proofs.YtehkpnnidbghhaaO
open Go.ChangeShapes Go.WideShapes Go.Proofs.YtehkpnnidbghhaaW.PrintWords Go.RowKit
def InU8 (n : Int) : Prop := 0 ≤ n ∧ n ≤ 255
def Opens {α : Type} (P : Program) (t : TypeId) (d : Kd α) (g : α → Prop) : Prop :=
  ∀ {H : Type} (enc : TypeId × Value → H) (w : World) (fuel : Nat) (cs : List Value) (y : DataW H) (ps : List MemPlace),
    DataW.trod enc P w 0 (fun _ => true) true fuel t cs = some (y, ps) → (∀ n ∈ y.weights P t, n ≤ reachBytes) → ∃ x, d.K w x cs ∧ g x
theorem Opens.imp {α : Type} {P : Program} {t : TypeId} {d : Kd α} {g g' : α → Prop} (h : Opens P t d g) (k : ∀ x, g x → g' x) : Opens P t d g' := by
  intro H enc w fuel cs y ps ht hw
  obtain ⟨x, hx, hg⟩ := h enc w fuel cs y ps ht hw
  exact ⟨x, hx, k x hg⟩
theorem opens_int {P : Program} {t : TypeId} {k : IntKind} (ht : P.underlying t = some (.int k)) : Opens P t (Kd.int k) (fun n => (Lit.int k n).wf = true) := by
  intro H enc w fuel cs y ps h _
  obtain ⟨n, rfl, _, hw⟩ := DataW.trod_int ht h
  exact ⟨n, rfl, hw⟩
theorem wf_u8 {n : Int} (h : (Lit.int .u8 n).wf = true) : InU8 n := bounds_u8 h
theorem opens_u8 {P : Program} {t : TypeId} (ht : P.underlying t = some (.int .u8)) : Opens P t (Kd.int .u8) InU8 := Opens.imp (opens_int ht) fun _ h => wf_u8 h
theorem opens_string {P : Program} {t : TypeId} (ht : P.underlying t = some .string) : Opens P t Kd.string (fun s => s.size ≤ 140737488351232) := by
  intro H enc w fuel cs y ps h hw
  obtain ⟨s, rfl, hx, _⟩ := DataW.trod_string ht h
  obtain ⟨rfl, _⟩ := Prod.mk.inj hx
  refine ⟨s, rfl, ?_⟩
  have := hw s.data.toList.length (by simp [DataW.weights])
  rw [Array.length_toList] at this
  exact this
theorem exists_list {α : Type} (p : Nat → α → Prop) : ∀ n : Nat, (∀ i, i < n → ∃ x, p i x) → ∃ xs : List α, xs.length = n ∧ ∀ i x, xs[i]? = some x → p i x
  | 0, _ => ⟨[], rfl, fun i x h => by simp at h⟩
  | n + 1, h => by
    obtain ⟨xs, hl, hx⟩ := exists_list p n (fun i hi => h i (by omega))
    obtain ⟨x, hp⟩ := h n (by omega)
    refine ⟨xs ++ [x], by simp [hl], fun i y hy => ?_⟩
    rcases Nat.lt_or_ge i xs.length with hi | hi
    · rw [List.getElem?_append_left hi] at hy
      exact hx i y hy
    · have : i = n := by
        have := (List.getElem?_eq_some_iff.1 hy).1
        rw [List.length_append, List.length_singleton] at this
        omega
      subst this
      rw [List.getElem?_append_right hi] at hy
      rw [hl] at hy
      simp at hy
      subst hy
      exact hp
theorem add_add (ad : Addr) (i j : Nat) : (ad.add i).add j = ad.add (i + j) := by
  unfold Addr.add
  by_cases h1 : i = 0 <;> by_cases h2 : j = 0 <;> simp [h1, h2, Nat.add_assoc]
theorem weightsAll_mem {H : Type} {P : Program} {e : TypeId} : ∀ {l : List (DataW H)} {d : DataW H}, d ∈ l → ∀ n ∈ d.weights P e, n ∈ DataW.weightsAll P e l
  | [], d, h, _, _ => by simp at h
  | x :: r, d, h, n, hn => by
    simp only [DataW.weightsAll, List.mem_append]
    rcases List.mem_cons.1 h with rfl | h
    · exact .inl hn
    · exact .inr (weightsAll_mem h n hn)
theorem opens_slice {α : Type} {P : Program} {t e : TypeId} {d : Kd α} {g : α → Prop} {B : Nat} (ht : P.underlying t = some (.slice e)) (hs : P.cellsOf e = d.sz) (hB : P.bytesOf e = B) (h : Opens P e d g) :
    Opens P t (Kd.slice e d) (fun xs => xs.length * B ≤ 140737488351232 ∧ ∀ x ∈ xs, g x) := by
  intro H enc w fuel cs y ps hy hw
  rcases DataW.trod_slice ht hy with ⟨rfl, _⟩ | ⟨a, len, cap, elems, rest, n, rfl, rfl, hx, _, hlc, hcm, hel, hget, _, _⟩
  · exact ⟨[], ⟨none, 0, rfl, Nat.le_refl _, Kd.C_nil d w⟩, by simp⟩
  · obtain ⟨rfl, _⟩ := Prod.mk.inj hx
    simp only [DataW.weights, ht] at hw
    have hlen : len * B ≤ 140737488351232 := by
      have := hw _ List.mem_cons_self
      simp only [List.length_map, hB] at this
      have h2 : len * B ≤ (elems.length + rest.length) * B := Nat.mul_le_mul_right _ (by omega)
      exact Nat.le_trans h2 this
    have key : ∀ i, i < len → ∃ x, (∃ c, c.length = d.sz ∧ d.K w x c ∧ ∀ j u, c[j]? = some u → w.cell? (a.add (i * d.sz + j)) = some u) ∧ g x := by
      intro i hi
      have hg := hget i hi
      rw [List.getElem?_eq_getElem (by omega), Option.bind_eq_some_iff] at hg
      obtain ⟨c, hc, hd⟩ := hg
      obtain ⟨_, hcl, hcell⟩ := World.cells?_some hc
      obtain ⟨x, hK, hgx⟩ := h enc w n c _ _ hd (fun m hm => hw m (List.mem_cons_of_mem _ (List.mem_append_left _ (weightsAll_mem (List.mem_map_of_mem (List.getElem_mem _)) m hm))))
      refine ⟨x, ⟨c, hcl.trans hs, hK, fun j u hj => ?_⟩, hgx⟩
      have hjl : j < P.cellsOf e := by
        have := (List.getElem?_eq_some_iff.1 hj).1
        omega
      have := hcell j hjl
      rw [add_add, hj, hs] at this
      exact this
    obtain ⟨xs, hxl, hxs⟩ := exists_list _ len key
    refine ⟨xs, ⟨some a, cap, by rw [hxl], by omega, hxl ▸ ⟨hxl, by simp only [maxLen] at hcm; omega, fun _ => ⟨a, rfl, fun j p hp => (hxs j p hp).1⟩⟩⟩, by rw [hxl]; exact hlen, fun x hx => ?_⟩
    obtain ⟨i, hi, rfl⟩ := List.getElem_of_mem hx
    exact (hxs i _ (List.getElem?_eq_getElem hi)).2
theorem opens_iso {α β : Type} {P : Program} {t : TypeId} {d : Kd α} {g : α → Prop} (f : β → α) (inv : α → β) (hi : ∀ x, f (inv x) = x) (h : Opens P t d g) : Opens P t (Kd.iso d f) (fun x => g (f x)) := by
  intro H enc w fuel cs y ps hy hw
  obtain ⟨x, hK, hg⟩ := h enc w fuel cs y ps hy hw
  refine ⟨inv x, ?_, ?_⟩
  · show d.K w (f (inv x)) cs
    rw [hi]; exact hK
  · show g (f (inv x))
    rw [hi]; exact hg
def OpensL {α : Type} (P : Program) (fs : List Field) (off : Nat) (d : Kd α) (g : α → Prop) : Prop :=
  ∀ {H : Type} (enc : TypeId × Value → H) (w : World) (n : Nat) (cs : List Value) (ys : List (DataW H × List MemPlace)), ys.length = fs.length →
    (∀ (i : Nat) (f : Field), fs[i]? = some f → DataW.trod enc P w 0 (fun _ => true) true n f.type ((cs.drop f.offset).take (P.cellsOf f.type)) = ys[i]?) →
    (∀ m ∈ DataW.weightsEach P (fs.map (·.type)) (ys.map (·.1)), m ≤ reachBytes) → ∃ x, d.K w x ((cs.drop off).take d.sz) ∧ g x
theorem opensL_one {α : Type} {P : Program} {f : Field} {off : Nat} {d : Kd α} {g : α → Prop} (ho : f.offset = off) (hs : P.cellsOf f.type = d.sz) (h : Opens P f.type d g) : OpensL P [f] off d g := by
  intro H enc w n cs ys hl hf hw
  match ys, hl with
  | [y], _ =>
    have h0 := hf 0 f rfl
    rw [ho, hs] at h0
    exact h enc w n _ y.1 y.2 h0 (fun m hm => hw m (by simp only [List.map_cons, DataW.weightsEach, List.mem_append]; exact .inl hm))
theorem opensL_cons {α β : Type} {P : Program} {f : Field} {fs : List Field} {off : Nat} {a : Kd α} {b : Kd β} {ga : α → Prop} {gb : β → Prop} (ho : f.offset = off) (hs : P.cellsOf f.type = a.sz) (h : Opens P f.type a ga) (hr : OpensL P fs (off + a.sz) b gb) :
    OpensL P (f :: fs) off (Kd.pair a b) (fun x => ga x.1 ∧ gb x.2) := by
  intro H enc w n cs ys hl hf hw
  match ys, hl with
  | y :: ys, hl =>
    have h0 := hf 0 f rfl
    rw [ho, hs] at h0
    obtain ⟨x, hx, hgx⟩ := h enc w n _ y.1 y.2 h0 (fun m hm => hw m (by simp only [List.map_cons, DataW.weightsEach, List.mem_append]; exact .inl hm))
    obtain ⟨x', hx', hgx'⟩ := hr enc w n cs ys (by simpa using hl) (fun i f' hf' => by have := hf (i + 1) f' (by simpa using hf'); simpa using this) (fun m hm => hw m (by simp only [List.map_cons, DataW.weightsEach, List.mem_append]; exact .inr hm))
    refine ⟨(x, x'), ⟨_, _, ?_, hx, hx'⟩, hgx, hgx'⟩
    show (cs.drop off).take (a.sz + b.sz) = _
    rw [List.take_add, List.drop_drop]
theorem opens_struct {α : Type} {P : Program} {t : TypeId} {fs : Array Field} {d : Kd α} {g : α → Prop} (ht : P.underlying t = some (.struct fs)) (hs : P.cellsOf t = d.sz) (h : OpensL P fs.toList 0 d g) : Opens P t d g := by
  intro H enc w fuel cs y ps hy hw
  obtain ⟨xs, n, rfl, hx, hl, hxl, hget⟩ := DataW.trod_struct ht hy
  obtain ⟨rfl, _⟩ := Prod.mk.inj hx
  simp only [DataW.weights, ht] at hw
  obtain ⟨x, hK, hg⟩ := h enc w n cs xs (by simpa using hxl) (fun i f hf => hget i f (by simpa using hf)) (by simpa using hw)
  rw [List.drop_zero, List.take_of_length_le (by omega)] at hK
  exact ⟨x, hK, hg⟩
theorem weights_of {H : Type} {P : Program} {ts : List TypeId} {ds : List (DataW H)} {j : Nat} {t : TypeId} {d : DataW H} (hsz : (DataW.weightsEach P ts ds).all (· ≤ reachBytes) = true) (ht : ts[j]? = some t) (hd : ds[j]? = some d) : ∀ n ∈ d.weights P t, n ≤ reachBytes := by
  intro n hn
  have := List.all_eq_true.1 hsz n (DataW.weights_mem_each ht hd n hn)
  simpa using this
theorem open_slice {α H : Type} {enc : TypeId × Value → H} {P : Program} {W : World} {t e : TypeId} {d : Kd α} {g : List α → Prop} {a : Option Addr} {len cap : Nat} {y : DataW H} {ps : List MemPlace} (h : Opens P t (Kd.slice e d) g)
    (hy : DataW.Trod enc P W 0 (fun _ => true) true t (.slice a len cap) y ps) (hw : ∀ n ∈ y.weights P t, n ≤ reachBytes) : ∃ xs : List α, len = xs.length ∧ xs.length ≤ cap ∧ d.C W a xs.length xs ∧ g xs := by
  obtain ⟨fuel, hf⟩ := hy
  obtain ⟨xs, ⟨A, c, he, hl, hC⟩, hg⟩ := h enc W fuel _ y ps hf hw
  have he' : Value.slice a len cap = .slice A xs.length c := by simpa [Value.cells] using he
  injection he' with h1 h2 h3
  subst h1 h2 h3
  exact ⟨xs, rfl, hl, hC, hg⟩
end Go.Proofs.YtehkpnnidbghhaaO
namespace Go.Proofs.Ytehkpnnidbghhaa.OFnExactStampOf
open Go.RowKit Go.Proofs.Ytehkpnnidbghhaa.PFnExactStampOf Go.Proofs.YtehkpnnidbghhaaW.PrintWords Go.Proofs.YtehkpnnidbghhaaO
def Ok35 (x : S35) : Prop := (x.f0.size ≤ 140737488351232) ∧ (x.f1.length * 16 ≤ 140737488351232 ∧ ∀ y ∈ x.f1, y.size ≤ 140737488351232) ∧ (x.f2.length * 1 ≤ 140737488351232 ∧ ∀ y ∈ x.f2, InU8 y)
theorem opens35 : Opens Try.prog 35 k35 Ok35 :=
  Opens.imp (opens_iso _ (fun x => (⟨x.1, x.2.1, x.2.2⟩ : S35)) (fun _ => rfl) (opens_struct Try.underlying35 (by kernel_rfl) (opensL_cons rfl (by kernel_rfl) (opens_string Try.underlying9) (opensL_cons rfl (by kernel_rfl) (opens_slice Try.underlying32 (by kernel_rfl) (B := 16) (by kernel_rfl) (opens_string Try.underlying9)) (opensL_one rfl (by kernel_rfl) (opens_slice Try.underlying33 (by kernel_rfl) (B := 1) (by kernel_rfl) (opens_u8 Try.underlying5))))))) fun x h => by
    obtain ⟨h0, h1, h2⟩ := h
    exact ⟨h0, h1, h2⟩
end Go.Proofs.Ytehkpnnidbghhaa.OFnExactStampOf
namespace Go.Proofs.YtehkpnnidbghhaaO
open Go.RowKit Go.Proofs.YtehkpnnidbghhaaW.PrintWords Go.Proofs.YtehkpnnidbghhaaW.PrintLast Go.Proofs.YtehkpnnidbghhaaW.PrintMore
theorem w64 {n : Int} (h : -9223372036854775808 ≤ n) (k : n ≤ 9223372036854775807) : wrap64 n = n := by unfold wrap64; omega
theorem w64s (i : Nat) (h : i < 4611686018427387904) : wrap64 ((i : Int) + 1) = ((i + 1 : Nat) : Int) := by unfold wrap64; omega
theorem ev_some {α : Type} {x r : α} (h : x = r) : Ev (fun _ => some x) r := ⟨0, fun _ _ => by rw [h]⟩
theorem ev_pos {α : Type} {c : Prop} [Decidable c] {f g : Nat → Option α} {r : α} (h : c) (k : Ev f r) : Ev (fun n => if c then f n else g n) r := by
  obtain ⟨K, hK⟩ := k
  exact ⟨K, fun n hn => (if_pos h).trans (hK n hn)⟩
theorem ev_neg {α : Type} {c : Prop} [Decidable c] {f g : Nat → Option α} {r : α} (h : ¬ c) (k : Ev g r) : Ev (fun n => if c then f n else g n) r := by
  obtain ⟨K, hK⟩ := k
  exact ⟨K, fun n hn => (if_neg h).trans (hK n hn)⟩
theorem ev_ite {α : Type} {c : Prop} [Decidable c] {f g : Nat → Option α} {r : α} (h : c → Ev f r) (k : ¬ c → Ev g r) : Ev (fun n => if c then f n else g n) r := by
  by_cases hc : c
  · exact ev_pos hc (h hc)
  · exact ev_neg hc (k hc)
theorem ev_bindc {α β : Type} {x : Option α} {f : Nat → α → Option β} {a : α} {r : β} (h : x = some a) (k : Ev (fun n => f n a) r) : Ev (fun n => x.bind (f n)) r := by
  subst h; exact k
theorem ev_for {σ ρ : Type} (n : Nat) (L : Nat → Nat → σ → Option ρ) (I : Nat → σ → Prop) (Q : ρ → Prop)
    (hend : ∀ s, I n s → ∃ r, Ev (fun k => L k n s) r ∧ Q r)
    (hstep : ∀ i s, i < n → I i s → (∃ r, Ev (fun k => L k i s) r ∧ Q r) ∨ ∃ s', I (i + 1) s' ∧ ∀ r, Ev (fun k => L k (i + 1) s') r → Ev (fun k => L k i s) r) :
    ∀ i s, i ≤ n → I i s → ∃ r, Ev (fun k => L k i s) r ∧ Q r := by
  have key : ∀ d i s, i + d = n → I i s → ∃ r, Ev (fun k => L k i s) r ∧ Q r := by
    intro d
    induction d with
    | zero => intro i s hi h; obtain rfl : i = n := by omega
              exact hend s h
    | succ d ih =>
      intro i s hi h
      rcases hstep i s (by omega) h with h' | ⟨s', hI, hr⟩
      · exact h'
      · obtain ⟨r, hr', hQ⟩ := ih (i + 1) s' (by omega) hI
        exact ⟨r, hr r hr', hQ⟩
  intro i s hi h
  exact key (n - i) i s (by omega) h
theorem ev_for1 {σ ρ : Type} (n : Nat) (L : Nat → Nat → σ → Option ρ) (I : Nat → σ → Prop) (a : ρ)
    (hend : ∀ s, I n s → Ev (fun k => L k n s) a)
    (hstep : ∀ i s, i < n → I i s → Ev (fun k => L k i s) a ∨ ∃ s', I (i + 1) s' ∧ ∀ r, Ev (fun k => L k (i + 1) s') r → Ev (fun k => L k i s) r) :
    ∀ i s, i ≤ n → I i s → Ev (fun k => L k i s) a := by
  intro i s hi h
  obtain ⟨r, hr, rfl⟩ := ev_for n L I (fun r => r = a) (fun s hs => ⟨a, hend s hs, rfl⟩) (fun i s hi hs => (hstep i s hi hs).imp (fun h => ⟨a, h, rfl⟩) id) i s hi h
  exact hr
theorem rd_get {xs : List Int} {i : Nat} (h : i < xs.length) : rd xs (i : Int) = xs[i] := by simp [rd, List.getD_eq_getElem?_getD, h]
theorem rdOf_get {α : Type} {d : α} {xs : List α} {i : Nat} (h : i < xs.length) : rdOf d xs (i : Int) = xs[i] := by simp [rdOf, List.getD_eq_getElem?_getD, h]
theorem getD_get {α : Type} {d : α} {xs : List α} {i : Nat} (h : i < xs.length) : xs.getD (i : Int).toNat d = xs[i] := by simp [List.getD_eq_getElem?_getD, h]
theorem ev_copy {α β : Type} (L : Nat → List α → List β → Int → Option (List β)) (e : Nat → List α → Int → Option β) (g : α → β)
    (hL : ∀ k xs ys i, L (k + 1) xs ys i = if i < (xs.length : Int) then (if 0 ≤ i then (if i < (ys.length : Int) then ((e k xs i).bind fun v => L k xs (ys.set (i : Int).toNat v) (wrap64 (i + 1))) else none) else none) else some ys)
    (xs : List α) (hx : xs.length < 4611686018427387904) (he : ∀ i : Nat, ∀ h : i < xs.length, Ev (fun k => e k xs (i : Int)) (g xs[i])) (ys : List β) (hy : ys.length = xs.length) :
    Ev (fun k => L k xs ys 0) (xs.map g) := by
  refine ev_for1 xs.length (fun k i ys => L k xs ys (i : Int)) (fun i ys => ys.length = xs.length ∧ ∀ j, j < i → ys[j]? = (xs.map g)[j]?) (xs.map g) ?_ ?_ 0 ys (Nat.zero_le _) ⟨hy, fun j hj => by omega⟩
  · intro ys ⟨hl, h⟩
    refine Ev.step (fun k => hL k xs ys _) (ev_neg (by omega) (ev_some ?_))
    apply List.ext_getElem?
    intro j
    rcases Nat.lt_or_ge j xs.length with hj | hj
    · exact h j hj
    · rw [List.getElem?_eq_none (by omega), List.getElem?_eq_none (by simpa using hj)]
  · intro i ys hi ⟨hl, h⟩
    refine .inr ⟨ys.set i (g xs[i]), ⟨by simpa using hl, fun j hj => ?_⟩, fun r hr => ?_⟩
    · rcases Nat.lt_or_ge j i with hji | hji
      · rw [List.getElem?_set_ne (by omega)]
        exact h j hji
      · obtain rfl : j = i := by omega
        rw [List.getElem?_set_self (by omega), List.getElem?_map, List.getElem?_eq_getElem hi]
        rfl
    · refine Ev.step (fun k => hL k xs ys _) (ev_pos (by omega) (ev_pos (by omega) (ev_pos (by omega) (Ev.bind (he i hi) ?_))))
      rw [w64s i (by omega)]
      exact hr
theorem ev_alike {α β : Type} (L : Nat → List α → List β → Int → Option Bool) (e : Nat → List α → List β → Int → Option Bool) (g : α → β → Bool)
    (hL : ∀ k xs ys i, L (k + 1) xs ys i = if i < (xs.length : Int) then (if 0 ≤ i then (if i < (ys.length : Int) then ((e k xs ys i).bind fun v => if v = true then L k xs ys (wrap64 (i + 1)) else some false) else none) else none) else some true)
    (xs : List α) (ys : List β) (hx : xs.length < 4611686018427387904) (hy : ys.length = xs.length) (he : ∀ i : Nat, ∀ (h : i < xs.length) (h' : i < ys.length), Ev (fun k => e k xs ys (i : Int)) (g xs[i] ys[i]))
    (b : Bool) (hb : b = true ↔ ∀ i : Nat, ∀ (h : i < xs.length) (h' : i < ys.length), g xs[i] ys[i] = true) :
    Ev (fun k => L k xs ys 0) b := by
  refine ev_for1 xs.length (fun k i (_ : Unit) => L k xs ys (i : Int)) (fun i _ => ∀ j, j < i → ∀ (h : j < xs.length) (h' : j < ys.length), g xs[j] ys[j] = true) b ?_ ?_ 0 () (Nat.zero_le _) (fun j hj => by omega)
  · intro _ h
    refine Ev.step (fun k => hL k xs ys _) (ev_neg (by omega) (ev_some ?_))
    exact (hb.2 fun i hi hi' => h i hi hi hi').symm
  · intro i _ hi h
    have hi' : i < ys.length := by omega
    by_cases hg : g xs[i] ys[i] = true
    · refine .inr ⟨(), fun j hj h1 h2 => ?_, fun r hr => ?_⟩
      · rcases Nat.lt_or_ge j i with hji | hji
        · exact h j hji h1 h2
        · obtain rfl : j = i := by omega
          exact hg
      · refine Ev.step (fun k => hL k xs ys _) (ev_pos (by omega) (ev_pos (by omega) (ev_pos (by omega) (Ev.bind (he i hi hi') (ev_pos hg ?_)))))
        rw [w64s i (by omega)]
        exact hr
    · refine .inl (Ev.step (fun k => hL k xs ys _) (ev_pos (by omega) (ev_pos (by omega) (ev_pos (by omega) (Ev.bind (he i hi hi') (ev_neg hg (ev_some ?_)))))))
      cases b with
      | false => rfl
      | true => exact absurd (hb.1 rfl i hi hi') hg
theorem ev_alike_self {α : Type} (L : Nat → List α → List α → Int → Option Bool) (e : Nat → List α → List α → Int → Option Bool)
    (hL : ∀ k xs ys i, L (k + 1) xs ys i = if i < (xs.length : Int) then (if 0 ≤ i then (if i < (ys.length : Int) then ((e k xs ys i).bind fun v => if v = true then L k xs ys (wrap64 (i + 1)) else some false) else none) else none) else some true)
    (xs : List α) (hx : xs.length < 4611686018427387904) (he : ∀ i : Nat, ∀ (_ : i < xs.length), Ev (fun k => e k xs xs (i : Int)) true) :
    Ev (fun k => L k xs xs 0) true :=
  ev_alike L e (fun _ _ => true) hL xs xs hx rfl (fun i h _ => he i h) true ⟨fun _ _ _ _ => rfl, fun _ => rfl⟩
theorem bool_of (P : Prop) : ∃ b : Bool, b = true ↔ P := ⟨@decide P (Classical.propDecidable P), by simp⟩
theorem bool_false {P : Prop} {b : Bool} (h : b = true ↔ P) (k : ¬ P) : b = false := by
  cases b with
  | false => rfl
  | true => exact absurd (h.1 rfl) k
theorem ev_all (n : Nat) (L : Nat → Nat → Option Bool) (ok : Nat → Prop) (e b : Bool) (hb : b = true ↔ e = true ∧ ∀ i, i < n → ok i) (hend : Ev (fun k => L k n) e)
    (hyes : ∀ i, i < n → (∀ j, j < i → ok j) → ok i → ∀ r, Ev (fun k => L k (i + 1)) r → Ev (fun k => L k i) r) (hno : ∀ i, i < n → (∀ j, j < i → ok j) → ¬ ok i → Ev (fun k => L k i) false) : Ev (fun k => L k 0) b := by
  refine ev_for1 n (fun k i (_ : Unit) => L k i) (fun i _ => ∀ j, j < i → ok j) b ?_ ?_ 0 () (Nat.zero_le _) (fun j hj => by omega)
  · intro _ h
    have : b = e := by
      cases e with
      | false => exact bool_false hb (fun h => by simp at h)
      | true => exact hb.2 ⟨rfl, h⟩
    rw [this]
    exact hend
  · intro i _ hi h
    by_cases ho : ok i
    · refine .inr ⟨(), fun j hj => ?_, hyes i hi h ho⟩
      rcases Nat.lt_or_ge j i with h1 | h1
      · exact h j h1
      · obtain rfl : j = i := by omega
        exact ho
    · have : b = false := bool_false hb (fun h => ho (h.2 i hi))
      rw [this]
      exact .inl (hno i hi h ho)
theorem wrap_u64 {n : Int} (h0 : 0 ≤ n) (h1 : n ≤ 18446744073709551615) : IntKind.u64.wrap n = n := by
  have e : IntKind.u64.wrap n = n % 18446744073709551616 := by simp only [IntKind.wrap, IntKind.bits, IntKind.signed]; rfl
  rw [e]; omega
def Chain {α : Type} (E : α → Int → Int → Prop) : List α → Int → Int → Prop
  | [], c, d => c = d
  | x :: r, c, d => ∃ m, E x c m ∧ Chain E r m d
theorem Chain.snoc {α : Type} {E : α → Int → Int → Prop} : ∀ {l : List α} {c m d : Int} {x : α}, Chain E l c m → E x m d → Chain E (l ++ [x]) c d
  | [], _, _, _, _, h, k => by cases h; exact ⟨_, k, rfl⟩
  | _ :: _, _, _, _, _, ⟨q, h1, h2⟩, k => ⟨q, h1, Chain.snoc h2 k⟩
theorem ev_index {α : Type} (L : Nat → List α → Int → Int → Option Int) (p : Nat → List α → Int → Option Bool)
    (hL : ∀ k xs n i, L (k + 1) xs n i = if i < n then (if 0 ≤ i then (if i < (xs.length : Int) then ((p k xs i).bind fun t => if t = true then some i else L k xs n (wrap64 (i + 1))) else none) else none) else some (-1))
    (xs : List α) (hx : xs.length < 4611686018427387904) (P : Nat → Bool) (he : ∀ i : Nat, i < xs.length → Ev (fun k => p k xs (i : Int)) (P i)) :
    ∃ r, Ev (fun k => L k xs (xs.length : Int) 0) r ∧ ((r = -1 ∧ ∀ i, i < xs.length → P i = false) ∨ ∃ i : Nat, i < xs.length ∧ r = (i : Int) ∧ P i = true ∧ ∀ j, j < i → P j = false) := by
  refine ev_for xs.length (fun k i (_ : Unit) => L k xs (xs.length : Int) (i : Int)) (fun i _ => ∀ j, j < i → P j = false) (fun r => (r = -1 ∧ ∀ i, i < xs.length → P i = false) ∨ ∃ i : Nat, i < xs.length ∧ r = (i : Int) ∧ P i = true ∧ ∀ j, j < i → P j = false) ?_ ?_ 0 () (Nat.zero_le _) (fun j hj => by omega)
  · intro _ h
    exact ⟨-1, Ev.step (fun k => hL k xs _ _) (ev_neg (by omega) (ev_some rfl)), .inl ⟨rfl, h⟩⟩
  · intro i _ hi h
    cases hP : P i with
    | true =>
      refine .inl ⟨(i : Int), Ev.step (fun k => hL k xs _ _) (ev_pos (by omega) (ev_pos (by omega) (ev_pos (by omega) (Ev.bind (he i hi) (ev_pos hP (ev_some rfl)))))), .inr ⟨i, hi, rfl, hP, h⟩⟩
    | false =>
      refine .inr ⟨(), fun j hj => ?_, fun r hr => Ev.step (fun k => hL k xs _ _) (ev_pos (by omega) (ev_pos (by omega) (ev_pos (by omega) (Ev.bind (he i hi) (ev_neg (by rw [hP]; decide) ?_)))))⟩
      · rcases Nat.lt_or_ge j i with h1 | h1
        · exact h j h1
        · obtain rfl : j = i := by omega
          exact hP
      · rw [w64s i (by omega)]
        exact hr
theorem ev_contains {α : Type} (L : Nat → List α → Int → Int → Option Int) (p : Nat → List α → Int → Option Bool)
    (hL : ∀ k xs n i, L (k + 1) xs n i = if i < n then (if 0 ≤ i then (if i < (xs.length : Int) then ((p k xs i).bind fun t => if t = true then some i else L k xs n (wrap64 (i + 1))) else none) else none) else some (-1))
    (xs : List α) (hx : xs.length < 4611686018427387904) (P : Nat → Bool) (he : ∀ i : Nat, i < xs.length → Ev (fun k => p k xs (i : Int)) (P i)) (b : Bool) (hb : b = true ↔ ∃ i, i < xs.length ∧ P i = true) :
    Ev (fun k => (L k xs (xs.length : Int) 0).bind fun t => some (decide (t ≥ 0))) b := by
  obtain ⟨r, hr, h⟩ := ev_index L p hL xs hx P he
  refine Ev.bind hr (ev_some ?_)
  rw [Bool.eq_iff_iff, decide_eq_true_eq, hb]
  rcases h with ⟨rfl, h⟩ | ⟨i, hi, rfl, hP, _⟩
  · constructor
    · intro h'; omega
    · rintro ⟨i, hi, hP⟩; rw [h i hi] at hP; cases hP
  · exact ⟨fun _ => ⟨i, hi, hP⟩, fun _ => by omega⟩
theorem exev_bind {α β : Type} {g : Nat → Option α} {f : Nat → α → Option β} {a : α} {Q : β → Prop} (h : Ev g a) (k : ∃ r, Ev (fun n => f n a) r ∧ Q r) : ∃ r, Ev (fun n => (g n).bind (f n)) r ∧ Q r := by
  obtain ⟨r, hr, hq⟩ := k
  exact ⟨r, Ev.bind h hr, hq⟩
theorem exev_pos {α : Type} {c : Prop} [Decidable c] {f g : Nat → Option α} {Q : α → Prop} (h : c) (k : ∃ r, Ev f r ∧ Q r) : ∃ r, Ev (fun n => if c then f n else g n) r ∧ Q r := by
  obtain ⟨r, hr, hq⟩ := k
  exact ⟨r, ev_pos h hr, hq⟩
theorem exev_neg {α : Type} {c : Prop} [Decidable c] {f g : Nat → Option α} {Q : α → Prop} (h : ¬ c) (k : ∃ r, Ev g r ∧ Q r) : ∃ r, Ev (fun n => if c then f n else g n) r ∧ Q r := by
  obtain ⟨r, hr, hq⟩ := k
  exact ⟨r, ev_neg h hr, hq⟩
theorem exev_ite {α : Type} {c : Prop} [Decidable c] {f g : Nat → Option α} {Q : α → Prop} (h : c → ∃ r, Ev f r ∧ Q r) (k : ¬ c → ∃ r, Ev g r ∧ Q r) : ∃ r, Ev (fun n => if c then f n else g n) r ∧ Q r := by
  by_cases hc : c
  · exact exev_pos hc (h hc)
  · exact exev_neg hc (k hc)
theorem exev_some {α : Type} {x : α} {Q : α → Prop} (h : Q x) : ∃ r, Ev (fun _ => some x) r ∧ Q r := ⟨x, ev_some rfl, h⟩
theorem ev_copy2 {α β τ : Type} (L : Nat → List α → List β → Int → Option (List β)) (e : Nat → List α → Int → Option τ) (mk : τ → β) (g : α → β)
    (hL : ∀ k xs ys i, L (k + 1) xs ys i = if i < (xs.length : Int) then (if 0 ≤ i then ((e k xs i).bind fun v => if i < (ys.length : Int) then L k xs (ys.set (i : Int).toNat (mk v)) (wrap64 (i + 1)) else none) else none) else some ys)
    (xs : List α) (hx : xs.length < 4611686018427387904) (he : ∀ i : Nat, ∀ h : i < xs.length, ∃ t, Ev (fun k => e k xs (i : Int)) t ∧ mk t = g xs[i]) (ys : List β) (hy : ys.length = xs.length) :
    Ev (fun k => L k xs ys 0) (xs.map g) := by
  refine ev_for1 xs.length (fun k i ys => L k xs ys (i : Int)) (fun i ys => ys.length = xs.length ∧ ∀ j, j < i → ys[j]? = (xs.map g)[j]?) (xs.map g) ?_ ?_ 0 ys (Nat.zero_le _) ⟨hy, fun j hj => by omega⟩
  · intro ys ⟨hl, h⟩
    refine Ev.step (fun k => hL k xs ys _) (ev_neg (by omega) (ev_some ?_))
    apply List.ext_getElem?
    intro j
    rcases Nat.lt_or_ge j xs.length with hj | hj
    · exact h j hj
    · rw [List.getElem?_eq_none (by omega), List.getElem?_eq_none (by simpa using hj)]
  · intro i ys hi ⟨hl, h⟩
    obtain ⟨t, ht, hmk⟩ := he i hi
    refine .inr ⟨ys.set i (g xs[i]), ⟨by simpa using hl, fun j hj => ?_⟩, fun r hr => ?_⟩
    · rcases Nat.lt_or_ge j i with hji | hji
      · rw [List.getElem?_set_ne (by omega)]
        exact h j hji
      · obtain rfl : j = i := by omega
        rw [List.getElem?_set_self (by omega), List.getElem?_map, List.getElem?_eq_getElem hi]
        rfl
    · refine Ev.step (fun k => hL k xs ys _) (ev_pos (by omega) (ev_pos (by omega) (Ev.bind ht (ev_pos (by omega) ?_))))
      rw [w64s i (by omega), hmk]
      exact hr
theorem ev_size {α : Type} (L : Nat → List α → Int → Int → Option Int) (e : Nat → List α → Int → Int → Option Int) (C : α → Prop)
    (hL : ∀ k xs c i, L (k + 1) xs c i = if i < (xs.length : Int) then (if 0 ≤ i then ((e k xs c i).bind fun t => if t < 0 then some (-1) else L k xs t (wrap64 (i + 1))) else none) else some c)
    (xs : List α) (hx : xs.length < 4611686018427387904) (left : Int) (h0 : 0 ≤ left)
    (he : ∀ i : Nat, ∀ h : i < xs.length, ∀ c, 0 ≤ c → c ≤ left → ∃ r, Ev (fun k => e k xs c (i : Int)) r ∧ (r < 0 ∨ 0 ≤ r ∧ r ≤ c ∧ C xs[i])) :
    ∃ r, Ev (fun k => L k xs left 0) r ∧ (r < 0 ∨ 0 ≤ r ∧ r ≤ left ∧ ∀ x ∈ xs, C x) := by
  refine ev_for xs.length (fun k i c => L k xs c (i : Int)) (fun i c => 0 ≤ c ∧ c ≤ left ∧ ∀ j, ∀ h : j < xs.length, j < i → C xs[j]) (fun r => r < 0 ∨ 0 ≤ r ∧ r ≤ left ∧ ∀ x ∈ xs, C x) ?_ ?_ 0 left (Nat.zero_le _) ⟨h0, Int.le_refl _, fun j _ hj => by omega⟩
  · intro c ⟨hc0, hc1, h⟩
    refine ⟨c, Ev.step (fun k => hL k xs c _) (ev_neg (by omega) (ev_some rfl)), .inr ⟨hc0, hc1, fun x hx => ?_⟩⟩
    obtain ⟨j, hj, rfl⟩ := List.getElem_of_mem hx
    exact h j hj hj
  · intro i c hi ⟨hc0, hc1, h⟩
    obtain ⟨r, hr, hq⟩ := he i hi c hc0 hc1
    rcases hq with hq | ⟨q0, q1, q2⟩
    · exact .inl ⟨-1, Ev.step (fun k => hL k xs c _) (ev_pos (by omega) (ev_pos (by omega) (Ev.bind hr (ev_pos hq (ev_some rfl))))), .inl (by omega)⟩
    · refine .inr ⟨r, ⟨q0, by omega, fun j hj hji => ?_⟩, fun r' hr' => Ev.step (fun k => hL k xs c _) (ev_pos (by omega) (ev_pos (by omega) (Ev.bind hr (ev_neg (by omega) ?_))))⟩
      · rcases Nat.lt_or_ge j i with h1 | h1
        · exact h j hj h1
        · obtain rfl : j = i := by omega
          exact q2
      · rw [w64s i (by omega)]
        exact hr'
end Go.Proofs.YtehkpnnidbghhaaO
namespace Go.Proofs.Ytehkpnnidbghhaa.Pure
open Go.RowKit Go Go.Proofs.Ytehkpnnidbghhaa.PFnExactStampOf Go.Proofs.Ytehkpnnidbghhaa.OFnExactStampOf Go.Proofs.YtehkpnnidbghhaaW.PrintWords Go.Proofs.YtehkpnnidbghhaaW.PrintLast Go.Proofs.YtehkpnnidbghhaaW.PrintMore Go.Proofs.YtehkpnnidbghhaaO
set_option linter.unusedVariables false
set_option linter.unusedSimpArgs false
theorem st_spec_l21At_l0 {r : (Int)} {x1 : ByteArray} {x7 : List (S40)} {x8 : Int} {x9 : Int} (h : Ev (fun k => if x9 < x8 then (if 0 ≤ x9 then (if x9 < (x7.length : Int) then (if ((rd_T40 x7 x9).f0).toList = x1.toList then (some x9) else (spec_l21At.l0 k x1 x7 x8 (wrap64 (x9 + 1)))) else (none)) else (none)) else (some (-1))) r) : Ev (fun k => spec_l21At.l0 k x1 x7 x8 x9) r := Ev.step (fun k => by rw [spec_l21At.l0]) h
theorem st_laws_FnExactStampOf_j0 {r : (Bool)} {x0 : List (S35)} {x8 : List (S40)} {x41 : Bool} (h : Ev (fun k => if x41 = true then (some false) else ((laws_toAssetS.f k x0).bind fun t278 => ((laws_eqAssetS.f k x8 t278).bind fun t281 => (if t281 = true then (some true) else (some false))))) r) : Ev (fun k => laws_FnExactStampOf.j0 k x0 x8 x41) r := Ev.step (fun k => by rw [laws_FnExactStampOf.j0]) h
theorem st_spec_GoodName_j0 {r : (Bool)} {x0 : ByteArray} {x16 : Bool} (h : Ev (fun k => if x16 = true then (some false) else (spec_GoodName.l0 k x0 0)) r) : Ev (fun k => spec_GoodName.j0 k x0 x16) r := Ev.step (fun k => by rw [spec_GoodName.j0]) h
theorem st_spec_GoodName_l0 {r : (Bool)} {x0 : ByteArray} {x3 : Int} (h : Ev (fun k => if x3 < (x0.size : Int) then (if 0 ≤ x3 then ((spec_l1Letter.f (bt x0 x3)).bind fun t110 => (if t110 = true then (spec_GoodName.l0 k x0 (wrap64 (x3 + 1))) else ((spec_l1Digit.f (bt x0 x3)).bind fun t111 => (if t111 = true then (spec_GoodName.l0 k x0 (wrap64 (x3 + 1))) else (some false))))) else (none)) else (some true)) r) : Ev (fun k => spec_GoodName.l0 k x0 x3) r := Ev.step (fun k => by rw [spec_GoodName.l0]) h
theorem st_spec_l3Names_l0 {r : (Bool)} {x0 : List ByteArray} {x11 : List ByteArray} {x12 : Int} {x13 : Int} (h : Ev (fun k => if x13 < x12 then (if 0 ≤ x13 then (if x13 < (x11.length : Int) then ((spec_GoodName.f k (rdOf ByteArray.empty x11 x13)).bind fun t113 => (if t113 = true then (if x13 > 0 then (if 0 ≤ (wrap64 (x13 - 1)) then (if (wrap64 (x13 - 1)) < (x0.length : Int) then (if ((Op.bytesLess ((rdOf ByteArray.empty x0 (wrap64 (x13 - 1))).toList) ((rdOf ByteArray.empty x11 x13).toList)) = true) then (spec_l3Names.l0 k x0 x11 x12 (wrap64 (x13 + 1))) else (some false)) else (none)) else (none)) else (spec_l3Names.l0 k x0 x11 x12 (wrap64 (x13 + 1)))) else (some false))) else (none)) else (none)) else (some true)) r) : Ev (fun k => spec_l3Names.l0 k x0 x11 x12 x13) r := Ev.step (fun k => by rw [spec_l3Names.l0]) h
theorem st_spec_l1Has_l0 {r : (Bool)} {x1 : ByteArray} {x7 : List ByteArray} {x8 : Int} {x9 : Int} (h : Ev (fun k => if x9 < x8 then (if 0 ≤ x9 then (if x9 < (x7.length : Int) then (if (rdOf ByteArray.empty x7 x9).toList = x1.toList then (some true) else (spec_l1Has.l0 k x1 x7 x8 (wrap64 (x9 + 1)))) else (none)) else (none)) else (some false)) r) : Ev (fun k => spec_l1Has.l0 k x1 x7 x8 x9) r := Ev.step (fun k => by rw [spec_l1Has.l0]) h
theorem st_spec_l21Order_l0 {r : (List ByteArray)} {x0 : List (S40)} {x3 : List ByteArray} (h : Ev (fun k => spec_l21Order.l1 k x0 x3 false x0 (x0.length : Int) 0) r) : Ev (fun k => spec_l21Order.l0 k x0 x3) r := Ev.step (fun k => by rw [spec_l21Order.l0]) h
theorem st_spec_l21Order_l1 {r : (List ByteArray)} {x0 : List (S40)} {x3 : List ByteArray} {x4 : Bool} {x10 : List (S40)} {x11 : Int} {x12 : Int} (h : Ev (fun k => if x12 < x11 then (if 0 ≤ x12 then (if x12 < (x10.length : Int) then ((spec_l1Has.f k x3 ((rd_T40 x10 x12).f0)).bind fun t118 => (spec_l21Order.l2 k x0 x3 x4 (!t118) x10 x11 x12 ((rd_T40 x10 x12).f1) (((rd_T40 x10 x12).f1).length : Int) 0 ((rd_T40 x10 x12).f0) ((rd_T40 x10 x12).f1) ((rd_T40 x10 x12).f2))) else (none)) else (none)) else (if x4 = true then (spec_l21Order.l0 k x0 x3) else (some x3))) r) : Ev (fun k => spec_l21Order.l1 k x0 x3 x4 x10 x11 x12) r := Ev.step (fun k => by rw [spec_l21Order.l1]) h
theorem st_spec_l21Order_l2 {r : (List ByteArray)} {x0 : List (S40)} {x3 : List ByteArray} {x4 : Bool} {x7 : Bool} {x10 : List (S40)} {x11 : Int} {x12 : Int} {x22 : List ByteArray} {x23 : Int} {x24 : Int} {x118000 : ByteArray} {x118001 : List ByteArray} {x118002 : List Int} (h : Ev (fun k => if x24 < x23 then (if 0 ≤ x24 then (if x24 < (x22.length : Int) then (if x7 = true then ((spec_l1Has.f k x3 (rdOf ByteArray.empty x22 x24)).bind fun t120 => (spec_l21Order.l2 k x0 x3 x4 t120 x10 x11 x12 x22 x23 (wrap64 (x24 + 1)) x118000 x118001 x118002)) else (spec_l21Order.l2 k x0 x3 x4 false x10 x11 x12 x22 x23 (wrap64 (x24 + 1)) x118000 x118001 x118002)) else (none)) else (none)) else (if x7 = true then (if x3.length < 8796093022208 then (spec_l21Order.l0 k x0 (x3 ++ [x118000])) else (none)) else (spec_l21Order.l1 k x0 x3 x4 x10 x11 (wrap64 (x12 + 1))))) r) : Ev (fun k => spec_l21Order.l2 k x0 x3 x4 x7 x10 x11 x12 x22 x23 x24 x118000 x118001 x118002) r := Ev.step (fun k => by rw [spec_l21Order.l2]) h
theorem st_spec_GoodAssets_l0 {r : (Bool)} {x0 : List (S40)} {x10 : List (S40)} {x11 : Int} {x12 : Int} (h : Ev (fun k => if x12 < x11 then (if 0 ≤ x12 then (if x12 < (x10.length : Int) then ((spec_GoodName.f k ((rd_T40 x10 x12).f0)).bind fun t129 => (if t129 = true then (if x12 > 0 then (if 0 ≤ (wrap64 (x12 - 1)) then (if (wrap64 (x12 - 1)) < (x0.length : Int) then (if ((Op.bytesLess (((rd_T40 x0 (wrap64 (x12 - 1))).f0).toList) (((rd_T40 x10 x12).f0).toList)) = true) then ((spec_l3Names.f k ((rd_T40 x10 x12).f1) 10).bind fun t131 => (if t131 = true then (spec_GoodAssets.j1 k x0 x10 x11 x12 (decide ((((rd_T40 x10 x12).f2).length : Int) > 400)) ((rd_T40 x10 x12).f0) ((rd_T40 x10 x12).f1) ((rd_T40 x10 x12).f2)) else (spec_GoodAssets.j1 k x0 x10 x11 x12 true ((rd_T40 x10 x12).f0) ((rd_T40 x10 x12).f1) ((rd_T40 x10 x12).f2)))) else (spec_GoodAssets.j1 k x0 x10 x11 x12 true ((rd_T40 x10 x12).f0) ((rd_T40 x10 x12).f1) ((rd_T40 x10 x12).f2))) else (none)) else (none)) else ((spec_l3Names.f k ((rd_T40 x10 x12).f1) 10).bind fun t132 => (if t132 = true then (spec_GoodAssets.j1 k x0 x10 x11 x12 (decide ((((rd_T40 x10 x12).f2).length : Int) > 400)) ((rd_T40 x10 x12).f0) ((rd_T40 x10 x12).f1) ((rd_T40 x10 x12).f2)) else (spec_GoodAssets.j1 k x0 x10 x11 x12 true ((rd_T40 x10 x12).f0) ((rd_T40 x10 x12).f1) ((rd_T40 x10 x12).f2))))) else (spec_GoodAssets.j1 k x0 x10 x11 x12 true ((rd_T40 x10 x12).f0) ((rd_T40 x10 x12).f1) ((rd_T40 x10 x12).f2)))) else (none)) else (none)) else ((spec_l21Order.f k x0).bind fun t124 => (some ((t124.length : Int) == (x0.length : Int))))) r) : Ev (fun k => spec_GoodAssets.l0 k x0 x10 x11 x12) r := Ev.step (fun k => by rw [spec_GoodAssets.l0]) h
theorem st_spec_GoodAssets_j1 {r : (Bool)} {x0 : List (S40)} {x10 : List (S40)} {x11 : Int} {x12 : Int} {x47 : Bool} {x129000 : ByteArray} {x129001 : List ByteArray} {x129002 : List Int} (h : Ev (fun k => if x47 = true then (some false) else (spec_GoodAssets.l1 k x0 x10 x11 x12 x129001 (x129001.length : Int) 0)) r) : Ev (fun k => spec_GoodAssets.j1 k x0 x10 x11 x12 x47 x129000 x129001 x129002) r := Ev.step (fun k => by rw [spec_GoodAssets.j1]) h
theorem st_spec_GoodAssets_l1 {r : (Bool)} {x0 : List (S40)} {x10 : List (S40)} {x11 : Int} {x12 : Int} {x49 : List ByteArray} {x50 : Int} {x51 : Int} (h : Ev (fun k => if x51 < x50 then (if 0 ≤ x51 then (if x51 < (x49.length : Int) then ((spec_l21At.f k x0 (rdOf ByteArray.empty x49 x51)).bind fun t134 => (if t134 < 0 then (some false) else (spec_GoodAssets.l1 k x0 x10 x11 x12 x49 x50 (wrap64 (x51 + 1))))) else (none)) else (none)) else (spec_GoodAssets.l0 k x0 x10 x11 (wrap64 (x12 + 1)))) r) : Ev (fun k => spec_GoodAssets.l1 k x0 x10 x11 x12 x49 x50 x51) r := Ev.step (fun k => by rw [spec_GoodAssets.l1]) h
theorem st_spec_l21Stamps_l0 {r : (List Int)} {x0 : List (S40)} {x3 : List Int} {x15 : List ByteArray} {x16 : Int} {x17 : Int} (h : Ev (fun k => if x17 < x16 then (if 0 ≤ x17 then (if x17 < (x15.length : Int) then ((spec_l21At.f k x0 (rdOf ByteArray.empty x15 x17)).bind fun t143 => (if ([] : List Int).length + (rdOf ByteArray.empty x15 x17).size < 140737488355328 then ((some (([] : List Int) ++ bytesOf (rdOf ByteArray.empty x15 x17) : List Int)).bind fun y144 => (if y144.length < 140737488355328 then ((some (y144 ++ [0] : List Int)).bind fun y147 => (if 0 ≤ t143 then (if t143 < (x0.length : Int) then (if y147.length + ((rd_T40 x0 t143).f2).length < 140737488355328 then ((some (y147 ++ ((rd_T40 x0 t143).f2) : List Int)).bind fun y151 => (if y151.length < 140737488355328 then (spec_l21Stamps.l1 k x0 x3 t143 (y151 ++ [0]) x15 x16 x17 ((rd_T40 x0 t143).f1) (((rd_T40 x0 t143).f1).length : Int) 0) else (none))) else (none)) else (none)) else (none))) else (none))) else (none))) else (none)) else (none)) else (some x3)) r) : Ev (fun k => spec_l21Stamps.l0 k x0 x3 x15 x16 x17) r := Ev.step (fun k => by rw [spec_l21Stamps.l0]) h
theorem st_spec_l21Stamps_l1 {r : (List Int)} {x0 : List (S40)} {x3 : List Int} {x6 : Int} {x7 : List Int} {x15 : List ByteArray} {x16 : Int} {x17 : Int} {x44 : List ByteArray} {x45 : Int} {x46 : Int} (h : Ev (fun k => if x46 < x45 then (if 0 ≤ x46 then (if x46 < (x44.length : Int) then ((spec_l21At.f k x0 (rdOf ByteArray.empty x44 x46)).bind fun t159 => (if 0 ≤ t159 then (if t159 < (x3.length : Int) then ((some (([((rd x3 t159) / 16777216) % 256, ((rd x3 t159) / 65536) % 256, ((rd x3 t159) / 256) % 256, (rd x3 t159) % 256] : List Int) : List Int)).bind fun y161 => (if x7.length + y161.length < 140737488355328 then (spec_l21Stamps.l1 k x0 x3 x6 (x7 ++ y161) x15 x16 x17 x44 x45 (wrap64 (x46 + 1))) else (none))) else (none)) else (none))) else (none)) else (none)) else ((spec_l21Digest.f k x7).bind fun t167 => (if 0 ≤ x6 then (if x6 < (x3.length : Int) then (spec_l21Stamps.l0 k x0 (x3.set (x6 : Int).toNat t167) x15 x16 (wrap64 (x17 + 1))) else (none)) else (none)))) r) : Ev (fun k => spec_l21Stamps.l1 k x0 x3 x6 x7 x15 x16 x17 x44 x45 x46) r := Ev.step (fun k => by rw [spec_l21Stamps.l1]) h
theorem st_impl_GoodName_l0 {r : (Bool)} {x0 : ByteArray} {x5 : Int} {x6 : Int} (h : Ev (fun k => if x6 < x5 then (if 0 ≤ x6 then (if x6 < (x0.size : Int) then ((impl_isLetter.f (bt x0 x6)).bind fun t207 => (if t207 = true then (impl_GoodName.l0 k x0 x5 (wrap64 (x6 + 1))) else (if (bt x0 x6) = 95 then (impl_GoodName.l0 k x0 x5 (wrap64 (x6 + 1))) else (if x6 = 0 then (some false) else ((impl_isDigit.f (bt x0 x6)).bind fun t208 => (if t208 = true then (impl_GoodName.l0 k x0 x5 (wrap64 (x6 + 1))) else (some false))))))) else (none)) else (none)) else ((impl_inRange.f (x0.size : Int) 1 20).bind fun t206 => (some t206))) r) : Ev (fun k => impl_GoodName.l0 k x0 x5 x6) r := Ev.step (fun k => by rw [impl_GoodName.l0]) h
theorem st_impl_areNames_l0 {r : (Bool)} {x0 : List ByteArray} {x5 : List ByteArray} {x6 : Int} {x7 : Int} (h : Ev (fun k => if x7 < x6 then (if 0 ≤ x7 then (if x7 < (x5.length : Int) then ((impl_GoodName.f k (rdOf ByteArray.empty x5 x7)).bind fun t210 => (if t210 = true then (if x7 > 0 then (if 0 ≤ (wrap64 (x7 - 1)) then (if (wrap64 (x7 - 1)) < (x0.length : Int) then (if ((Op.bytesLess ((rdOf ByteArray.empty x0 (wrap64 (x7 - 1))).toList) ((rdOf ByteArray.empty x5 x7).toList)) = true) then (impl_areNames.l0 k x0 x5 x6 (wrap64 (x7 + 1))) else (some false)) else (none)) else (none)) else (impl_areNames.l0 k x0 x5 x6 (wrap64 (x7 + 1)))) else (some false))) else (none)) else (none)) else (some true)) r) : Ev (fun k => impl_areNames.l0 k x0 x5 x6 x7) r := Ev.step (fun k => by rw [impl_areNames.l0]) h
theorem st_slices_Index_string_string_l0 {r : (Int)} {x0 : List ByteArray} {x1 : ByteArray} {x7 : Int} {x8 : Int} (h : Ev (fun k => if x8 < x7 then (if 0 ≤ x8 then (if x8 < (x0.length : Int) then (if x1.toList = (rdOf ByteArray.empty x0 x8).toList then (some x8) else (slices_Index_string_string.l0 k x0 x1 x7 (wrap64 (x8 + 1)))) else (none)) else (none)) else (some (-1))) r) : Ev (fun k => slices_Index_string_string.l0 k x0 x1 x7 x8) r := Ev.step (fun k => by rw [slices_Index_string_string.l0]) h
theorem st_impl_makeOrder_l0 {r : (List ByteArray)} {x0 : List (S40)} {x233000 : List ByteArray} (h : Ev (fun k => (slices_IndexFunc_w45.f k x0 x233000).bind fun t233 => (if t233 < 0 then (some x233000) else (if 0 ≤ t233 then (if t233 < (x0.length : Int) then (if x233000.length < 8796093022208 then (impl_makeOrder.l0 k x0 (x233000 ++ [(rd_T40 x0 t233).f0])) else (none)) else (none)) else (none)))) r) : Ev (fun k => impl_makeOrder.l0 k x0 x233000) r := Ev.step (fun k => by rw [impl_makeOrder.l0]) h
theorem st_impl_GoodAssets_l0 {r : (Bool)} {x5 : List (S40)} {x6 : Int} {x7 : Int} {x242000 : List (S40)} (h : Ev (fun k => if x7 < x6 then (if 0 ≤ x7 then (if x7 < (x5.length : Int) then ((impl_GoodName.f k ((rd_T40 x5 x7).f0)).bind fun t247 => (if t247 = true then (if x7 > 0 then (if 0 ≤ (wrap64 (x7 - 1)) then (if (wrap64 (x7 - 1)) < (x242000.length : Int) then (if ((Op.bytesLess (((rd_T40 x242000 (wrap64 (x7 - 1))).f0).toList) (((rd_T40 x5 x7).f0).toList)) = true) then ((impl_areNames.f k ((rd_T40 x5 x7).f1)).bind fun t249 => (if t249 = true then (if (((rd_T40 x5 x7).f1).length : Int) > 10 then (impl_GoodAssets.j1 k x5 x6 x7 true x242000 ((rd_T40 x5 x7).f0) ((rd_T40 x5 x7).f1) ((rd_T40 x5 x7).f2)) else (impl_GoodAssets.j1 k x5 x6 x7 (decide ((((rd_T40 x5 x7).f2).length : Int) > 400)) x242000 ((rd_T40 x5 x7).f0) ((rd_T40 x5 x7).f1) ((rd_T40 x5 x7).f2))) else (impl_GoodAssets.j1 k x5 x6 x7 true x242000 ((rd_T40 x5 x7).f0) ((rd_T40 x5 x7).f1) ((rd_T40 x5 x7).f2)))) else (impl_GoodAssets.j1 k x5 x6 x7 true x242000 ((rd_T40 x5 x7).f0) ((rd_T40 x5 x7).f1) ((rd_T40 x5 x7).f2))) else (none)) else (none)) else ((impl_areNames.f k ((rd_T40 x5 x7).f1)).bind fun t250 => (if t250 = true then (if (((rd_T40 x5 x7).f1).length : Int) > 10 then (impl_GoodAssets.j1 k x5 x6 x7 true x242000 ((rd_T40 x5 x7).f0) ((rd_T40 x5 x7).f1) ((rd_T40 x5 x7).f2)) else (impl_GoodAssets.j1 k x5 x6 x7 (decide ((((rd_T40 x5 x7).f2).length : Int) > 400)) x242000 ((rd_T40 x5 x7).f0) ((rd_T40 x5 x7).f1) ((rd_T40 x5 x7).f2))) else (impl_GoodAssets.j1 k x5 x6 x7 true x242000 ((rd_T40 x5 x7).f0) ((rd_T40 x5 x7).f1) ((rd_T40 x5 x7).f2))))) else (impl_GoodAssets.j1 k x5 x6 x7 true x242000 ((rd_T40 x5 x7).f0) ((rd_T40 x5 x7).f1) ((rd_T40 x5 x7).f2)))) else (none)) else (none)) else (if (x242000.length : Int) ≤ 30 then ((impl_makeOrder.f k x242000).bind fun t242 => (some ((t242.length : Int) == (x242000.length : Int)))) else (some false))) r) : Ev (fun k => impl_GoodAssets.l0 k x5 x6 x7 x242000) r := Ev.step (fun k => by rw [impl_GoodAssets.l0]) h
theorem st_impl_GoodAssets_j1 {r : (Bool)} {x5 : List (S40)} {x6 : Int} {x7 : Int} {x48 : Bool} {x242000 : List (S40)} {x247000 : ByteArray} {x247001 : List ByteArray} {x247002 : List Int} (h : Ev (fun k => if x48 = true then (some false) else ((slices_ContainsFunc_w29.f k x247001 x242000).bind fun t251 => (if t251 = true then (some false) else (impl_GoodAssets.l0 k x5 x6 (wrap64 (x7 + 1)) x242000)))) r) : Ev (fun k => impl_GoodAssets.j1 k x5 x6 x7 x48 x242000 x247000 x247001 x247002) r := Ev.step (fun k => by rw [impl_GoodAssets.j1]) h
theorem inr_some (a b c : Int) : impl_inRange.f a b c = some (decide (b ≤ a ∧ a ≤ c)) := by
 unfold impl_inRange.f
 split <;> simp_all <;> omega
def nameChar (c : Int) : Bool := decide (97 ≤ c ∧ c ≤ 122) || decide (65 ≤ c ∧ c ≤ 90) || decide (c = 95)
def digitChar (c : Int) : Bool := decide (48 ≤ c ∧ c ≤ 57)
def CharOk (s : ByteArray) (i : Nat) : Prop := nameChar (bt s (i : Int)) = true ∨ 0 < i ∧ digitChar (bt s (i : Int)) = true
def NameOk (s : ByteArray) : Prop := (1 ≤ s.size ∧ s.size ≤ 20) ∧ ∀ i, i < s.size → CharOk s i
theorem letter_spec (c : Int) : spec_l1Letter.f c = some (nameChar c) := by
 unfold spec_l1Letter.f nameChar
 repeat' split
 all_goals (congr 1; rw [Bool.eq_iff_iff]; simp; try omega)
theorem digit_spec (c : Int) : spec_l1Digit.f c = some (digitChar c) := by
 unfold spec_l1Digit.f digitChar
 repeat' split
 all_goals (congr 1; rw [Bool.eq_iff_iff]; simp; try omega)
theorem digit_impl (c : Int) : impl_isDigit.f c = some (digitChar c) := by
 unfold impl_isDigit.f digitChar
 repeat' split
 all_goals (congr 1; rw [Bool.eq_iff_iff]; simp; try omega)
theorem letter_impl (c : Int) : ∃ b, impl_isLetter.f c = some b ∧ (nameChar c = true ↔ b = true ∨ c = 95) := by
 unfold impl_isLetter.f nameChar
 repeat' split
 all_goals (refine ⟨_, rfl, ?_⟩; simp; try omega)
theorem name_impl (s : ByteArray) (hs : s.size ≤ 140737488351232) (b : Bool) (hb : b = true ↔ NameOk s) : Ev (fun k => impl_GoodName.f k s) b := by
 refine ev_all s.size (fun k i => impl_GoodName.l0 k s (s.size : Int) (i : Int)) (CharOk s) (decide (1 ≤ (s.size : Int) ∧ (s.size : Int) ≤ 20)) b ?_ ?_ ?_ ?_
 ·rw [hb]; unfold NameOk; simp; omega
 ·exact st_impl_GoodName_l0 (ev_neg (by omega) (ev_bindc (inr_some _ _ _) (ev_some rfl)))
 ·intro i hi _ ho r hr
  refine st_impl_GoodName_l0 (ev_pos (by omega) (ev_pos (by omega) (ev_pos (by omega) ?_)))
  obtain ⟨q, hq, hn⟩ := letter_impl (bt s (i : Int))
  rw [w64s i (by omega)]
  refine ev_bindc hq (ev_ite (fun _ => hr) fun h1 => ev_ite (fun _ => hr) fun h2 => ?_)
  rcases ho with ho | ⟨ho, hd⟩
  ·rcases hn.1 ho with h | h
   ·exact absurd h h1
   ·exact absurd h h2
  ·exact ev_neg (by omega) (ev_bindc (digit_impl _) (ev_pos hd hr))
 ·intro i hi _ ho
  refine st_impl_GoodName_l0 (ev_pos (by omega) (ev_pos (by omega) (ev_pos (by omega) ?_)))
  obtain ⟨q, hq, hn⟩ := letter_impl (bt s (i : Int))
  refine ev_bindc hq (ev_ite (fun h => absurd (.inl (hn.2 (.inl h))) ho) fun h1 => ev_ite (fun h => absurd (.inl (hn.2 (.inr h))) ho) fun h2 => ev_ite (fun _ => ev_some rfl) fun h3 => ?_)
  exact ev_bindc (digit_impl _) (ev_neg (fun h => ho (.inr ⟨by omega, h⟩)) (ev_some rfl))
theorem name_spec (s : ByteArray) (b : Bool) (hb : b = true ↔ NameOk s) : Ev (fun k => spec_GoodName.f k s) b := by
 have j0t : Ev (fun k => spec_GoodName.j0 k s true) false := st_spec_GoodName_j0 (ev_pos rfl (ev_some rfl))
 by_cases h1 : (s.size : Int) < 1
 ·rw [bool_false hb (fun h => by have := h.1; omega)]
  exact ev_pos h1 j0t
 ·by_cases h2 : (s.size : Int) > 20
  ·rw [bool_false hb (fun h => by have := h.1; omega)]
   exact ev_neg h1 (ev_pos h2 j0t)
  ·refine ev_neg h1 (ev_neg h2 (ev_pos (by omega) (ev_bindc (digit_spec _) ?_)))
   cases hd : digitChar (bt s 0) with
   | true =>
    rw [bool_false hb (fun h => by
     have h0 : CharOk s 0 := h.2 0 (by omega)
     rcases h0 with h0 | h0
     ·have h0 : nameChar (bt s 0) = true := h0
      generalize bt s 0 = c at hd h0
      simp [nameChar, digitChar] at hd h0; omega
     ·omega)]
    exact j0t
   | false =>
    refine st_spec_GoodName_j0 (ev_neg (by decide) ?_)
    refine ev_all s.size (fun k i => spec_GoodName.l0 k s (i : Int)) (CharOk s) true b ?_ ?_ ?_ ?_
    ·rw [hb]; unfold NameOk; constructor
     ·exact fun h => ⟨rfl, h.2⟩
     ·exact fun h => ⟨by omega, h.2⟩
    ·exact st_spec_GoodName_l0 (ev_neg (by omega) (ev_some rfl))
    ·intro i hi _ ho r hr
     refine st_spec_GoodName_l0 (ev_pos (by omega) (ev_pos (by omega) (ev_bindc (letter_spec _) (ev_ite (fun _ => by rw [w64s i (by omega)]; exact hr) fun hl => ev_bindc (digit_spec _) ?_))))
     rcases ho with ho | ⟨_, ho⟩
     ·exact absurd ho hl
     ·refine ev_pos ho ?_
      rw [w64s i (by omega)]; exact hr
    ·intro i hi _ ho
     refine st_spec_GoodName_l0 (ev_pos (by omega) (ev_pos (by omega) (ev_bindc (letter_spec _) (ev_neg (fun h => ho (.inl h)) (ev_bindc (digit_spec _) (ev_neg (fun h => ho ?_) (ev_some rfl)))))))
     rcases Nat.eq_zero_or_pos i with rfl | hp
     ·have h' : digitChar (bt s 0) = true := h
      rw [hd] at h'; cases h'
     ·exact .inr ⟨hp, h⟩
theorem szStringS_some (xs : List ByteArray) (g : xs.length * 16 ≤ 140737488351232 ∧ ∀ y ∈ xs, y.size ≤ 140737488351232) (left : Int) (h0 : 0 ≤ left) (h1 : left ≤ 1048576) : ∃ r, Ev (fun k => laws_szStringS.f k xs left) r ∧ (r < 0 ∨ 0 ≤ r ∧ r ≤ left ∧ (xs.length ≤ 1048576 ∧ ∀ y ∈ xs, y.size ≤ 1048576)) := by
 have g1 := g.1
 unfold laws_szStringS.f
 rw [w64 (n := left - (xs.length : Int)) (by omega) (by omega)]
 refine exev_ite (fun _ => exev_some (.inl (by omega))) fun hc => ?_
 have he : ∀ i : Nat, ∀ hi : i < xs.length, ∀ c : Int, 0 ≤ c → c ≤ left - (xs.length : Int) → ∃ r, Ev (fun k => some (wrap64 (c - ((rdOf ByteArray.empty xs (i : Int)).size : Int)))) r ∧ (r < 0 ∨ 0 ≤ r ∧ r ≤ c ∧ xs[i].size ≤ 1048576) := by
  intro i hi c h0 h1
  have e : rdOf ByteArray.empty xs (i : Int) = xs[i] := rdOf_get hi
  have gx := g.2 _ (List.getElem_mem hi)
  have ew : wrap64 (c - (xs[i].size : Int)) = c - (xs[i].size : Int) := w64 (by omega) (by omega)
  rw [e, ew]
  exact ⟨_, ev_some rfl, by by_cases hn : c - (xs[i].size : Int) < 0; exact .inl hn; exact .inr ⟨by omega, by omega, by omega⟩⟩
 obtain ⟨r, hr, hq⟩ := ev_size laws_szStringS.l0 (fun _ xs c i => some (wrap64 (c - ((rdOf ByteArray.empty xs i).size : Int)))) (fun y => y.size ≤ 1048576) (fun _ _ _ _ => rfl) xs (by omega) (left - (xs.length : Int)) (by omega) he
 refine ⟨r, hr, ?_⟩
 rcases hq with hq | ⟨q0, q1, q2⟩
 ·exact .inl hq
 ·exact .inr ⟨q0, by omega, by omega, q2⟩
theorem szByteS_some (xs : List Int) (g : xs.length * 1 ≤ 140737488351232 ∧ ∀ y ∈ xs, InU8 y) (left : Int) (h0 : 0 ≤ left) (h1 : left ≤ 1048576) : ∃ r, Ev (fun _ => laws_szByteS.f xs left) r ∧ (r < 0 ∨ 0 ≤ r ∧ r ≤ left ∧ xs.length ≤ 1048576) := by
 have g1 := g.1
 unfold laws_szByteS.f
 rw [w64 (n := left - (xs.length : Int)) (by omega) (by omega)]
 refine exev_ite (fun _ => exev_some (.inl (by omega))) fun hc => ?_
 exact exev_some (.inr ⟨by omega, by omega, by omega⟩)
def Fit35 (x : S35) : Prop := (x.f0.size ≤ 1048576) ∧ ((x.f1.length ≤ 1048576 ∧ ∀ y ∈ x.f1, y.size ≤ 1048576)) ∧ (x.f2.length ≤ 1048576)
theorem szAsset_some (a0 : ByteArray) (l1 : List ByteArray) (l2 : List Int) (ga0 : a0.size ≤ 140737488351232) (gl1 : l1.length * 16 ≤ 140737488351232 ∧ ∀ y ∈ l1, y.size ≤ 140737488351232) (gl2 : l2.length * 1 ≤ 140737488351232 ∧ ∀ y ∈ l2, InU8 y) (left : Int) (h0 : 0 ≤ left) (h1 : left ≤ 1048576) : ∃ r, Ev (fun k => laws_szAsset.f k a0 l1 l2 left) r ∧ (r < 0 ∨ 0 ≤ r ∧ r ≤ left ∧ (a0.size ≤ 1048576) ∧ ((l1.length ≤ 1048576 ∧ ∀ y ∈ l1, y.size ≤ 1048576)) ∧ (l2.length ≤ 1048576)) := by
 unfold laws_szAsset.f
 have e0 : wrap64 (left - (a0.size : Int)) = left - (a0.size : Int) := w64 (by omega) (by omega)
 rw [e0]
 refine exev_ite (fun _ => exev_some (.inl (by omega))) fun c0 => ?_
 obtain ⟨r1, hr1, hq1⟩ := szStringS_some l1 gl1 ((left - (a0.size : Int))) (by omega) (by omega)
 refine exev_bind hr1 (exev_ite (fun _ => exev_some (.inl (by omega))) fun c1 => ?_)
 rcases hq1 with hq1 | ⟨u1, v1, w1⟩
 ·omega
 obtain ⟨r2, hr2, hq2⟩ := szByteS_some l2 gl2 (r1) (by omega) (by omega)
 refine exev_bind hr2 (exev_ite (fun _ => exev_some (.inl (by omega))) fun c2 => ?_)
 rcases hq2 with hq2 | ⟨u2, v2, w2⟩
 ·omega
 exact exev_some (.inr ⟨by omega, by omega, (by omega), w1, w2⟩)
theorem szAssetS_some (xs : List S35) (g : xs.length * 64 ≤ 140737488351232 ∧ ∀ y ∈ xs, Ok35 y) (left : Int) (h0 : 0 ≤ left) (h1 : left ≤ 1048576) : ∃ r, Ev (fun k => laws_szAssetS.f k xs left) r ∧ (r < 0 ∨ 0 ≤ r ∧ r ≤ left ∧ (xs.length ≤ 1048576 ∧ ∀ y ∈ xs, Fit35 y)) := by
 have g1 := g.1
 unfold laws_szAssetS.f
 rw [w64 (n := left - (xs.length : Int)) (by omega) (by omega)]
 refine exev_ite (fun _ => exev_some (.inl (by omega))) fun hc => ?_
 have he : ∀ i : Nat, ∀ hi : i < xs.length, ∀ c : Int, 0 ≤ c → c ≤ left - (xs.length : Int) → ∃ r, Ev (fun k => laws_szAsset.f k ((rd_T35 xs (i : Int)).f0) ((rd_T35 xs (i : Int)).f1) ((rd_T35 xs (i : Int)).f2) c) r ∧ (r < 0 ∨ 0 ≤ r ∧ r ≤ c ∧ Fit35 xs[i]) := by
  intro i hi c h0 h1
  have e : rd_T35 xs (i : Int) = xs[i] := getD_get hi
  rw [e]
  have gx := g.2 _ (List.getElem_mem hi)
  obtain ⟨r, hr, hq⟩ := szAsset_some _ _ _ (gx.1) (gx.2.1) (gx.2.2) c h0 (by omega)
  exact ⟨r, hr, hq⟩
 obtain ⟨r, hr, hq⟩ := ev_size laws_szAssetS.l0 (fun k xs c i => laws_szAsset.f k ((rd_T35 xs i).f0) ((rd_T35 xs i).f1) ((rd_T35 xs i).f2) c) (fun y => Fit35 y) (fun _ _ _ _ => rfl) xs (by omega) (left - (xs.length : Int)) (by omega) he
 refine ⟨r, hr, ?_⟩
 rcases hq with hq | ⟨q0, q1, q2⟩
 ·exact .inl hq
 ·exact .inr ⟨q0, by omega, by omega, q2⟩
theorem toStringS_ev (xs : List ByteArray) (h : (xs.length ≤ 1048576 ∧ ∀ y ∈ xs, y.size ≤ 1048576)) : Ev (fun k => laws_toStringS.f k xs) xs := by
 refine ev_pos (by omega) (ev_pos (by omega) ?_)
 have := ev_copy laws_toStringS.l0 (fun _ xs i => some (rdOf ByteArray.empty xs i)) id (fun _ _ _ _ => rfl) xs (by omega) (fun i hi => ev_some (rdOf_get hi)) (List.replicate (((xs.length : Int) : Int).toNat) (⟨#[]⟩ : ByteArray)) (by simp)
 rwa [List.map_id] at this
theorem toByteS_ev (xs : List Int) (h : xs.length ≤ 1048576) : Ev (fun k => laws_toByteS.f k xs) xs := by
 refine ev_pos (by omega) (ev_pos (by omega) ?_)
 have := ev_copy laws_toByteS.l0 (fun _ xs i => some (rd xs i)) id (fun _ _ _ _ => rfl) xs (by omega) (fun i hi => ev_some (rd_get hi)) (List.replicate (((xs.length : Int) : Int).toNat) 0) (by simp)
 rwa [List.map_id] at this
def cv35 (x : S35) : S40 := ⟨x.f0, x.f1, x.f2⟩
def Fit40 (x : S40) : Prop := (x.f0.size ≤ 1048576) ∧ ((x.f1.length ≤ 1048576 ∧ ∀ y ∈ x.f1, y.size ≤ 1048576)) ∧ (x.f2.length ≤ 1048576)
theorem fit_cv35 {x : S35} (h : Fit35 x) : Fit40 (cv35 x) := by
 obtain ⟨h0, h1, h2⟩ := h
 exact ⟨h0, h1, h2⟩
theorem toAsset_ev (a0 : ByteArray) (l1 : List ByteArray) (l2 : List Int) (ha0 : a0.size ≤ 1048576) (hl1 : (l1.length ≤ 1048576 ∧ ∀ y ∈ l1, y.size ≤ 1048576)) (hl2 : l2.length ≤ 1048576) : Ev (fun k => laws_toAsset.f k a0 l1 l2) (a0, l1, l2) := by
 unfold laws_toAsset.f
 repeat (first | exact ev_some rfl | refine Ev.bind (toStringS_ev _ hl1) ?_ | refine Ev.bind (toByteS_ev _ hl2) ?_ | refine ev_bindc rfl ?_)
theorem toAssetS_ev (xs : List S35) (h : (xs.length ≤ 1048576 ∧ ∀ y ∈ xs, Fit35 y)) : Ev (fun k => laws_toAssetS.f k xs) (xs.map cv35) := by
 refine ev_pos (by omega) (ev_pos (by have := h.1; omega) ?_)
 refine ev_copy2 laws_toAssetS.l0 (fun k xs i => laws_toAsset.f k ((rd_T35 xs i).f0) ((rd_T35 xs i).f1) ((rd_T35 xs i).f2)) (fun t => (⟨t.1, t.2.1, t.2.2⟩ : S40)) cv35 (fun _ _ _ _ => rfl) xs (by have := h.1; omega) (fun i hi => ?_) _ (by simp)
 ·have e : rd_T35 xs (i : Int) = xs[i] := getD_get hi
  rw [e]
  obtain ⟨hf0, hf1, hf2⟩ := h.2 _ (List.getElem_mem hi)
  exact ⟨_, toAsset_ev _ _ _ hf0 hf1 hf2, rfl⟩
theorem eqStringS_ev (xs : List ByteArray) (h : (xs.length ≤ 1048576 ∧ ∀ y ∈ xs, y.size ≤ 1048576)) : Ev (fun k => laws_eqStringS.f k xs xs) true := by
 refine ev_pos rfl ?_
 refine ev_for1 xs.length (fun k i (_ : Unit) => laws_eqStringS.l0 k xs xs (i : Int)) (fun _ _ => True) true ?_ ?_ 0 () (Nat.zero_le _) trivial
 ·intro _ _
  exact Ev.step (fun _ => rfl) (ev_neg (by omega) (ev_some rfl))
 ·intro i _ hi _
  refine .inr ⟨(), trivial, fun r hr => Ev.step (fun _ => rfl) (ev_pos (by omega) (ev_pos (by omega) (ev_pos (by omega) ?_)))⟩
  rw [w64s i (by have := h.1; omega)]
  exact ev_pos rfl hr
theorem eqByteS_ev (xs : List Int) (h : xs.length ≤ 1048576) : Ev (fun k => laws_eqByteS.f k xs xs) true := by
 refine ev_pos rfl ?_
 refine ev_for1 xs.length (fun k i (_ : Unit) => laws_eqByteS.l0 k xs xs (i : Int)) (fun _ _ => True) true ?_ ?_ 0 () (Nat.zero_le _) trivial
 ·intro _ _
  exact Ev.step (fun _ => rfl) (ev_neg (by omega) (ev_some rfl))
 ·intro i _ hi _
  refine .inr ⟨(), trivial, fun r hr => Ev.step (fun _ => rfl) (ev_pos (by omega) (ev_pos (by omega) (ev_pos (by omega) ?_)))⟩
  rw [w64s i (by have := h; omega)]
  exact ev_pos rfl hr
theorem eqAsset_ev (a0 : ByteArray) (l1 : List ByteArray) (l2 : List Int) (ha0 : a0.size ≤ 1048576) (hl1 : (l1.length ≤ 1048576 ∧ ∀ y ∈ l1, y.size ≤ 1048576)) (hl2 : l2.length ≤ 1048576) : Ev (fun k => laws_eqAsset.f k a0 l1 l2 a0 l1 l2) true := by
 unfold laws_eqAsset.f
 repeat (first | exact ev_some rfl | refine Ev.bind (eqStringS_ev l1 hl1) ?_ | refine Ev.bind (eqByteS_ev l2 hl2) ?_ | refine ev_pos rfl ?_ | refine ev_neg (by simp) ?_)
theorem eqAssetS_ev (xs : List S40) (h : (xs.length ≤ 1048576 ∧ ∀ y ∈ xs, Fit40 y)) : Ev (fun k => laws_eqAssetS.f k xs xs) true := by
 refine ev_pos rfl (ev_alike_self laws_eqAssetS.l0 (fun k xs ys i => laws_eqAsset.f k ((rd_T40 xs i).f0) ((rd_T40 xs i).f1) ((rd_T40 xs i).f2) ((rd_T40 ys i).f0) ((rd_T40 ys i).f1) ((rd_T40 ys i).f2)) (fun _ _ _ _ => rfl) xs (by have := h.1; omega) (fun i hi => ?_))
 ·have e : rd_T40 xs (i : Int) = xs[i] := getD_get hi
  rw [e]
  obtain ⟨hf0, hf1, hf2⟩ := h.2 _ (List.getElem_mem hi)
  exact eqAsset_ev _ _ _ hf0 hf1 hf2
def NamesOk (l : List ByteArray) : Prop := ∀ i, i < l.length → NameOk (rdOf ByteArray.empty l (i : Int)) ∧ (0 < i → Op.bytesLess (rdOf ByteArray.empty l ((i : Int) - 1)).toList (rdOf ByteArray.empty l (i : Int)).toList = true)
theorem names_spec (l : List ByteArray) (hl : l.length ≤ 1048576) (b : Bool) (hb : b = true ↔ l.length ≤ 10 ∧ NamesOk l) : Ev (fun k => spec_l3Names.f k l 10) b := by
 refine ev_ite (fun h => ev_some (bool_false hb (fun h' => by have := h'.1; omega)).symm) fun h => ?_
 refine ev_all l.length (fun k i => spec_l3Names.l0 k l l (l.length : Int) (i : Int)) (fun i => NameOk (rdOf ByteArray.empty l (i : Int)) ∧ (0 < i → Op.bytesLess (rdOf ByteArray.empty l ((i : Int) - 1)).toList (rdOf ByteArray.empty l (i : Int)).toList = true)) true b ?_ ?_ ?_ ?_
 ·rw [hb]; unfold NamesOk; constructor
  ·exact fun h => ⟨rfl, h.2⟩
  ·exact fun h' => ⟨by omega, h'.2⟩
 ·exact st_spec_l3Names_l0 (ev_neg (by omega) (ev_some rfl))
 ·intro i hi _ ⟨h0, h1⟩ r hr
  refine st_spec_l3Names_l0 (ev_pos (by omega) (ev_pos (by omega) (ev_pos (by omega) (Ev.bind (name_spec _ true ⟨fun _ => h0, fun _ => rfl⟩) (ev_pos rfl ?_)))))
  rw [w64s i (by omega), w64 (n := (i : Int) - 1) (by omega) (by omega)]
  exact ev_ite (fun hp => ev_pos (by omega) (ev_pos (by omega) (ev_pos (h1 (by omega)) hr))) fun _ => hr
 ·intro i hi _ ho
  obtain ⟨c, hc⟩ := bool_of (NameOk (rdOf ByteArray.empty l (i : Int)))
  refine st_spec_l3Names_l0 (ev_pos (by omega) (ev_pos (by omega) (ev_pos (by omega) (Ev.bind (name_spec _ c hc) (ev_ite (fun h0 => ?_) fun _ => ev_some rfl)))))
  rw [w64 (n := (i : Int) - 1) (by omega) (by omega)]
  exact ev_ite (fun hp => ev_pos (by omega) (ev_pos (by omega) (ev_ite (fun h2 => absurd ⟨hc.1 h0, fun _ => h2⟩ ho) fun _ => ev_some rfl))) fun hp => absurd ⟨hc.1 h0, fun h => by omega⟩ ho
theorem names_impl (l : List ByteArray) (hx : l.length ≤ 1048576 ∧ ∀ y ∈ l, y.size ≤ 1048576) (b : Bool) (hb : b = true ↔ NamesOk l) : Ev (fun k => impl_areNames.f k l) b := by
 have hl := hx.1
 have hn : ∀ i : Nat, i < l.length → (rdOf ByteArray.empty l (i : Int)).size ≤ 140737488351232 := by
  intro i hi
  rw [rdOf_get hi]
  have := hx.2 _ (List.getElem_mem hi)
  omega
 refine ev_all l.length (fun k i => impl_areNames.l0 k l l (l.length : Int) (i : Int)) (fun i => NameOk (rdOf ByteArray.empty l (i : Int)) ∧ (0 < i → Op.bytesLess (rdOf ByteArray.empty l ((i : Int) - 1)).toList (rdOf ByteArray.empty l (i : Int)).toList = true)) true b ?_ ?_ ?_ ?_
 ·rw [hb]; unfold NamesOk; constructor
  ·exact fun h => ⟨rfl, h⟩
  ·exact fun h' => h'.2
 ·exact st_impl_areNames_l0 (ev_neg (by omega) (ev_some rfl))
 ·intro i hi _ ⟨h0, h1⟩ r hr
  refine st_impl_areNames_l0 (ev_pos (by omega) (ev_pos (by omega) (ev_pos (by omega) (Ev.bind (name_impl _ (hn i hi) true ⟨fun _ => h0, fun _ => rfl⟩) (ev_pos rfl ?_)))))
  rw [w64s i (by omega), w64 (n := (i : Int) - 1) (by omega) (by omega)]
  exact ev_ite (fun hp => ev_pos (by omega) (ev_pos (by omega) (ev_pos (h1 (by omega)) hr))) fun _ => hr
 ·intro i hi _ ho
  obtain ⟨c, hc⟩ := bool_of (NameOk (rdOf ByteArray.empty l (i : Int)))
  refine st_impl_areNames_l0 (ev_pos (by omega) (ev_pos (by omega) (ev_pos (by omega) (Ev.bind (name_impl _ (hn i hi) c hc) (ev_ite (fun h0 => ?_) fun _ => ev_some rfl)))))
  rw [w64 (n := (i : Int) - 1) (by omega) (by omega)]
  exact ev_ite (fun hp => ev_pos (by omega) (ev_pos (by omega) (ev_ite (fun h2 => absurd ⟨hc.1 h0, fun _ => h2⟩ ho) fun _ => ev_some rfl))) fun hp => absurd ⟨hc.1 h0, fun h => by omega⟩ ho
def hasB (l : List ByteArray) (s : ByteArray) : Bool := l.any fun y => y.toList == s.toList
theorem hasB_iff (l : List ByteArray) (s : ByteArray) : hasB l s = true ↔ ∃ j, j < l.length ∧ (rdOf ByteArray.empty l (j : Int)).toList = s.toList := by
 unfold hasB
 rw [List.any_eq_true]
 constructor
 ·rintro ⟨y, hy, h⟩
  obtain ⟨j, hj, rfl⟩ := List.getElem_of_mem hy
  exact ⟨j, hj, by rw [rdOf_get hj]; simpa using h⟩
 ·rintro ⟨j, hj, h⟩
  exact ⟨_, List.getElem_mem hj, by rw [rdOf_get hj] at h; simpa using h⟩
theorem hasB_snoc (l : List ByteArray) (x s : ByteArray) : hasB (l ++ [x]) s = (hasB l s || x.toList == s.toList) := by
 simp [hasB, List.any_append]
theorem has_spec (l : List ByteArray) (hl : l.length ≤ 1048576) (s : ByteArray) : Ev (fun k => spec_l1Has.f k l s) (hasB l s) := by
 refine ev_for1 l.length (fun k i (_ : Unit) => spec_l1Has.l0 k s l (l.length : Int) (i : Int)) (fun i _ => ∀ j, j < i → (rdOf ByteArray.empty l (j : Int)).toList ≠ s.toList) _ ?_ ?_ 0 () (Nat.zero_le _) (fun j hj => by omega)
 ·intro _ h
  refine st_spec_l1Has_l0 (ev_neg (by omega) (ev_some ?_))
  rw [eq_comm, ← Bool.not_eq_true, hasB_iff]
  rintro ⟨j, hj, e⟩
  exact h j hj e
 ·intro i _ hi h
  by_cases e : (rdOf ByteArray.empty l (i : Int)).toList = s.toList
  ·refine .inl (st_spec_l1Has_l0 (ev_pos (by omega) (ev_pos (by omega) (ev_pos (by omega) (ev_pos e (ev_some ?_))))))
   rw [eq_comm, hasB_iff]
   exact ⟨i, hi, e⟩
  ·refine .inr ⟨(), fun j hj => ?_, fun r hr => st_spec_l1Has_l0 (ev_pos (by omega) (ev_pos (by omega) (ev_pos (by omega) (ev_neg e ?_))))⟩
   ·rcases Nat.lt_or_ge j i with h1 | h1
    ·exact h j h1
    ·obtain rfl : j = i := by omega
     exact e
   ·rw [w64s i (by omega)]; exact hr
theorem has_impl (l : List ByteArray) (hl : l.length ≤ 1048576) (s : ByteArray) : Ev (fun k => slices_Contains_string_string.f k l s) (hasB l s) := by
 have key : ∃ r, Ev (fun k => slices_Index_string_string.f k l s) r ∧ (0 ≤ r ↔ hasB l s = true) := by
  refine ev_for l.length (fun k i (_ : Unit) => slices_Index_string_string.l0 k l s (l.length : Int) (i : Int)) (fun i _ => ∀ j, j < i → (rdOf ByteArray.empty l (j : Int)).toList ≠ s.toList) _ ?_ ?_ 0 () (Nat.zero_le _) (fun j hj => by omega)
  ·intro _ h
   refine ⟨-1, st_slices_Index_string_string_l0 (ev_neg (by omega) (ev_some rfl)), ?_⟩
   rw [hasB_iff]
   exact ⟨fun h => by omega, fun ⟨j, hj, e⟩ => absurd e (h j hj)⟩
  ·intro i _ hi h
   by_cases e : s.toList = (rdOf ByteArray.empty l (i : Int)).toList
   ·refine .inl ⟨(i : Int), st_slices_Index_string_string_l0 (ev_pos (by omega) (ev_pos (by omega) (ev_pos (by omega) (ev_pos e (ev_some rfl))))), ?_⟩
    rw [hasB_iff]
    exact ⟨fun _ => ⟨i, hi, e.symm⟩, fun _ => by omega⟩
   ·refine .inr ⟨(), fun j hj => ?_, fun r hr => st_slices_Index_string_string_l0 (ev_pos (by omega) (ev_pos (by omega) (ev_pos (by omega) (ev_neg e ?_))))⟩
    ·rcases Nat.lt_or_ge j i with h1 | h1
     ·exact h j h1
     ·obtain rfl : j = i := by omega
      exact fun h => e h.symm
    ·rw [w64s i (by omega)]; exact hr
 obtain ⟨r, hr, h⟩ := key
 refine Ev.bind hr (ev_some ?_)
 rw [Bool.eq_iff_iff, decide_eq_true_eq]
 exact h
def Ready (out : List ByteArray) (a : S40) : Prop := ¬ hasB out a.f0 = true ∧ ∀ j, j < a.f1.length → hasB out (rdOf ByteArray.empty a.f1 (j : Int)) = true
def NeedsFit (l : List S40) : Prop := ∀ i : Nat, i < l.length → (rd_T40 l (i : Int)).f1.length ≤ 1048576
def cnt (l : List S40) (out : List ByteArray) : Nat → Nat
 | 0 => 0
 | i + 1 => cnt l out i + (if hasB out (rd_T40 l (i : Int)).f0 = true then 0 else 1)
theorem cnt_le (l : List S40) (out : List ByteArray) : ∀ n, cnt l out n ≤ n
 | 0 => Nat.le_refl _
 | n + 1 => by
  have := cnt_le l out n
  unfold cnt
  split <;> omega
theorem cnt_mono (l : List S40) (out out' : List ByteArray) (h : ∀ s, hasB out s = true → hasB out' s = true) : ∀ n, cnt l out' n ≤ cnt l out n
 | 0 => Nat.le_refl _
 | n + 1 => by
  have := cnt_mono l out out' h n
  unfold cnt
  by_cases h1 : hasB out (rd_T40 l (n : Int)).f0 = true
  ·rw [if_pos h1, if_pos (h _ h1)]; omega
  ·rw [if_neg h1]; split <;> omega
theorem cnt_lt (l : List S40) (out out' : List ByteArray) (h : ∀ s, hasB out s = true → hasB out' s = true) (i : Nat) (h0 : ¬ hasB out (rd_T40 l (i : Int)).f0 = true) (h1 : hasB out' (rd_T40 l (i : Int)).f0 = true) : ∀ n, i < n → cnt l out' n < cnt l out n
 | 0, hi => by omega
 | n + 1, hi => by
  unfold cnt
  by_cases e : i = n
  ·subst e
   have := cnt_mono l out out' h i
   rw [if_neg h0, if_pos h1]; omega
  ·have := cnt_lt l out out' h i h0 h1 n (by omega)
   by_cases h2 : hasB out (rd_T40 l (n : Int)).f0 = true
   ·rw [if_pos h2, if_pos (h _ h2)]; omega
   ·rw [if_neg h2]; split <;> omega
theorem ready_impl (out : List ByteArray) (ho : out.length ≤ 1048576) (a : S40) (ha : a.f1.length ≤ 1048576) (b : Bool) (hb : b = true ↔ Ready out a) : Ev (fun k => impl_makeOrder_1.f k a.f0 a.f1 a.f2 out) b := by
 unfold impl_makeOrder_1.f
 refine Ev.bind (has_impl out ho a.f0) (ev_ite (fun h0 => ev_some (bool_false hb (fun h => h.1 h0)).symm) fun h0 => ?_)
 refine Ev.bind (ev_contains (fun k xs n i => slices_IndexFunc_w47.l0 k xs n i out) (fun k xs i => impl_makeOrder_1_1.f k (rdOf ByteArray.empty xs i) out) (fun _ _ _ _ => rfl) a.f1 (by omega) (fun j => !hasB out (rdOf ByteArray.empty a.f1 (j : Int))) (fun j _ => Ev.bind (has_impl out ho _) (ev_some rfl)) (!b) ?_) (ev_some (by simp))
 cases b with
 | true =>
  have hr := hb.1 rfl
  simp only [Bool.not_true, Bool.not_eq_true', false_iff, not_exists, not_and, Bool.false_eq_true]
  intro j hj
  rw [hr.2 j hj]; decide
 | false =>
  simp only [Bool.not_false, true_iff]
  rcases Classical.em (∃ j, j < a.f1.length ∧ (!hasB out (rdOf ByteArray.empty a.f1 (j : Int))) = true) with h | h
  ·exact h
  ·refine absurd (hb.2 ⟨h0, fun j hj => ?_⟩) (by decide)
   cases e : hasB out (rdOf ByteArray.empty a.f1 (j : Int)) with
   | true => rfl
   | false => exact absurd ⟨j, hj, by rw [e]; rfl⟩ h
theorem inner_spec (l : List S40) (out : List ByteArray) (ho : out.length ≤ 1048576) (i : Nat) (hi : i < 1048576) (a : S40) (ha : a.f1.length ≤ 1048576) (r : List ByteArray)
  (hyes : Ready out a → Ev (fun k => spec_l21Order.l0 k l (out ++ [a.f0])) r) (hno : ¬ Ready out a → Ev (fun k => spec_l21Order.l1 k l out false l (l.length : Int) ((i + 1 : Nat) : Int)) r) :
  Ev (fun k => spec_l21Order.l2 k l out false (!hasB out a.f0) l (l.length : Int) (i : Int) a.f1 (a.f1.length : Int) 0 a.f0 a.f1 a.f2) r := by
 refine ev_for1 a.f1.length (fun k j (x : Bool) => spec_l21Order.l2 k l out false x l (l.length : Int) (i : Int) a.f1 (a.f1.length : Int) (j : Int) a.f0 a.f1 a.f2) (fun j x => x = true ↔ ¬ hasB out a.f0 = true ∧ ∀ q, q < j → hasB out (rdOf ByteArray.empty a.f1 (q : Int)) = true) r ?_ ?_ 0 _ (Nat.zero_le _) ?_
 ·intro x hx
  refine st_spec_l21Order_l2 (ev_neg (by omega) (ev_ite (fun h => ev_pos (by omega) (hyes (hx.1 h))) fun h => ?_))
  rw [w64s i (by omega)]
  exact hno fun h' => h (hx.2 h')
 ·intro j x hj hx
  cases x with
  | true =>
   refine .inr ⟨hasB out (rdOf ByteArray.empty a.f1 (j : Int)), ?_, fun r' hr' => st_spec_l21Order_l2 (ev_pos (by omega) (ev_pos (by omega) (ev_pos (by omega) (ev_pos rfl (Ev.bind (has_spec out ho _) ?_)))))⟩
   ·have hx := hx.1 rfl
    constructor
    ·intro h
     refine ⟨hx.1, fun q hq => ?_⟩
     rcases Nat.lt_or_ge q j with h1 | h1
     ·exact hx.2 q h1
     ·obtain rfl : q = j := by omega
      exact h
    ·exact fun h => h.2 j (by omega)
   ·rw [w64s j (by omega)]; exact hr'
  | false =>
   refine .inr ⟨false, ?_, fun r' hr' => st_spec_l21Order_l2 (ev_pos (by omega) (ev_pos (by omega) (ev_pos (by omega) (ev_neg (by decide) ?_))))⟩
   ·constructor
    ·intro h; cases h
    ·intro h; exact hx.2 ⟨h.1, fun q hq => h.2 q (by omega)⟩
   ·rw [w64s j (by omega)]; exact hr'
 ·constructor
  ·intro h; exact ⟨by simpa using h, fun q hq => by omega⟩
  ·intro h; simpa using h.1
theorem order_step (l : List S40) (hl : l.length ≤ 1048576) (hf : NeedsFit l) (out : List ByteArray) (ho : out.length ≤ l.length)
  (next : ∀ i : Nat, i < l.length → Ready out (rd_T40 l (i : Int)) → (∀ j, j < i → ¬ Ready out (rd_T40 l (j : Int))) → ∃ res, Ev (fun k => spec_l21Order.l0 k l (out ++ [(rd_T40 l (i : Int)).f0])) res ∧ Ev (fun k => impl_makeOrder.l0 k l (out ++ [(rd_T40 l (i : Int)).f0])) res ∧ res.length ≤ l.length) :
  ∃ res, Ev (fun k => spec_l21Order.l0 k l out) res ∧ Ev (fun k => impl_makeOrder.l0 k l out) res ∧ res.length ≤ l.length := by
 obtain ⟨P, hP⟩ : ∃ P : Nat → Bool, ∀ i : Nat, P i = true ↔ Ready out (rd_T40 l (i : Int)) := ⟨fun i => Classical.choose (bool_of (Ready out (rd_T40 l (i : Int)))), fun i => Classical.choose_spec (bool_of (Ready out (rd_T40 l (i : Int))))⟩
 have hno : ∀ i, P i = false → ¬ Ready out (rd_T40 l (i : Int)) := fun i h h' => by rw [(hP i).2 h'] at h; cases h
 obtain ⟨r, hr, h⟩ := ev_index (fun k xs n i => slices_IndexFunc_w45.l0 k xs n i out) (fun k xs i => impl_makeOrder_1.f k (rd_T40 xs i).f0 (rd_T40 xs i).f1 (rd_T40 xs i).f2 out) (fun _ _ _ _ => rfl) l (by omega) P (fun i hi => ready_impl out (by omega) _ (hf i hi) _ (hP i))
 have skip : ∀ (j : Nat) (res : List ByteArray), j < l.length → ¬ Ready out (rd_T40 l (j : Int)) → Ev (fun k => spec_l21Order.l1 k l out false l (l.length : Int) ((j + 1 : Nat) : Int)) res → Ev (fun k => spec_l21Order.l1 k l out false l (l.length : Int) (j : Int)) res := fun j res hj hn he =>
  st_spec_l21Order_l1 (ev_pos (by omega) (ev_pos (by omega) (ev_pos (by omega) (Ev.bind (has_spec out (by omega) _) (inner_spec l out (by omega) j (by omega) _ (hf j hj) res (fun h => absurd h hn) fun _ => he)))))
 rcases h with ⟨rfl, h⟩ | ⟨i, hi, rfl, h1, h2⟩
 ·refine ⟨out, ?_, st_impl_makeOrder_l0 (Ev.bind hr (ev_pos (by omega) (ev_some rfl))), ho⟩
  refine st_spec_l21Order_l0 ?_
  refine ev_for1 l.length (fun k j (_ : Unit) => spec_l21Order.l1 k l out false l (l.length : Int) (j : Int)) (fun _ _ => True) out ?_ ?_ 0 () (Nat.zero_le _) trivial
  ·intro _ _
   exact st_spec_l21Order_l1 (ev_neg (by omega) (ev_neg (by decide) (ev_some rfl)))
  ·intro j _ hj _
   exact .inr ⟨(), trivial, fun res he => skip j res hj (hno j (h j hj)) he⟩
 ·have hy := (hP i).1 h1
  obtain ⟨res, r1, r2, r3⟩ := next i hi hy (fun j hj => hno j (h2 j hj))
  refine ⟨res, ?_, st_impl_makeOrder_l0 (Ev.bind hr (ev_neg (by omega) (ev_pos (by omega) (ev_pos (by omega) (ev_pos (by omega) r2))))), r3⟩
  refine st_spec_l21Order_l0 ?_
  refine ev_for1 l.length (fun k j (_ : Unit) => spec_l21Order.l1 k l out false l (l.length : Int) (j : Int)) (fun j _ => j ≤ i) res ?_ ?_ 0 () (Nat.zero_le _) (Nat.zero_le _)
  ·intro _ h; omega
  ·intro j _ hj hji
   by_cases e : j = i
   ·subst e
    exact .inl (st_spec_l21Order_l1 (ev_pos (by omega) (ev_pos (by omega) (ev_pos (by omega) (Ev.bind (has_spec out (by omega) _) (inner_spec l out (by omega) j (by omega) _ (hf j hj) res (fun _ => r1) fun h => absurd hy h))))))
   ·exact .inr ⟨(), by omega, fun res' he => skip j res' hj (hno j (h2 j (by omega))) he⟩
theorem order_same (l : List S40) (hl : l.length ≤ 1048576) (hf : NeedsFit l) : ∀ (d : Nat) (out : List ByteArray), cnt l out l.length ≤ d → out.length + cnt l out l.length ≤ l.length →
  ∃ res, Ev (fun k => spec_l21Order.l0 k l out) res ∧ Ev (fun k => impl_makeOrder.l0 k l out) res ∧ res.length ≤ l.length := by
 intro d
 induction d with
 | zero =>
  intro out hd ho
  refine order_step l hl hf out (by omega) (fun i hi h0 h1 => ?_)
  have := cnt_lt l out (out ++ [(rd_T40 l (i : Int)).f0]) (fun s hs => by rw [hasB_snoc, hs]; rfl) i h0.1 (by rw [hasB_snoc]; simp) l.length hi
  omega
 | succ d ih =>
  intro out hd ho
  refine order_step l hl hf out (by omega) (fun i hi h0 h1 => ?_)
  have := cnt_lt l out (out ++ [(rd_T40 l (i : Int)).f0]) (fun s hs => by rw [hasB_snoc, hs]; rfl) i h0.1 (by rw [hasB_snoc]; simp) l.length hi
  exact ih _ (by omega) (by rw [List.length_append]; simp only [List.length_cons, List.length_nil]; omega)
def AtS (l : List S40) (s : ByteArray) : Prop := ∃ q, q < l.length ∧ (rd_T40 l (q : Int)).f0.toList = s.toList
theorem at_spec (l : List S40) (hl : l.length ≤ 1048576) (s : ByteArray) : ∃ r, Ev (fun k => spec_l21At.f k l s) r ∧ (r < 0 ↔ ¬ AtS l s) := by
 refine ev_for l.length (fun k i (_ : Unit) => spec_l21At.l0 k s l (l.length : Int) (i : Int)) (fun i _ => ∀ j, j < i → (rd_T40 l (j : Int)).f0.toList ≠ s.toList) (fun r => r < 0 ↔ ¬ AtS l s) ?_ ?_ 0 () (Nat.zero_le _) (fun j hj => by omega)
 ·intro _ h
  refine ⟨-1, st_spec_l21At_l0 (ev_neg (by omega) (ev_some rfl)), ?_⟩
  exact ⟨fun _ ⟨j, hj, e⟩ => h j hj e, fun _ => by omega⟩
 ·intro i _ hi h
  by_cases e : (rd_T40 l (i : Int)).f0.toList = s.toList
  ·refine .inl ⟨(i : Int), st_spec_l21At_l0 (ev_pos (by omega) (ev_pos (by omega) (ev_pos (by omega) (ev_pos e (ev_some rfl))))), ?_⟩
   exact ⟨fun h => by omega, fun h => absurd ⟨i, hi, e⟩ h⟩
  ·refine .inr ⟨(), fun j hj => ?_, fun r hr => st_spec_l21At_l0 (ev_pos (by omega) (ev_pos (by omega) (ev_pos (by omega) (ev_neg e ?_))))⟩
   ·rcases Nat.lt_or_ge j i with h1 | h1
    ·exact h j h1
    ·obtain rfl : j = i := by omega
     exact e
   ·rw [w64s i (by omega)]; exact hr
theorem at_impl (l : List S40) (hl : l.length ≤ 1048576) (s : ByteArray) : ∃ r, Ev (fun k => impl_assetAt.f k l s) r ∧ (r < 0 ↔ ¬ AtS l s) := by
 obtain ⟨r, hr, h⟩ := ev_index (fun k xs n i => slices_IndexFunc_w32.l0 k xs n i s) (fun _ xs i => impl_assetAt_1.f (rd_T40 xs i).f0 (rd_T40 xs i).f1 (rd_T40 xs i).f2 s) (fun _ _ _ _ => rfl) l (by omega) (fun i => (rd_T40 l (i : Int)).f0.toList == s.toList) (fun i _ => ev_some rfl)
 refine ⟨r, Ev.bind hr (ev_some rfl), ?_⟩
 rcases h with ⟨rfl, h⟩ | ⟨i, hi, rfl, h1, _⟩
 ·exact ⟨fun _ ⟨j, hj, e⟩ => by have := h j hj; rw [e] at this; simp at this, fun _ => by omega⟩
 ·exact ⟨fun h => by omega, fun h => absurd ⟨i, hi, by simpa using h1⟩ h⟩
def AssetOk (l : List S40) (i : Nat) : Prop :=
 NameOk (rd_T40 l i).f0 ∧ (0 < i → Op.bytesLess (rd_T40 l ((i : Int) - 1)).f0.toList (rd_T40 l i).f0.toList = true) ∧ ((rd_T40 l i).f1.length ≤ 10 ∧ NamesOk (rd_T40 l i).f1) ∧ (rd_T40 l i).f2.length ≤ 400 ∧ ∀ j, j < (rd_T40 l i).f1.length → AtS l (rdOf ByteArray.empty (rd_T40 l i).f1 (j : Int))
def AssetsOk (l : List S40) (res : List ByteArray) : Prop := l.length ≤ 30 ∧ (∀ i, i < l.length → AssetOk l i) ∧ res.length = l.length
theorem asset_spec (l : List S40) (hl : l.length ≤ 1048576) (hf : NeedsFit l) (i : Nat) (hi : i < l.length) (r : Bool) (hyes : AssetOk l i → Ev (fun k => spec_GoodAssets.l0 k l l (l.length : Int) ((i + 1 : Nat) : Int)) r) (hno : ¬ AssetOk l i → r = false) :
  Ev (fun k => spec_GoodAssets.l0 k l l (l.length : Int) (i : Int)) r := by
 have e : wrap64 ((i : Int) - 1) = (i : Int) - 1 := w64 (by omega) (by omega)
 have hfi := hf i hi
 obtain ⟨d, hd⟩ := bool_of (NameOk (rd_T40 l i).f0)
 have j1t : ¬ AssetOk l i → Ev (fun k => spec_GoodAssets.j1 k l l (l.length : Int) (i : Int) true (rd_T40 l i).f0 (rd_T40 l i).f1 (rd_T40 l i).f2) r := fun h => st_spec_GoodAssets_j1 (ev_pos rfl (ev_some (hno h).symm))
 refine st_spec_GoodAssets_l0 (ev_pos (by omega) (ev_pos (by omega) (ev_pos (by omega) (Ev.bind (name_spec _ d hd) (ev_ite (fun g0 => ?_) fun g0 => j1t fun h => g0 (hd.2 h.1))))))
 have g0 := hd.1 g0
 rw [e]
 have tail : (0 < i → Op.bytesLess (rd_T40 l ((i : Int) - 1)).f0.toList (rd_T40 l i).f0.toList = true) → Ev (fun k => (spec_l3Names.f k (rd_T40 l i).f1 10).bind fun t => if t = true then spec_GoodAssets.j1 k l l (l.length : Int) (i : Int) (decide (((rd_T40 l i).f2.length : Int) > 400)) (rd_T40 l i).f0 (rd_T40 l i).f1 (rd_T40 l i).f2 else spec_GoodAssets.j1 k l l (l.length : Int) (i : Int) true (rd_T40 l i).f0 (rd_T40 l i).f1 (rd_T40 l i).f2) r := by
  intro g1
  obtain ⟨c, hc⟩ := bool_of ((rd_T40 l i).f1.length ≤ 10 ∧ NamesOk (rd_T40 l i).f1)
  refine Ev.bind (names_spec _ hfi c hc) (ev_ite (fun g2 => ?_) fun g2 => j1t fun h => g2 (hc.2 h.2.2.1))
  have g2 := hc.1 g2
  refine st_spec_GoodAssets_j1 (ev_ite (fun g3 => ev_some (hno fun h => by have := h.2.2.2.1; have := of_decide_eq_true g3; omega).symm) fun g3 => ?_)
  have g3 : (rd_T40 l i).f2.length ≤ 400 := by
   rcases Nat.lt_or_ge 400 (rd_T40 l i).f2.length with h | h
   ·exact absurd (decide_eq_true (by omega)) g3
   ·exact h
  refine ev_for1 (rd_T40 l i).f1.length (fun k j (_ : Unit) => spec_GoodAssets.l1 k l l (l.length : Int) (i : Int) (rd_T40 l i).f1 ((rd_T40 l i).f1.length : Int) (j : Int)) (fun j _ => ∀ q, q < j → AtS l (rdOf ByteArray.empty (rd_T40 l i).f1 (q : Int))) r ?_ ?_ 0 () (Nat.zero_le _) (fun j hj => by omega)
  ·intro _ h
   refine st_spec_GoodAssets_l1 (ev_neg (by omega) ?_)
   rw [w64s i (by omega)]
   exact hyes ⟨g0, g1, g2, g3, h⟩
  ·intro j _ hj h
   obtain ⟨q, hq, hqs⟩ := at_spec l hl (rdOf ByteArray.empty (rd_T40 l i).f1 (j : Int))
   by_cases ha : AtS l (rdOf ByteArray.empty (rd_T40 l i).f1 (j : Int))
   ·refine .inr ⟨(), fun q' hq' => ?_, fun r' hr' => st_spec_GoodAssets_l1 (ev_pos (by omega) (ev_pos (by omega) (ev_pos (by omega) (Ev.bind hq (ev_neg (fun h' => hqs.1 h' ha) ?_)))))⟩
    ·rcases Nat.lt_or_ge q' j with h1 | h1
     ·exact h q' h1
     ·obtain rfl : q' = j := by omega
      exact ha
    ·rw [w64s j (by omega)]; exact hr'
   ·exact .inl (st_spec_GoodAssets_l1 (ev_pos (by omega) (ev_pos (by omega) (ev_pos (by omega) (Ev.bind hq (ev_pos (hqs.2 ha) (ev_some (hno fun h' => ha (h'.2.2.2.2 j hj)).symm)))))))
 exact ev_ite (fun hp => ev_pos (by omega) (ev_pos (by omega) (ev_ite (fun g1 => tail fun _ => g1) fun g1 => j1t fun h => g1 (h.2.1 (by omega))))) fun hp => tail (fun h => by omega)
theorem asset_impl (l : List S40) (hx : l.length ≤ 1048576 ∧ ∀ y ∈ l, Fit40 y) (i : Nat) (hi : i < l.length) (r : Bool) (hyes : AssetOk l i → Ev (fun k => impl_GoodAssets.l0 k l (l.length : Int) ((i + 1 : Nat) : Int) l) r) (hno : ¬ AssetOk l i → r = false) :
  Ev (fun k => impl_GoodAssets.l0 k l (l.length : Int) (i : Int) l) r := by
 have hl := hx.1
 have e : wrap64 ((i : Int) - 1) = (i : Int) - 1 := w64 (by omega) (by omega)
 have hfit : Fit40 (rd_T40 l (i : Int)) := by
  have e : rd_T40 l (i : Int) = l[i] := getD_get hi
  rw [e]
  exact hx.2 _ (List.getElem_mem hi)
 have hfi := hfit.2.1.1
 have hn0 := hfit.1
 obtain ⟨d, hd⟩ := bool_of (NameOk (rd_T40 l i).f0)
 have j1t : ¬ AssetOk l i → Ev (fun k => impl_GoodAssets.j1 k l (l.length : Int) (i : Int) true l (rd_T40 l i).f0 (rd_T40 l i).f1 (rd_T40 l i).f2) r := fun h => st_impl_GoodAssets_j1 (ev_pos rfl (ev_some (hno h).symm))
 refine st_impl_GoodAssets_l0 (ev_pos (by omega) (ev_pos (by omega) (ev_pos (by omega) (Ev.bind (name_impl _ (by omega) d hd) (ev_ite (fun g0 => ?_) fun g0 => j1t fun h => g0 (hd.2 h.1))))))
 have g0 := hd.1 g0
 rw [e]
 have tail : (0 < i → Op.bytesLess (rd_T40 l ((i : Int) - 1)).f0.toList (rd_T40 l i).f0.toList = true) → Ev (fun k => (impl_areNames.f k (rd_T40 l i).f1).bind fun t => if t = true then (if ((rd_T40 l i).f1.length : Int) > 10 then impl_GoodAssets.j1 k l (l.length : Int) (i : Int) true l (rd_T40 l i).f0 (rd_T40 l i).f1 (rd_T40 l i).f2 else impl_GoodAssets.j1 k l (l.length : Int) (i : Int) (decide (((rd_T40 l i).f2.length : Int) > 400)) l (rd_T40 l i).f0 (rd_T40 l i).f1 (rd_T40 l i).f2) else impl_GoodAssets.j1 k l (l.length : Int) (i : Int) true l (rd_T40 l i).f0 (rd_T40 l i).f1 (rd_T40 l i).f2) r := by
  intro g1
  obtain ⟨c, hc⟩ := bool_of (NamesOk (rd_T40 l i).f1)
  refine Ev.bind (names_impl _ hfit.2.1 c hc) (ev_ite (fun g2 => ?_) fun g2 => j1t fun h => g2 (hc.2 h.2.2.1.2))
  have g2 := hc.1 g2
  refine ev_ite (fun g4 => j1t fun h => by have := h.2.2.1.1; omega) fun g4 => ?_
  refine st_impl_GoodAssets_j1 (ev_ite (fun g3 => ev_some (hno fun h => by have := h.2.2.2.1; have := of_decide_eq_true g3; omega).symm) fun g3 => ?_)
  have g3 : (rd_T40 l i).f2.length ≤ 400 := by
   rcases Nat.lt_or_ge 400 (rd_T40 l i).f2.length with h | h
   ·exact absurd (decide_eq_true (by omega)) g3
   ·exact h
  obtain ⟨P, hP⟩ : ∃ P : Nat → Bool, ∀ j : Nat, P j = true ↔ ¬ AtS l (rdOf ByteArray.empty (rd_T40 l i).f1 (j : Int)) := ⟨fun j => Classical.choose (bool_of (¬ AtS l (rdOf ByteArray.empty (rd_T40 l i).f1 (j : Int)))), fun j => Classical.choose_spec (bool_of (¬ AtS l (rdOf ByteArray.empty (rd_T40 l i).f1 (j : Int))))⟩
  obtain ⟨b, hb⟩ := bool_of (∃ j, j < (rd_T40 l i).f1.length ∧ P j = true)
  refine Ev.bind (ev_contains (fun k xs n i => slices_IndexFunc_w29.l0 k xs n i l) (fun k xs i => impl_GoodAssets_1.f k (rdOf ByteArray.empty xs i) l) (fun _ _ _ _ => rfl) _ (by omega) P (fun j _ => ?_) b hb) (ev_ite (fun g5 => ev_some (hno fun h => ?_).symm) fun g5 => ?_)
  ·obtain ⟨q, hq, hqs⟩ := at_impl l hl (rdOf ByteArray.empty (rd_T40 l i).f1 (j : Int))
   refine Ev.bind hq (ev_some ?_)
   rw [Bool.eq_iff_iff, decide_eq_true_eq, hqs, hP]
  ·obtain ⟨j, hj, hp⟩ := hb.1 g5
   exact (hP j).1 hp (h.2.2.2.2 j hj)
  ·rw [w64s i (by omega)]
   refine hyes ⟨g0, g1, ⟨by omega, g2⟩, g3, fun j hj => ?_⟩
   rcases Classical.em (AtS l (rdOf ByteArray.empty (rd_T40 l i).f1 (j : Int))) with h | h
   ·exact h
   ·exact absurd (hb.2 ⟨j, hj, (hP j).2 h⟩) g5
 exact ev_ite (fun hp => ev_pos (by omega) (ev_pos (by omega) (ev_ite (fun g1 => tail fun _ => g1) fun g1 => j1t fun h => g1 (h.2.1 (by omega))))) fun hp => tail (fun h => by omega)
theorem needs_fit (l : List S40) (hx : l.length ≤ 1048576 ∧ ∀ y ∈ l, Fit40 y) : NeedsFit l := by
 intro i hi
 have e : rd_T40 l (i : Int) = l[i] := getD_get hi
 rw [e]
 exact (hx.2 _ (List.getElem_mem hi)).2.1.1
theorem assets_same (l : List S40) (hx : l.length ≤ 1048576 ∧ ∀ y ∈ l, Fit40 y) :
  ∃ res b, Ev (fun k => spec_l21Order.f k l) res ∧ Ev (fun k => impl_makeOrder.f k l) res ∧ res.length ≤ l.length ∧ (b = true ↔ AssetsOk l res) ∧ Ev (fun k => spec_GoodAssets.f k l) b ∧ Ev (fun k => impl_GoodAssets.f k l) b := by
 have hl := hx.1
 have hf := needs_fit l hx
 obtain ⟨res, r1, r2, r3⟩ := order_same l hl hf (cnt l [] l.length) [] (Nat.le_refl _) (by have := cnt_le l [] l.length; simpa using this)
 obtain ⟨b, hb⟩ := bool_of (AssetsOk l res)
 have no : ∀ i, i < l.length → ¬ AssetOk l i → b = false := fun i hi h => bool_false hb fun h' => h (h'.2.1 i hi)
 refine ⟨res, b, r1, r2, r3, hb, ?_, ?_⟩
 ·refine ev_ite (fun h => ev_some (bool_false hb (fun h' => by have := h'.1; omega)).symm) fun h => ?_
  refine ev_for1 l.length (fun k i (_ : Unit) => spec_GoodAssets.l0 k l l (l.length : Int) (i : Int)) (fun i _ => ∀ j, j < i → AssetOk l j) b ?_ ?_ 0 () (Nat.zero_le _) (fun j hj => by omega)
  ·intro _ hall
   refine st_spec_GoodAssets_l0 (ev_neg (by omega) (Ev.bind r1 (ev_some ?_)))
   rw [Bool.eq_iff_iff, hb, beq_iff_eq]
   exact ⟨fun h' => ⟨by omega, hall, by omega⟩, fun h' => by have := h'.2.2; omega⟩
  ·intro i _ hi hall
   by_cases ho : AssetOk l i
   ·refine .inr ⟨(), fun j hj => ?_, fun r hr => asset_spec l hl hf i hi r (fun _ => hr) (fun h' => absurd ho h')⟩
    rcases Nat.lt_or_ge j i with h1 | h1
    ·exact hall j h1
    ·obtain rfl : j = i := by omega
     exact ho
   ·exact .inl (asset_spec l hl hf i hi b (fun h' => absurd h' ho) (fun _ => no i hi ho))
 ·refine ev_for1 l.length (fun k i (_ : Unit) => impl_GoodAssets.l0 k l (l.length : Int) (i : Int) l) (fun i _ => ∀ j, j < i → AssetOk l j) b ?_ ?_ 0 () (Nat.zero_le _) (fun j hj => by omega)
  ·intro _ hall
   refine st_impl_GoodAssets_l0 (ev_neg (by omega) (ev_ite (fun h => Ev.bind r2 (ev_some ?_)) fun h => ev_some (bool_false hb (fun h' => by have := h'.1; omega)).symm))
   rw [Bool.eq_iff_iff, hb, beq_iff_eq]
   exact ⟨fun h' => ⟨by omega, hall, by omega⟩, fun h' => by have := h'.2.2; omega⟩
  ·intro i _ hi hall
   by_cases ho : AssetOk l i
   ·refine .inr ⟨(), fun j hj => ?_, fun r hr => asset_impl l hx i hi r (fun _ => hr) (fun h' => absurd ho h')⟩
    rcases Nat.lt_or_ge j i with h1 | h1
    ·exact hall j h1
    ·obtain rfl : j = i := by omega
     exact ho
   ·exact .inl (asset_impl l hx i hi b (fun h' => absurd h' ho) (fun _ => no i hi ho))
theorem xor_nat (k : IntKind) (j : Nat) (hj : j ≤ k.bits) (hk : ∀ n : Int, 0 ≤ n → n < 2 ^ j → k.wrap n = n) (a b : Nat) (ha : a < 2 ^ j) (hb : b < 2 ^ j) : Go.bits .xor k a b = ((a ^^^ b : Nat) : Int) := by
 have hp : 2 ^ j ≤ 2 ^ k.bits := Nat.pow_le_pow_right (by decide) hj
 have ha' : a % 2 ^ k.bits = a := Nat.mod_eq_of_lt (Nat.lt_of_lt_of_le ha hp)
 have hb' : b % 2 ^ k.bits = b := Nat.mod_eq_of_lt (Nat.lt_of_lt_of_le hb hp)
 simp only [Go.bits, BitVec.ofInt_natCast, BitVec.toNat_xor, BitVec.toNat_ofNat, ha', hb']
 exact hk _ (Int.natCast_nonneg _) (by exact_mod_cast Nat.xor_lt_two_pow ha hb)
theorem wraps_u32 (n : Int) (h0 : 0 ≤ n) (h1 : n < 2 ^ 32) : IntKind.u32.wrap n = n := by rw [IntKind.wrap_u32]; omega
theorem wraps_u64 (n : Int) (h0 : 0 ≤ n) (h1 : n < 2 ^ 32) : IntKind.u64.wrap n = n := wrap_u64 h0 (by omega)
def digestStep (s b : Int) : Int := (((s.toNat ^^^ b.toNat : Nat) : Int) * 16777619) % 4294967296
theorem step_range (s b : Int) : 0 ≤ digestStep s b ∧ digestStep s b < 4294967296 := by unfold digestStep; omega
theorem xor_lt (s b : Int) (h0 : 0 ≤ s) (h1 : s < 4294967296) (g0 : 0 ≤ b) (g1 : b < 256) : 0 ≤ ((s.toNat ^^^ b.toNat : Nat) : Int) ∧ ((s.toNat ^^^ b.toNat : Nat) : Int) < 4294967296 := by
 have := Nat.xor_lt_two_pow (n := 32) (show s.toNat < 2 ^ 32 by omega) (show b.toNat < 2 ^ 32 by omega)
 omega
theorem step_impl (s b : Int) (h0 : 0 ≤ s) (h1 : s < 4294967296) (g0 : 0 ≤ b) (g1 : b < 256) : ((Go.bits .xor .u32 s (b % 4294967296)) * 16777619) % 4294967296 = digestStep s b := by
 have e := xor_nat .u32 32 (by decide) wraps_u32 s.toNat b.toNat (by omega) (by omega)
 rw [Int.toNat_of_nonneg h0, Int.toNat_of_nonneg g0] at e
 rw [show b % 4294967296 = b by omega, e]
 rfl
theorem step_spec (s b : Int) (h0 : 0 ≤ s) (h1 : s < 4294967296) (g0 : 0 ≤ b) (g1 : b < 256) : Int.tmod (IntKind.u64.wrap ((Go.bits .xor .u64 s (IntKind.u64.wrap b)) * 16777619)) 4294967296 = digestStep s b := by
 have e := xor_nat .u64 32 (by decide) wraps_u64 s.toNat b.toNat (by omega) (by omega)
 rw [Int.toNat_of_nonneg h0, Int.toNat_of_nonneg g0] at e
 obtain ⟨x0, x1⟩ := xor_lt s b h0 h1 g0 g1
 rw [wrap_u64 g0 (by omega), e, wrap_u64 (by omega) (by omega), Int.tmod_eq_emod_of_nonneg (by omega)]
 rfl
theorem digest_impl (l : List Int) (hl : l.length ≤ 1048576) (hb : ∀ x ∈ l, 0 ≤ x ∧ x < 256) : Ev (fun k => impl_digest.f k l) (l.foldl digestStep 2166136261) := by
 refine ev_for1 l.length (fun k i (v : Int) => impl_digest.l0 k v l (l.length : Int) (i : Int)) (fun i v => v = (l.take i).foldl digestStep 2166136261 ∧ 0 ≤ v ∧ v < 4294967296) _ ?_ ?_ 0 2166136261 (Nat.zero_le _) ⟨rfl, by omega, by omega⟩
 ·rintro v ⟨rfl, _, _⟩
  exact Ev.step (fun _ => rfl) (ev_neg (by omega) (ev_some (by rw [List.take_length])))
 ·rintro i v hi ⟨hv, v0, v1⟩
  obtain ⟨b0, b1⟩ := hb _ (List.getElem_mem hi)
  obtain ⟨s0, s1⟩ := step_range v l[i]
  refine .inr ⟨digestStep v l[i], ⟨by rw [List.take_succ_eq_append_getElem hi, List.foldl_append, ← hv]; rfl, s0, s1⟩, fun r hr => Ev.step (fun _ => rfl) (ev_pos (by omega) (ev_pos (by omega) (ev_pos (by omega) ?_)))⟩
  rw [w64s i (by omega), rd_get hi, step_impl v l[i] v0 v1 b0 b1]
  exact hr
theorem digest_spec (l : List Int) (hl : l.length ≤ 1048576) (hb : ∀ x ∈ l, 0 ≤ x ∧ x < 256) : Ev (fun k => spec_l21Digest.f k l) (l.foldl digestStep 2166136261) := by
 refine ev_for1 l.length (fun k i (v : Int) => spec_l21Digest.l0 k v l (l.length : Int) (i : Int)) (fun i v => v = (l.take i).foldl digestStep 2166136261 ∧ 0 ≤ v ∧ v < 4294967296) _ ?_ ?_ 0 2166136261 (Nat.zero_le _) ⟨rfl, by omega, by omega⟩
 ·rintro v ⟨rfl, v0, v1⟩
  rw [List.take_length] at v0 v1
  exact Ev.step (fun _ => rfl) (ev_neg (by omega) (ev_some (by rw [List.take_length]; omega)))
 ·rintro i v hi ⟨hv, v0, v1⟩
  obtain ⟨b0, b1⟩ := hb _ (List.getElem_mem hi)
  obtain ⟨s0, s1⟩ := step_range v l[i]
  refine .inr ⟨digestStep v l[i], ⟨by rw [List.take_succ_eq_append_getElem hi, List.foldl_append, ← hv]; rfl, s0, s1⟩, fun r hr => Ev.step (fun _ => rfl) (ev_pos (by omega) (ev_pos (by omega) (ev_pos (by omega) ?_)))⟩
  rw [w64s i (by omega), rd_get hi, step_spec v l[i] v0 v1 b0 b1]
  exact hr
theorem toList_inj {a b : ByteArray} (h : a.toList = b.toList) : a = b := by
 rw [ByteArray.toList_eq, ByteArray.toList_eq] at h
 exact ByteArray.ext (Array.ext' h)
def FirstAt (l : List S40) (s : ByteArray) (i : Nat) : Prop := i < l.length ∧ (rd_T40 l (i : Int)).f0 = s ∧ ∀ j, j < i → (rd_T40 l (j : Int)).f0 ≠ s
theorem first_one {l : List S40} {s : ByteArray} {i j : Nat} (h : FirstAt l s i) (k : FirstAt l s j) : i = j := by
 rcases Nat.lt_or_ge i j with h1 | h1
 ·exact absurd h.2.1 (k.2.2 i h1)
 ·rcases Nat.lt_or_ge j i with h2 | h2
  ·exact absurd k.2.1 (h.2.2 j h2)
  ·omega
theorem first_of (l : List S40) (hl : l.length ≤ 1048576) (s : ByteArray) : (¬ AtS l s ∧ Ev (fun k => spec_l21At.f k l s) (-1) ∧ Ev (fun k => impl_assetAt.f k l s) (-1)) ∨ ∃ i, FirstAt l s i ∧ Ev (fun k => spec_l21At.f k l s) (i : Int) ∧ Ev (fun k => impl_assetAt.f k l s) (i : Int) := by
 obtain ⟨r, hr, h⟩ := ev_index (fun k xs n i => slices_IndexFunc_w32.l0 k xs n i s) (fun _ xs i => impl_assetAt_1.f (rd_T40 xs i).f0 (rd_T40 xs i).f1 (rd_T40 xs i).f2 s) (fun _ _ _ _ => rfl) l (by omega) (fun i => (rd_T40 l (i : Int)).f0.toList == s.toList) (fun i _ => ev_some rfl)
 have hi : Ev (fun k => impl_assetAt.f k l s) r := Ev.bind hr (ev_some rfl)
 have sp : ∀ (r : Int) (Q : Nat → Prop), (∀ j, j < l.length → Q j → (rd_T40 l (j : Int)).f0.toList ≠ s.toList) → ((r = -1 ∧ ∀ j, j < l.length → Q j) ∨ ∃ i : Nat, i < l.length ∧ r = (i : Int) ∧ (rd_T40 l (i : Int)).f0.toList = s.toList ∧ ∀ j, j < i → Q j) → Ev (fun k => spec_l21At.f k l s) r := by
  intro r Q hQ h
  refine ev_for1 l.length (fun k i (_ : Unit) => spec_l21At.l0 k s l (l.length : Int) (i : Int)) (fun i _ => r = -1 ∨ ∃ q : Nat, q < l.length ∧ r = (q : Int) ∧ i ≤ q) r ?_ ?_ 0 () (Nat.zero_le _) (h.elim (fun h => .inl h.1) (fun ⟨i, h1, h2, _⟩ => .inr ⟨i, h1, h2, by omega⟩))
  ·intro _ h'
   rcases h' with h' | ⟨q, h1, _, h2⟩
   ·exact st_spec_l21At_l0 (ev_neg (by omega) (ev_some h'.symm))
   ·omega
  ·intro i _ hi h'
   rcases h with ⟨h1, h2⟩ | ⟨q, h1, h2, h3, h4⟩
   ·refine .inr ⟨(), .inl h1, fun r' hr' => st_spec_l21At_l0 (ev_pos (by omega) (ev_pos (by omega) (ev_pos (by omega) (ev_neg (hQ i hi (h2 i hi)) ?_))))⟩
    rw [w64s i (by omega)]; exact hr'
   ·have hiq : i ≤ q := by
     rcases h' with h' | ⟨q', a1, a2, a3⟩
     ·omega
     ·omega
    by_cases e : i = q
    ·subst e
     exact .inl (st_spec_l21At_l0 (ev_pos (by omega) (ev_pos (by omega) (ev_pos (by omega) (ev_pos h3 (ev_some h2.symm))))))
    ·refine .inr ⟨(), .inr ⟨q, h1, h2, by omega⟩, fun r' hr' => st_spec_l21At_l0 (ev_pos (by omega) (ev_pos (by omega) (ev_pos (by omega) (ev_neg (hQ i hi (h4 i (by omega))) ?_))))⟩
     rw [w64s i (by omega)]; exact hr'
 have hQ : ∀ j, j < l.length → ((rd_T40 l (j : Int)).f0.toList == s.toList) = false → (rd_T40 l (j : Int)).f0.toList ≠ s.toList := fun j _ h => by simpa using h
 rcases h with ⟨rfl, h⟩ | ⟨i, hi1, rfl, h1, h2⟩
 ·exact .inl ⟨fun ⟨q, hq, e⟩ => hQ q hq (h q hq) e, sp (-1) _ hQ (.inl ⟨rfl, h⟩), hi⟩
 ·have e1 : (rd_T40 l (i : Int)).f0.toList = s.toList := by simpa using h1
  refine .inr ⟨i, ⟨hi1, toList_inj e1, fun j hj e => hQ j (by omega) (h2 j hj) (by rw [e])⟩, sp (i : Int) _ hQ (.inr ⟨i, hi1, rfl, e1, h2⟩), hi⟩
theorem get_put (m : List (ByteArray × Int)) (k : ByteArray) (v : Int) : ∀ s, Mp.get (Mp.put m k v) s = if k = s then some v else Mp.get m s := by
 intro s
 induction m with
 | nil => simp [Mp.put, Mp.get]
 | cons p r ih =>
  by_cases hp : p.1 = k
  ·by_cases hs : k = s
   ·simp [Mp.put, Mp.get, hp, hs]
   ·simp [Mp.put, Mp.get, hp, hs]
  ·simp only [Mp.put, if_neg hp, Mp.get, ih]
   by_cases hs : p.1 = s
   ·have : ¬ k = s := fun e => hp (by rw [hs, e])
    simp [hs, this]
   ·simp [hs]
def U32 (x : Int) : Prop := 0 ≤ x ∧ x < 4294967296
def Rel (l : List S40) (m : List (ByteArray × Int)) (out : List Int) : Prop := ∀ s i, FirstAt l s i → (Mp.get m s).getD 0 = rd out (i : Int) ∧ U32 (rd out (i : Int))
theorem rd_set (out : List Int) (i j : Nat) (v : Int) (hi : i < out.length) : rd (out.set i v) (j : Int) = if i = j then v else rd out (j : Int) := by
 by_cases h : i = j
 ·subst h
  rw [if_pos rfl]
  simp [rd, hi]
 ·rw [if_neg h]
  simp [rd, List.getD_eq_getElem?_getD, List.getElem?_set_ne h]
theorem rel_put {l : List S40} {m : List (ByteArray × Int)} {out : List Int} (h : Rel l m out) (ho : out.length = l.length) {s : ByteArray} {i : Nat} (hf : FirstAt l s i) (v : Int) (hv : U32 v) : Rel l (Mp.put m s v) (out.set i v) := by
 intro s' j hj
 have hi : i < out.length := by rw [ho]; exact hf.1
 rw [get_put, rd_set out i j v hi]
 by_cases e : s = s'
 ·subst e
  have := first_one hf hj
  rw [if_pos rfl, if_pos this]
  exact ⟨rfl, hv⟩
 ·have : i ≠ j := fun e' => e (by rw [← hf.2.1, e', hj.2.1])
  rw [if_neg e, if_neg this]
  exact h s' j hj
def Byte (x : Int) : Prop := 0 ≤ x ∧ x < 256
theorem fold_u32 (d : List Int) : ∀ s, U32 s → U32 (d.foldl digestStep s) := by
 induction d with
 | nil => exact fun s h => h
 | cons x r ih => exact fun s _ => ih _ (step_range s x)
theorem four_bytes (x : Int) : ∀ y ∈ ([(x / 16777216) % 256, (x / 65536) % 256, (x / 256) % 256, x % 256] : List Int), Byte y := by
 intro y hy
 unfold Byte
 simp at hy
 omega
theorem needs_loop (l : List S40) (hl : l.length ≤ 1048576) (m : List (ByteArray × Int)) (out : List Int) (ho : out.length = l.length) (hr : Rel l m out) (ns : List ByteArray) (hn : ns.length ≤ 10) (ha : ∀ j, j < ns.length → AtS l (rdOf ByteArray.empty ns (j : Int))) (x6 : Int) (nm : List ByteArray) (x16 x17 : Int) :
  ∀ (n j : Nat) (d : List Int), j + n = ns.length → d.length ≤ 1000 + 4 * j → (∀ x ∈ d, Byte x) → ∃ dd, impl_stamps.needs m (ns.drop j) d = some dd ∧ dd.length ≤ 2000 ∧ (∀ x ∈ dd, Byte x) ∧
   ∀ r, Ev (fun k => (spec_l21Digest.f k dd).bind fun t167 => (if 0 ≤ x6 then (if x6 < (out.length : Int) then (spec_l21Stamps.l0 k l (out.set (x6 : Int).toNat t167) nm x16 (wrap64 (x17 + 1))) else (none)) else (none))) r → Ev (fun k => spec_l21Stamps.l1 k l out x6 d nm x16 x17 ns (ns.length : Int) (j : Int)) r := by
 intro n
 induction n with
 | zero =>
  intro j d hj hd hb
  obtain rfl : j = ns.length := by omega
  rw [List.drop_length]
  exact ⟨d, rfl, by omega, hb, fun r hr' => st_spec_l21Stamps_l1 (ev_neg (by omega) hr')⟩
 | succ n ih =>
  intro j d hj hd hb
  have hjl : j < ns.length := by omega
  have hat := ha j hjl
  rcases first_of l hl (rdOf ByteArray.empty ns (j : Int)) with ⟨h, _⟩ | ⟨i, hf, hs, _⟩
  ·exact absurd hat h
  ·obtain ⟨hg, hu⟩ := hr _ i hf
   have hil := hf.1
   obtain ⟨q, hq⟩ : ∃ q, q = ([((rd out (i : Int)) / 16777216) % 256, ((rd out (i : Int)) / 65536) % 256, ((rd out (i : Int)) / 256) % 256, (rd out (i : Int)) % 256] : List Int) := ⟨_, rfl⟩
   have hql : q.length = 4 := by rw [hq]; rfl
   have hqb : ∀ x ∈ q, Byte x := by rw [hq]; exact four_bytes _
   obtain ⟨dd, e1, e2, e3, e4⟩ := ih (j + 1) (d ++ q) (by omega) (by rw [List.length_append, hql]; omega) (fun x hx => (List.mem_append.1 hx).elim (hb x) (hqb x))
   have e5 : rdOf ByteArray.empty ns (j : Int) = ns[j] := rdOf_get hjl
   refine ⟨dd, ?_, e2, e3, fun r hr' => ?_⟩
   ·rw [List.drop_eq_getElem_cons hjl, impl_stamps.needs, ← e5, hg]
    show (some _).bind _ = _
    rw [Option.bind_some, ← hq, if_pos (by rw [hql]; omega)]
    exact e1
   ·refine st_spec_l21Stamps_l1 (ev_pos (by omega) (ev_pos (by omega) (ev_pos (by omega) (Ev.bind hs (ev_pos (by omega) (ev_pos (by omega) (ev_bindc rfl ?_)))))))
    rw [← hq]
    refine ev_pos (by rw [hql]; omega) ?_
    rw [w64s j (by omega)]
    exact e4 r hr'
theorem stamps_loop (l : List S40) (hl : l.length ≤ 1048576) (ok : ∀ i, i < l.length → AssetOk l i) (hbd : ∀ i, i < l.length → ∀ x ∈ (rd_T40 l (i : Int)).f2, Byte x) (nm : List ByteArray) (hnl : nm.length ≤ 1048576) (hat : ∀ s ∈ nm, AtS l s) :
  ∀ (n i : Nat) (m : List (ByteArray × Int)) (out : List Int), i + n = nm.length → out.length = l.length → Rel l m out → ∃ m' out', Ev (fun k => impl_stamps.go k l (nm.drop i) m) m' ∧ Ev (fun k => spec_l21Stamps.l0 k l out nm (nm.length : Int) (i : Int)) out' ∧ Rel l m' out' ∧ out'.length = l.length := by
 intro n
 induction n with
 | zero =>
  intro i m out hi ho hr
  obtain rfl : i = nm.length := by omega
  rw [List.drop_length]
  exact ⟨m, out, ev_some rfl, st_spec_l21Stamps_l0 (ev_neg (by omega) (ev_some rfl)), hr, ho⟩
 | succ n ih =>
  intro i m out hi ho hr
  have hil : i < nm.length := by omega
  have hs := hat nm[i] (List.getElem_mem hil)
  have e0 : rdOf ByteArray.empty nm (i : Int) = nm[i] := rdOf_get hil
  rw [List.drop_eq_getElem_cons hil]
  obtain ⟨s, hsn⟩ : ∃ s, s = nm[i] := ⟨_, rfl⟩
  rw [← hsn] at hs e0 ⊢
  rcases first_of l hl s with ⟨h, _⟩ | ⟨q, hf, hq1, hq2⟩
  ·exact absurd hs h
  ·have hql := hf.1
   obtain ⟨g0, _, g2, g3, g4⟩ := ok q hql
   obtain ⟨a, ha⟩ : ∃ a, a = rd_T40 l (q : Int) := ⟨_, rfl⟩
   have hfs : a.f0 = s := by rw [ha]; exact hf.2.1
   have hb2 := hbd q hql
   rw [← ha] at g0 g2 g3 g4 hb2
   have hz := g0.1.2
   have hbl : (bytesOf a.f0).length = a.f0.size := bytesOf_length _
   obtain ⟨d0, hd0⟩ : ∃ d0, d0 = bytesOf a.f0 ++ [0] ++ a.f2 ++ [0] := ⟨_, rfl⟩
   have hd0l : d0.length = a.f0.size + a.f2.length + 2 := by rw [hd0]; simp [hbl]; omega
   have hd0b : ∀ x ∈ d0, Byte x := by
    intro x hx
    rw [hd0] at hx
    simp only [List.mem_append, List.mem_singleton] at hx
    unfold Byte
    rcases hx with ((hx | rfl) | hx) | rfl
    ·unfold bytesOf at hx
     obtain ⟨b, _, rfl⟩ := List.mem_map.1 hx
     have := UInt8.toNat_lt b
     omega
    ·omega
    ·exact hb2 x hx
    ·omega
   obtain ⟨dd, e1, e2, e3, e4⟩ := needs_loop l hl m out ho hr a.f1 g2.1 g4 (q : Int) nm (nm.length : Int) (i : Int) a.f1.length 0 d0 (by omega) (by omega) hd0b
   rw [List.drop_zero] at e1
   have hv := fold_u32 dd 2166136261 (by unfold U32; omega)
   have hdi := digest_impl dd (by omega) e3
   have hds := digest_spec dd (by omega) e3
   obtain ⟨v, hvv⟩ : ∃ v, v = dd.foldl digestStep 2166136261 := ⟨_, rfl⟩
   rw [← hvv] at hv hdi hds
   obtain ⟨m', out', r1, r2, r3, r4⟩ := ih (i + 1) (Mp.put m s v) (out.set q v) (by omega) (by rw [List.length_set]; exact ho) (rel_put hr ho hf v hv)
   refine ⟨m', out', ?_, ?_, r3, r4⟩
   ·refine Ev.bind hq2 (ev_pos ⟨by omega, by omega, by rw [← ha]; omega⟩ (ev_bindc (a := dd) ?_ (Ev.bind hdi r1)))
    rw [← ha, ← hd0]
    exact e1
   ·have hsz : (rdOf ByteArray.empty nm (i : Int)).size ≤ 20 := by rw [e0, ← hfs]; exact hz
    refine st_spec_l21Stamps_l0 (ev_pos (by omega) (ev_pos (by omega) (ev_pos (by omega) (Ev.bind (by rw [e0]; exact hq1) (ev_pos (by show 0 + _ < _; omega) (ev_bindc rfl ?_))))))
    have hb0 : (bytesOf (rdOf ByteArray.empty nm (i : Int))).length ≤ 20 := by rw [bytesOf_length]; exact hsz
    refine ev_pos (by rw [List.nil_append]; omega) (ev_bindc rfl (ev_pos (by omega) (ev_pos (by omega) (ev_pos (by rw [← ha]; simp only [List.length_append, List.nil_append, List.length_singleton]; omega) (ev_bindc rfl (ev_pos (by rw [← ha]; simp only [List.length_append, List.nil_append, List.length_singleton]; omega) ?_))))))
    rw [← ha, e0, List.nil_append, ← hfs, ← hd0]
    refine e4 _ (Ev.bind hds (ev_pos (by omega) (ev_pos (by omega) ?_)))
    rw [w64s i (by omega)]
    exact r2
theorem order_at (l : List S40) (res : List ByteArray) (h : Ev (fun k => impl_makeOrder.f k l) res) : ∀ y ∈ res, AtS l y := by
 have key : ∀ k out res, (∀ y ∈ out, AtS l y) → impl_makeOrder.l0 k l out = some res → ∀ y ∈ res, AtS l y := by
  intro k
  induction k with
  | zero => intro out res _ h; simp [impl_makeOrder.l0] at h
  | succ k ih =>
   intro out res ho h
   simp only [impl_makeOrder.l0] at h
   obtain ⟨t, _, h⟩ := Option.bind_eq_some_iff.mp h
   split at h
   ·obtain rfl := Option.some.inj h; exact ho
   ·split at h
    ·split at h
     ·rename_i h1 h2
      split at h
      ·refine ih _ _ (fun y hy => ?_) h
       rcases List.mem_append.1 hy with hy | hy
       ·exact ho y hy
       ·obtain rfl := List.mem_singleton.1 hy
        obtain ⟨i, rfl⟩ : ∃ i : Nat, t = (i : Int) := ⟨t.toNat, by omega⟩
        exact ⟨i, by omega, rfl⟩
      ·cases h
     ·cases h
    ·cases h
 obtain ⟨k, hk⟩ := h
 exact key k [] res (fun y hy => by cases hy) (hk k (Nat.le_refl _))
theorem rel_start (l : List S40) : Rel l [] (List.replicate l.length 0) := by
 intro s i hf
 have : rd (List.replicate l.length 0) (i : Int) = 0 := by
  rw [rd_get (by rw [List.length_replicate]; exact hf.1)]
  simp
 rw [this]
 exact ⟨rfl, by unfold U32; omega⟩
theorem stamps_same (l : List S40) (hl : l.length ≤ 1048576) (hbd : ∀ i, i < l.length → ∀ x ∈ (rd_T40 l (i : Int)).f2, Byte x) (res : List ByteArray) (r1 : Ev (fun k => spec_l21Order.f k l) res) (r2 : Ev (fun k => impl_makeOrder.f k l) res) (hres : res.length ≤ l.length) (ok : ∀ i, i < l.length → AssetOk l i) :
  ∃ m out, Ev (fun k => impl_stamps.f k l) m ∧ Ev (fun k => spec_l21Stamps.f k l) out ∧ Rel l m out ∧ out.length = l.length := by
 obtain ⟨m, out, h1, h2, h3, h4⟩ := stamps_loop l hl ok hbd res (by omega) (order_at l res r2) res.length 0 [] (List.replicate l.length 0) (by omega) (by simp) (rel_start l)
 rw [List.drop_zero] at h1
 have e : (((l.length : Nat) : Int)).toNat = l.length := rfl
 refine ⟨m, out, Ev.bind r2 h1, ?_, h3, h4⟩
 exact ev_pos (by omega) (ev_pos (by rw [e]; omega) (Ev.bind r1 h2))
theorem stampof_same (l : List S40) (hx : l.length ≤ 1048576 ∧ ∀ y ∈ l, Fit40 y) (hbd : ∀ i, i < l.length → ∀ x ∈ (rd_T40 l (i : Int)).f2, Byte x) (s : ByteArray) : ∃ v b, Ev (fun k => spec_StampOf.f k l s) (v, b) ∧ Ev (fun k => impl_StampOf.f k l s) (v, b) := by
 obtain ⟨res, b, r1, r2, r3, hb, g1, g2⟩ := assets_same l hx
 have hl := hx.1
 cases b with
 | false => exact ⟨0, false, Ev.bind g1 (ev_neg (by decide) (ev_some rfl)), Ev.bind g2 (ev_neg (by decide) (ev_some rfl))⟩
 | true =>
  obtain ⟨_, ok, _⟩ := hb.1 rfl
  rcases first_of l hl s with ⟨_, h1, h2⟩ | ⟨i, hf, h1, h2⟩
  ·exact ⟨0, false, Ev.bind g1 (ev_pos rfl (Ev.bind h1 (ev_pos (by omega) (ev_some rfl)))), Ev.bind g2 (ev_pos rfl (Ev.bind h2 (ev_pos (by omega) (ev_some rfl))))⟩
  ·obtain ⟨m, out, a1, a2, a3, a4⟩ := stamps_same l hl hbd res r1 r2 r3 ok
   have hil := hf.1
   refine ⟨rd out (i : Int), true, Ev.bind g1 (ev_pos rfl (Ev.bind h1 (ev_neg (by omega) (Ev.bind a2 (ev_pos (by omega) (ev_pos (by omega) (ev_some rfl))))))), Ev.bind g2 (ev_pos rfl (Ev.bind h2 (ev_neg (by omega) (Ev.bind a1 (ev_some ?_)))))⟩
   rw [(a3 s i hf).1]
theorem FnExactStampOf : ∀ (l0 : List (S35)) (a1 : ByteArray), (l0.length * 64 ≤ 140737488351232 ∧ ∀ y ∈ l0, Ok35 y) → (a1.size ≤ 140737488351232) → ∃ k, laws_FnExactStampOf.f k l0 a1 = some true := by
 intro xs s gl _
 refine Ev.rounds (g := fun k => laws_FnExactStampOf.f k xs s) ?_
 refine ev_ite (fun _ => ev_some rfl) fun _ => ?_
 obtain ⟨r, hr, h | ⟨h0, h1, hx⟩⟩ := szAssetS_some xs gl 1048576 (by omega) (by omega)
 ·exact Ev.bind hr (ev_pos h (ev_some rfl))
 ·have tx := toAssetS_ev xs hx
  have hx' : (xs.map cv35).length ≤ 1048576 ∧ ∀ y ∈ xs.map cv35, Fit40 y := ⟨by rw [List.length_map]; exact hx.1, fun y hy => by obtain ⟨z, hz, rfl⟩ := List.mem_map.1 hy; exact fit_cv35 (hx.2 z hz)⟩
  have hbd : ∀ i, i < (xs.map cv35).length → ∀ x ∈ (rd_T40 (xs.map cv35) (i : Int)).f2, Byte x := by
   intro i hi x hxm
   have e : rd_T40 (xs.map cv35) (i : Int) = (xs.map cv35)[i] := getD_get hi
   rw [e, List.getElem_map] at hxm
   have hi' : i < xs.length := by rw [List.length_map] at hi; exact hi
   have := gl.2 _ (List.getElem_mem hi')
   have h8 := this.2.2.2 x hxm
   unfold InU8 at h8
   unfold Byte
   omega
  obtain ⟨v, b, hs, hi⟩ := stampof_same (xs.map cv35) hx' hbd s
  have eb : (b != b) = false := by simp
  refine Ev.bind hr (ev_neg (by omega) (Ev.bind tx (Ev.bind hs (Ev.bind tx (Ev.bind hi (ev_pos rfl ?_))))))
  simp only [eb]
  exact st_laws_FnExactStampOf_j0 (ev_neg (by decide) (Ev.bind tx (Ev.bind (eqAssetS_ev _ hx') (ev_pos rfl (ev_some rfl)))))
end Go.Proofs.Ytehkpnnidbghhaa.Pure
