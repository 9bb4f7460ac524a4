/- Texts of a row. -/
import Derived.Test.YtndgkdnbacoenaaZFnExactReadSave0
import Derived.Deep.RegionLaw
import Derived.Lib.SliceRun
import Derived.Laws.Externs
import Derived.Lib.Bytealg
import Derived.Laws.CopyOwn
import Derived.Lib.Overlaps
import Derived.Lib.AppendZerosOnto
import Derived.Laws.AppendOwn
import Derived.Test.YtndgkdnbacoenaaProg
import Derived.Below
import Derived.Deep.Draws
import Derived.Deep.AppendLies
import Derived.Maps.AppendAt
import Derived.OwnWalk
import Derived.Laws.BytesArg
import Derived.Laws.MakeOwn
import Derived.Laws.OwnMore
import Derived.Deep.OwnRows
import Derived.Tactics
import Derived.Lib.ConvBytes
import Derived.Laws.Slices
import Derived.WalkKit
import Derived.KernelRfl
import Derived.RowKit3
import Derived.Deep.LoopGhost
import Derived.Deep.QuietTactic
import Derived.BigQuiet
import Derived.WideLaws
import Derived.Deep.DeepCutAuto
import Derived.Deep.CutBlock
import Derived.Deep.RegionHeld3
import Derived.Laws.Rows
import Derived.Lib.AppendStr
import Derived.ArgAppend
import Derived.Laws.IdiomCopy
import Derived.OrdersHeld
import Derived.Laws.BitsLemmas
import Derived.RowKit
import Derived.Laws.Cover1
namespace Go.Proofs.YtndgkdnbacoenaaW.PrintWords
open Go.RowKit
namespace Kd
section
variable {P : Program} {α : Type}
end
end Kd
end Go.Proofs.YtndgkdnbacoenaaW.PrintWords
namespace Go.Proofs.YtndgkdnbacoenaaW.PrintLast
open Go.RowKit Go.Proofs.YtndgkdnbacoenaaW.PrintWords
section
variable {P : Program} {ops : Array Oper} {Q : Exit → Act → World → Prop} {md : Region.Mode} {S : World → Prop} {ds : List Nat}
end
end Go.Proofs.YtndgkdnbacoenaaW.PrintLast
namespace Go.Proofs.YtndgkdnbacoenaaW.PrintWords
open Go.RowKit
end Go.Proofs.YtndgkdnbacoenaaW.PrintWords
namespace Go.Proofs.YtndgkdnbacoenaaW.PrintWords
open Go.RowKit
section
variable {P : Program} {ops : Array Oper} {o : Oper} {a : Act} {Q : Exit → Act → World → Prop} {Kc : Act → World → Prop}
end
end Go.Proofs.YtndgkdnbacoenaaW.PrintWords
namespace Go.Proofs.YtndgkdnbacoenaaW.PrintWords
open Go.RowKit
namespace Kd
section
variable {α : Type} {d : Kd α} {e base : Nat} {ok : Nat → Prop} {W : World} {u : Value} {xs : List α} {PS : Nat → Prop} {L : List Nat}
end
end Kd
end Go.Proofs.YtndgkdnbacoenaaW.PrintWords
namespace Go.Proofs.YtndgkdnbacoenaaW.PrintWords
open Go.RowKit
end Go.Proofs.YtndgkdnbacoenaaW.PrintWords
set_option linter.unusedSimpArgs false
set_option linter.unusedVariables false
namespace Go
end Go
namespace Go.Proofs.YtndgkdnbacoenaaW.PrintWords
open Go.RowKit
namespace Kd
section
variable {P : Program} {α : Type}
def T (d : Kd α) (e : Nat) (W : World) (base : Nat) (ok : Nat → Prop) (g c : Nat) (pre : List α) : Prop :=
 ok g ∧ ∃ inner cur, base ≤ g ∧ W.heap[g]? = some (.cells cur e (0, 0)) ∧ cur.size = c * d.sz ∧ pre.length ≤ c ∧ c ≤ maxLen ∧ cur.toList.take (pre.length * d.sz) = inner ∧ Reps (d.M W base (fun k' => ok k' ∧ some k' ≠ some g)) d.sz pre inner
end
end Kd
end Go.Proofs.YtndgkdnbacoenaaW.PrintWords
namespace Go.Proofs.YtndgkdnbacoenaaW.PrintLast
section
variable {P : Program} {ops : Array Oper} {Q : Exit → Act → World → Prop} {md : Region.Mode} {S T : World → Prop} {ds : List Nat}
end
end Go.Proofs.YtndgkdnbacoenaaW.PrintLast
namespace Go.Proofs.Ytndgkdnbacoenaa.PFnExactReadSave
open Go.RowKit Go.Proofs.YtndgkdnbacoenaaW.PrintWords Go.Proofs.YtndgkdnbacoenaaW.PrintLast Go.Proofs.YtndgkdnbacoenaaW.PrintMore
attribute [local go_sem] max2_int min2_int max_two min_two max_three min_three max_four min_four   -- for this text's walks alone
set_option linter.unusedVariables false
set_option linter.unusedSimpArgs false
def errW : Option Int → Value
 | none => .nilIface
 | some c => .iface 0 (.int .i64 c)
theorem errW_none : errW none = .nilIface := rfl
theorem errW_some (c : Int) : errW (some c) = .iface 0 (.int .i64 c) := rfl
theorem info5 : (Try.prog.info? 5).map (fun i => (i.zero, i.size, i.bytes)) = some (some (.int .u8 0), 1, 1) := by kernel_rfl
theorem info41 : (Try.prog.info? 41).map (fun i => (i.zero, i.size, i.bytes)) = some (some (.agg #[(.string ⟨#[]⟩), (.int .i64 0), (.string ⟨#[]⟩)]), 3, 40) := by kernel_rfl
structure S41 where
 f0 : ByteArray
 f1 : Int
 f2 : ByteArray
def z41 : S41 := ⟨(⟨#[]⟩ : ByteArray), (0 : Int), (⟨#[]⟩ : ByteArray)⟩
def k41 : Kd S41 := Kd.iso (Kd.pair Kd.string (Kd.pair (Kd.int .i64) Kd.string)) (fun x : S41 => (x.f0, x.f1, x.f2))
theorem k41_open {w : World} {x : S41} {cs : List Value} (h : k41.K w x cs) : cs = [.string x.f0, .int .i64 x.f1, .string x.f2] := by
 obtain ⟨_, _, rfl, rfl, ⟨_, _, rfl, rfl, rfl⟩⟩ := h
 exact rfl
theorem k41_openM {w : World} {base : Nat} {ok : Nat → Prop} {x : S41} {cs : List Value} (h : k41.M w base ok x cs) : cs = [.string x.f0, .int .i64 x.f1, .string x.f2] := by
 obtain ⟨_, _, rfl, rfl, ⟨_, _, rfl, rfl, rfl⟩⟩ := h
 exact rfl
theorem k41_mkM (w : World) (base : Nat) (ok : Nat → Prop) (x : S41)  : k41.M w base ok x [.string x.f0, .int .i64 x.f1, .string x.f2] := ⟨[.string x.f0], [.int .i64 x.f1, .string x.f2], rfl, rfl, ⟨[.int .i64 x.f1], [.string x.f2], rfl, rfl, rfl⟩⟩
def rd_T41 (xs : List S41) (i : Int) : S41 := xs.getD i.toNat z41
theorem at_T41 {w : World} {A : Option Addr} {n : Nat} {xs : List S41} (h : Kd.C k41 w A n xs) (i : Int) (h0 : 0 ≤ i) (h1 : i < n) : ∃ ad , A = some ad ∧ w.cell? (ad.add (i.toNat * 3)) = some (.string (rd_T41 xs i).f0) ∧ w.cell? ⟨(ad.add (i.toNat * 3)).block, (ad.add (i.toNat * 3)).off + 1, none⟩ = some (.int .i64 (rd_T41 xs i).f1) ∧ w.cell? ⟨(ad.add (i.toNat * 3)).block, (ad.add (i.toNat * 3)).off + 2, none⟩ = some (.string (rd_T41 xs i).f2) := by
 obtain ⟨ad, c, e, _, hK, hc0⟩ := Kd.C_get h z41 i h0 h1
 have hc : ∀ j u, c[j]? = some u → w.cell? (ad.add (i.toNat * 3 + j)) = some u := hc0
 obtain rfl := k41_open hK
 exact ⟨ad, e, hc 0 _ rfl, by rw [← add_field _ _ 1 (by omega)]; exact hc 1 _ rfl, by rw [← add_field _ _ 2 (by omega)]; exact hc 2 _ rfl⟩
end Go.Proofs.Ytndgkdnbacoenaa.PFnExactReadSave
namespace Go.Proofs.Ytndgkdnbacoenaa.PFnExactReadSave
open Go.RowKit Go.Proofs.YtndgkdnbacoenaaW.PrintWords Go.Proofs.YtndgkdnbacoenaaW.PrintLast Go.Proofs.YtndgkdnbacoenaaW.PrintMore
attribute [local go_sem] max2_int min2_int max_two min_two max_three min_three max_four min_four   -- for this text's walks alone
set_option linter.unusedVariables false
set_option linter.unusedSimpArgs false
def spec_l21Digest.l0 : Nat → Int → List Int → Int → Int → Option (Int)
 | 0, _, _, _, _ => none
 | k + 1, x3, x6, x7, x8 => if x8 < x7 then (if 0 ≤ x8 then (if x8 < (x6.length : Int) then (spec_l21Digest.l0 k (Int.tmod (IntKind.u64.wrap ((Go.bits .xor .u64 x3 (IntKind.u64.wrap (rd x6 x8))) * 16777619)) 4294967296) x6 x7 (wrap64 (x8 + 1))) else (none)) else (none)) else (some ((x3) % 4294967296))
def spec_l21Digest.f (k : Nat) (l0 : List Int) : Option (Int) := spec_l21Digest.l0 k 2166136261 l0 (l0.length : Int) 0
theorem spec_l21Digest.mono_l : ∀ k, (∀ y0 y1 y2 y3, LeO (spec_l21Digest.l0 k y0 y1 y2 y3) (spec_l21Digest.l0 (k + 1) y0 y1 y2 y3))
 | 0 => fun _ _ _ _ r h => by simp [spec_l21Digest.l0] at h
 | k + 1 => by
  have ih0 := spec_l21Digest.mono_l k
  ·intro y0 y1 y2 y3
   unfold spec_l21Digest.l0
   repeat' first
   | (with_reducible exact ih0 _ _ _ _)
   | (with_reducible first | exact LeO.refl _ | exact LeO.none _ | refine LeO.ite ?_ ?_ | refine LeO.bind ?_ (fun _ => ?_))
   | exact ih0 _ _ _ _ | exact LeO.none _ | refine LeO.ite ?_ ?_ | refine LeO.bind ?_ (fun _ => ?_)
theorem spec_l21Digest.mono : ∀ a0 k, LeO (spec_l21Digest.f k a0) (spec_l21Digest.f (k + 1) a0) := by
 intro a0 k
 have ih0 := spec_l21Digest.mono_l k
 unfold spec_l21Digest.f
 repeat' first
   | (with_reducible exact ih0 _ _ _ _)
   | (with_reducible first | exact LeO.refl _ | exact LeO.none _ | refine LeO.ite ?_ ?_ | refine LeO.bind ?_ (fun _ => ?_))
   | exact ih0 _ _ _ _ | exact LeO.none _ | refine LeO.ite ?_ ?_ | refine LeO.bind ?_ (fun _ => ?_)
set_option maxHeartbeats 8000000 in
set_option maxRecDepth 100000 in
theorem spec_l21Digest.calls (k : Nat) (A0 : Option Addr) (c0 : Nat) (l0 : List Int) (r : Int) (w : World) (hr0 : Kd.C (Kd.int .u8) w A0 l0.length l0) (hc0 : l0.length ≤ c0) (h : spec_l21Digest.f k l0 = some r) :
  Calls Try.prog 12 #[.slice A0 l0.length c0] w fun e w' => e = .returned (.int .u32 r) ∧ Drawn0 w w' := by
 have HR0 := Aside0.mk hr0
 have HC0 := Aside0.mk hc0
 clear hr0 hc0
 have H : (spec_l21Digest.l0 k 2166136261 l0 (l0.length : Int) 0) = some r := h
 clear h
 have H' := Aside0.mk H
 clear H
 go_enter Try.func12, Try.ntmps12
 go_wp2
 go_loopg [3, 8] k (fun kq v3 v8 w' => ∃ (x3_1 : Int) (x8_1 : Int), v3 = .int .u64 x3_1 ∧ v8 = .int .i64 x8_1 ∧ Aside0 (spec_l21Digest.l0 kq x3_1 l0 (l0.length : Int) x8_1 = some r) ∧ Aside0 (kq ≤ k) ∧ Drawn0 w w')
 case atStart => exact ⟨(2166136261), (0), (by first | rfl | (simp; done) | (simp [*]; done) | exact not_isEmpty _ | exact (not_isEmpty _).symm | exact is_empty _ | exact (is_empty _).symm), (by first | rfl | (simp; done) | (simp [*]; done) | exact not_isEmpty _ | exact (not_isEmpty _).symm | exact is_empty _ | exact (is_empty _).symm), H', ⟨Nat.le_refl _⟩, by repeat (first | exact Drawn0.refl _ | apply Drawn0.step)⟩
 case round =>
  clear H'
  try clear c1
  obtain ⟨x3_1, x8_1, rfl, rfl, HA, HK1, ⟨m1, rfl⟩⟩ := hrel
  cases gk with
  | zero => exact absurd HA.out (by simp [spec_l21Digest.l0])
  | succ k1 =>
   have H := HA.out
   clear HA
   simp only [spec_l21Digest.l0] at H
   by_cases c2 : x8_1 < (l0.length : Int)
   ·rw [if_pos c2] at H
    have c2b0 : decide (x8_1 < (l0.length : Int)) = true := decide_eq_true c2
    clear c2
    by_cases c3 : 0 ≤ x8_1
    ·rw [if_pos c3] at H
     have c3b0 : decide (0 ≤ x8_1) = true := decide_eq_true c3
     clear c3
     by_cases c4 : x8_1 < (l0.length : Int)
     ·rw [if_pos c4] at H
      have c4b0 : decide (x8_1 < (l0.length : Int)) = true := decide_eq_true c4
      clear c4
      have H' := Aside0.mk H
      clear H
      have p101 : 0 ≤ (x8_1 : Int) := of_decide_eq_true (by first | (with_reducible assumption) | assumption)
      have q101 : x8_1 < (l0.length : Int) := of_decide_eq_true (by first | (with_reducible assumption) | assumption)
      obtain ⟨ad101, e101, hx101_0⟩ := Kd.at_int HR0.out x8_1 p101 q101
      cases e101
      replace p101 := eq_true p101
      replace q101 := eq_true q101
      go_wp2
      go_roundg k1
      case measure => have := HK1.out; omega
      case rel => exact ⟨(Int.tmod (IntKind.u64.wrap ((Go.bits .xor .u64 x3_1 (IntKind.u64.wrap (rd l0 x8_1))) * 16777619)) 4294967296), (wrap64 (x8_1 + 1)), (by first | rfl | (simp; done) | (simp [*]; done) | exact not_isEmpty _ | exact (not_isEmpty _).symm | exact is_empty _ | exact (is_empty _).symm), (by first | rfl | (simp; done) | (simp [*]; done) | exact not_isEmpty _ | exact (not_isEmpty _).symm | exact is_empty _ | exact (is_empty _).symm), H', ⟨by have := HK1.out; omega⟩, by repeat (first | exact Drawn0.refl _ | apply Drawn0.step)⟩
     ·rw [if_neg c4] at H
      exact absurd H (by simp)
    ·rw [if_neg c3] at H
     exact absurd H (by simp)
   ·rw [if_neg c2] at H
    have c2b0 : decide (x8_1 < (l0.length : Int)) = false := decide_eq_false c2
    clear c2
    obtain rfl := Option.some.inj H
    go_wp2
    go_ret
    exact ⟨by first | rfl | (simp; done) | (simp [*]; done) | exact not_isEmpty _ | exact (not_isEmpty _).symm | exact is_empty _ | exact (is_empty _).symm, by repeat (first | exact Drawn0.refl _ | apply Drawn0.step)⟩
def spec_l1In.f (a0 : Int) (a1 : Int) (a2 : Int) : Option (Bool) := if a0 ≥ a1 then (some (decide (a0 ≤ a2))) else (some false)
set_option maxHeartbeats 8000000 in
set_option maxRecDepth 100000 in
theorem spec_l1In.calls (a0 : Int) (a1 : Int) (a2 : Int) (r : Bool) (w : World) (h : spec_l1In.f a0 a1 a2 = some r) :
  Calls Try.prog 15 #[.int .i64 a0, .int .i64 a1, .int .i64 a2] w fun e w' => e = .returned (.bool r) ∧ Drawn0 w w' := by
 have H : (if a0 ≥ a1 then (some (decide (a0 ≤ a2))) else (some false)) = some r := h
 clear h
 by_cases c4 : a0 ≥ a1
 ·rw [if_pos c4] at H
  have c4b0 : decide (a1 ≤ a0) = true := decide_eq_true c4
  clear c4
  obtain rfl := Option.some.inj H
  go_enter Try.func15, Try.ntmps15
  go_wp2
  go_ret
  exact ⟨by first | rfl | (simp; done) | (simp [*]; done) | exact not_isEmpty _ | exact (not_isEmpty _).symm | exact is_empty _ | exact (is_empty _).symm, by repeat (first | exact Drawn0.refl _ | apply Drawn0.step)⟩
 ·rw [if_neg c4] at H
  have c4b0 : decide (a1 ≤ a0) = false := decide_eq_false c4
  clear c4
  obtain rfl := Option.some.inj H
  go_enter Try.func15, Try.ntmps15
  go_wp2
  go_ret
  exact ⟨by first | rfl | (simp; done) | (simp [*]; done) | exact not_isEmpty _ | exact (not_isEmpty _).symm | exact is_empty _ | exact (is_empty _).symm, by repeat (first | exact Drawn0.refl _ | apply Drawn0.step)⟩
def spec_l1Digit.f (a0 : Int) : Option (Bool) := if a0 ≥ 48 then (some (decide (a0 ≤ 57))) else (some false)
set_option maxHeartbeats 8000000 in
set_option maxRecDepth 100000 in
theorem spec_l1Digit.calls (a0 : Int) (r : Bool) (w : World) (h : spec_l1Digit.f a0 = some r) :
  Calls Try.prog 28 #[.int .u8 a0] w fun e w' => e = .returned (.bool r) ∧ Drawn0 w w' := by
 have H : (if a0 ≥ 48 then (some (decide (a0 ≤ 57))) else (some false)) = some r := h
 clear h
 by_cases c2 : a0 ≥ 48
 ·rw [if_pos c2] at H
  have c2b0 : decide (48 ≤ a0) = true := decide_eq_true c2
  clear c2
  obtain rfl := Option.some.inj H
  go_enter Try.func28, Try.ntmps28
  go_wp2
  go_ret
  exact ⟨by first | rfl | (simp; done) | (simp [*]; done) | exact not_isEmpty _ | exact (not_isEmpty _).symm | exact is_empty _ | exact (is_empty _).symm, by repeat (first | exact Drawn0.refl _ | apply Drawn0.step)⟩
 ·rw [if_neg c2] at H
  have c2b0 : decide (48 ≤ a0) = false := decide_eq_false c2
  clear c2
  obtain rfl := Option.some.inj H
  go_enter Try.func28, Try.ntmps28
  go_wp2
  go_ret
  exact ⟨by first | rfl | (simp; done) | (simp [*]; done) | exact not_isEmpty _ | exact (not_isEmpty _).symm | exact is_empty _ | exact (is_empty _).symm, by repeat (first | exact Drawn0.refl _ | apply Drawn0.step)⟩
def spec_l1Letter.f (a0 : Int) : Option (Bool) := if a0 ≥ 97 then (if a0 ≤ 122 then (some true) else (if a0 ≥ 65 then (if a0 ≤ 90 then (some true) else (some (a0 == 95))) else (some (a0 == 95)))) else (if a0 ≥ 65 then (if a0 ≤ 90 then (some true) else (some (a0 == 95))) else (some (a0 == 95)))
set_option maxHeartbeats 8000000 in
set_option maxRecDepth 100000 in
theorem spec_l1Letter.calls (a0 : Int) (r : Bool) (w : World) (h : spec_l1Letter.f a0 = some r) :
  Calls Try.prog 29 #[.int .u8 a0] w fun e w' => e = .returned (.bool r) ∧ Drawn0 w w' := by
 have H : (if a0 ≥ 97 then (if a0 ≤ 122 then (some true) else (if a0 ≥ 65 then (if a0 ≤ 90 then (some true) else (some (a0 == 95))) else (some (a0 == 95)))) else (if a0 ≥ 65 then (if a0 ≤ 90 then (some true) else (some (a0 == 95))) else (some (a0 == 95)))) = some r := h
 clear h
 by_cases c2 : a0 ≥ 97
 ·rw [if_pos c2] at H
  have c2b0 : decide (97 ≤ a0) = true := decide_eq_true c2
  clear c2
  by_cases c3 : a0 ≤ 122
  ·rw [if_pos c3] at H
   have c3b0 : decide (a0 ≤ 122) = true := decide_eq_true c3
   clear c3
   obtain rfl := Option.some.inj H
   go_enter Try.func29, Try.ntmps29
   go_wp2
   go_ret
   exact ⟨by first | rfl | (simp; done) | (simp [*]; done) | exact not_isEmpty _ | exact (not_isEmpty _).symm | exact is_empty _ | exact (is_empty _).symm, by repeat (first | exact Drawn0.refl _ | apply Drawn0.step)⟩
  ·rw [if_neg c3] at H
   have c3b0 : decide (a0 ≤ 122) = false := decide_eq_false c3
   clear c3
   by_cases c4 : a0 ≥ 65
   ·rw [if_pos c4] at H
    have c4b0 : decide (65 ≤ a0) = true := decide_eq_true c4
    clear c4
    by_cases c5 : a0 ≤ 90
    ·rw [if_pos c5] at H
     have c5b0 : decide (a0 ≤ 90) = true := decide_eq_true c5
     clear c5
     obtain rfl := Option.some.inj H
     go_enter Try.func29, Try.ntmps29
     go_wp2
     go_ret
     exact ⟨by first | rfl | (simp; done) | (simp [*]; done) | exact not_isEmpty _ | exact (not_isEmpty _).symm | exact is_empty _ | exact (is_empty _).symm, by repeat (first | exact Drawn0.refl _ | apply Drawn0.step)⟩
    ·rw [if_neg c5] at H
     have c5b0 : decide (a0 ≤ 90) = false := decide_eq_false c5
     clear c5
     obtain rfl := Option.some.inj H
     go_enter Try.func29, Try.ntmps29
     go_wp2
     go_ret
     exact ⟨by first | rfl | (simp; done) | (simp [*]; done) | exact not_isEmpty _ | exact (not_isEmpty _).symm | exact is_empty _ | exact (is_empty _).symm, by repeat (first | exact Drawn0.refl _ | apply Drawn0.step)⟩
   ·rw [if_neg c4] at H
    have c4b0 : decide (65 ≤ a0) = false := decide_eq_false c4
    clear c4
    obtain rfl := Option.some.inj H
    go_enter Try.func29, Try.ntmps29
    go_wp2
    go_ret
    exact ⟨by first | rfl | (simp; done) | (simp [*]; done) | exact not_isEmpty _ | exact (not_isEmpty _).symm | exact is_empty _ | exact (is_empty _).symm, by repeat (first | exact Drawn0.refl _ | apply Drawn0.step)⟩
 ·rw [if_neg c2] at H
  have c2b0 : decide (97 ≤ a0) = false := decide_eq_false c2
  clear c2
  by_cases c6 : a0 ≥ 65
  ·rw [if_pos c6] at H
   have c6b0 : decide (65 ≤ a0) = true := decide_eq_true c6
   clear c6
   by_cases c7 : a0 ≤ 90
   ·rw [if_pos c7] at H
    have c7b0 : decide (a0 ≤ 90) = true := decide_eq_true c7
    clear c7
    obtain rfl := Option.some.inj H
    go_enter Try.func29, Try.ntmps29
    go_wp2
    go_ret
    exact ⟨by first | rfl | (simp; done) | (simp [*]; done) | exact not_isEmpty _ | exact (not_isEmpty _).symm | exact is_empty _ | exact (is_empty _).symm, by repeat (first | exact Drawn0.refl _ | apply Drawn0.step)⟩
   ·rw [if_neg c7] at H
    have c7b0 : decide (a0 ≤ 90) = false := decide_eq_false c7
    clear c7
    obtain rfl := Option.some.inj H
    go_enter Try.func29, Try.ntmps29
    go_wp2
    go_ret
    exact ⟨by first | rfl | (simp; done) | (simp [*]; done) | exact not_isEmpty _ | exact (not_isEmpty _).symm | exact is_empty _ | exact (is_empty _).symm, by repeat (first | exact Drawn0.refl _ | apply Drawn0.step)⟩
  ·rw [if_neg c6] at H
   have c6b0 : decide (65 ≤ a0) = false := decide_eq_false c6
   clear c6
   obtain rfl := Option.some.inj H
   go_enter Try.func29, Try.ntmps29
   go_wp2
   go_ret
   exact ⟨by first | rfl | (simp; done) | (simp [*]; done) | exact not_isEmpty _ | exact (not_isEmpty _).symm | exact is_empty _ | exact (is_empty _).symm, by repeat (first | exact Drawn0.refl _ | apply Drawn0.step)⟩
mutual
def spec_GoodName.j0 : Nat → ByteArray → Bool → Option (Bool)
 | 0, _, _ => none
 | k + 1, x0, x16 => if x16 = true then (some false) else (spec_GoodName.l0 k x0 0)
def spec_GoodName.l0 : Nat → ByteArray → Int → Option (Bool)
 | 0, _, _ => none
 | k + 1, x0, x3 => if x3 < (x0.size : Int) then (if 0 ≤ x3 then ((spec_l1Letter.f (bt x0 x3)).bind fun t103 => (if t103 = true then (spec_GoodName.l0 k x0 (wrap64 (x3 + 1))) else ((spec_l1Digit.f (bt x0 x3)).bind fun t104 => (if t104 = true then (spec_GoodName.l0 k x0 (wrap64 (x3 + 1))) else (some false))))) else (none)) else (some true)
end
def spec_GoodName.f (k : Nat) (a0 : ByteArray) : Option (Bool) := if (a0.size : Int) < 1 then (spec_GoodName.j0 k a0 true) else (if (a0.size : Int) > 20 then (spec_GoodName.j0 k a0 true) else (if 0 < (a0.size : Int) then ((spec_l1Digit.f (bt a0 0)).bind fun t102 => (spec_GoodName.j0 k a0 t102)) else (none)))
theorem spec_GoodName.mono_l : ∀ k, (∀ y0 y1, LeO (spec_GoodName.j0 k y0 y1) (spec_GoodName.j0 (k + 1) y0 y1)) ∧ (∀ y0 y1, LeO (spec_GoodName.l0 k y0 y1) (spec_GoodName.l0 (k + 1) y0 y1))
 | 0 => ⟨fun _ _ r h => by simp [spec_GoodName.j0] at h, fun _ _ r h => by simp [spec_GoodName.l0] at h⟩
 | k + 1 => by
  obtain ⟨ih0, ih1⟩ := spec_GoodName.mono_l k
  refine ⟨?_, ?_⟩
  ·intro y0 y1
   unfold spec_GoodName.j0
   repeat' first
   | (with_reducible exact ih0 _ _)
   | (with_reducible exact ih1 _ _)
   | (with_reducible first | exact LeO.refl _ | exact LeO.none _ | refine LeO.ite ?_ ?_ | refine LeO.bind ?_ (fun _ => ?_))
   | exact ih0 _ _
   | exact ih1 _ _ | exact LeO.none _ | refine LeO.ite ?_ ?_ | refine LeO.bind ?_ (fun _ => ?_)
  ·intro y0 y1
   unfold spec_GoodName.l0
   repeat' first
   | (with_reducible exact ih0 _ _)
   | (with_reducible exact ih1 _ _)
   | (with_reducible first | exact LeO.refl _ | exact LeO.none _ | refine LeO.ite ?_ ?_ | refine LeO.bind ?_ (fun _ => ?_))
   | exact ih0 _ _
   | exact ih1 _ _ | exact LeO.none _ | refine LeO.ite ?_ ?_ | refine LeO.bind ?_ (fun _ => ?_)
theorem spec_GoodName.mono : ∀ a0 k, LeO (spec_GoodName.f k a0) (spec_GoodName.f (k + 1) a0) := by
 intro a0 k
 obtain ⟨ih0, ih1⟩ := spec_GoodName.mono_l k
 unfold spec_GoodName.f
 repeat' first
   | (with_reducible exact ih0 _ _)
   | (with_reducible exact ih1 _ _)
   | (with_reducible first | exact LeO.refl _ | exact LeO.none _ | refine LeO.ite ?_ ?_ | refine LeO.bind ?_ (fun _ => ?_))
   | exact ih0 _ _
   | exact ih1 _ _ | exact LeO.none _ | refine LeO.ite ?_ ?_ | refine LeO.bind ?_ (fun _ => ?_)
set_option maxHeartbeats 8000000 in
set_option maxRecDepth 100000 in
theorem spec_GoodName.calls (k : Nat) (a0 : ByteArray) (r : Bool) (w : World) (h : spec_GoodName.f k a0 = some r) :
  Calls Try.prog 26 #[.string a0] w fun e w' => e = .returned (.bool r) ∧ Drawn0 w w' := by
 have H : (if (a0.size : Int) < 1 then (spec_GoodName.j0 k a0 true) else (if (a0.size : Int) > 20 then (spec_GoodName.j0 k a0 true) else (if 0 < (a0.size : Int) then ((spec_l1Digit.f (bt a0 0)).bind fun t102 => (spec_GoodName.j0 k a0 t102)) else (none)))) = some r := h
 clear h
 have HC2 := Aside0.mk H
 clear H
 go_enter Try.func26, Try.ntmps26
 go_upto_region 1 with (fail)
 go_cut [16] (fun v16 wc => ∃ (kq : Nat) (x16_1 : Bool), v16 = .bool x16_1 ∧ Aside0 (spec_GoodName.j0 kq a0 x16_1 = some r) ∧ Aside0 (kq ≤ k) ∧ Drawn0 w wc)
 case first =>
  have H := HC2.out
  clear HC2
  by_cases c3 : (a0.size : Int) < 1
  ·rw [if_pos c3] at H
   have c3b0 : decide ((a0.size : Int) < 1) = true := decide_eq_true c3
   have c3b1 : decide (a0.size < 1) = true := decide_eq_true (by omega)
   clear c3
   (first | rw [c3b0] | (simp only [i64_w, i32_w]; rw [c3b0]) | (rw [c3b2]; simp only [Bool.not_false, Bool.not_true]) | skip)
   have H' := Aside0.mk H
   clear H
   go_wp2
   go_meet
   case rel => exact ⟨_, (true), (by first | rfl | (simp; done) | (simp [*]; done) | exact not_isEmpty _ | exact (not_isEmpty _).symm | exact is_empty _ | exact (is_empty _).symm), H', ⟨by first | omega | exact Nat.le_refl _⟩, by repeat (first | exact Drawn0.refl _ | apply Drawn0.step)⟩
  ·rw [if_neg c3] at H
   have c3b0 : decide ((a0.size : Int) < 1) = false := decide_eq_false c3
   have c3b1 : decide (a0.size < 1) = false := decide_eq_false (by omega)
   clear c3
   (first | rw [c3b0] | (simp only [i64_w, i32_w]; rw [c3b0]) | (rw [c3b2]; simp only [Bool.not_false, Bool.not_true]) | skip)
   by_cases c4 : (a0.size : Int) > 20
   ·rw [if_pos c4] at H
    have c4b0 : decide (20 < (a0.size : Int)) = true := decide_eq_true c4
    have c4b1 : decide (20 < a0.size) = true := decide_eq_true (by omega)
    clear c4
    have H' := Aside0.mk H
    clear H
    go_wp2
    go_meet
    case rel => exact ⟨_, (true), (by first | rfl | (simp; done) | (simp [*]; done) | exact not_isEmpty _ | exact (not_isEmpty _).symm | exact is_empty _ | exact (is_empty _).symm), H', ⟨by first | omega | exact Nat.le_refl _⟩, by repeat (first | exact Drawn0.refl _ | apply Drawn0.step)⟩
   ·rw [if_neg c4] at H
    have c4b0 : decide (20 < (a0.size : Int)) = false := decide_eq_false c4
    have c4b1 : decide (20 < a0.size) = false := decide_eq_false (by omega)
    clear c4
    by_cases c5 : 0 < (a0.size : Int)
    ·rw [if_pos c5] at H
     have c5b0 : decide (0 < (a0.size : Int)) = true := decide_eq_true c5
     have c5b1 : decide (0 < a0.size) = true := decide_eq_true (by omega)
     clear c5
     replace H := Option.bind_eq_some_iff.mp H
     obtain ⟨t102, A70, H⟩ := H
     replace H : (spec_GoodName.j0 k a0 t102) = some r := H
     have A7 := Aside0.mk A70
     clear A70
     have H' := Aside0.mk H
     clear H
     have p6 : 0 ≤ (0 : Int) := (by omega)
     have q6 : 0 < a0.size := (by have : (0 : Int) < (a0.size : Int) := of_decide_eq_true (by first | (with_reducible assumption) | assumption); omega)
     have hx6 : ∀ h : 0 < a0.size, ((a0[0]'h).toNat : Int) = bt a0 0 := bt_at a0 0
     clear p6
     have qi6 : (0 < (a0.size : Int)) = True := eq_true (of_decide_eq_true (by first | (with_reducible assumption) | assumption))
     replace q6 := eq_true q6
     go_wp2_with (first | (go_at_call 28; (with_reducible refine (spec_l1Digit.calls (bt a0 0) t102 _ A7.out).mono ?_); rintro e w' ⟨rfl, ⟨nd, rfl⟩⟩))
     go_meet
     case rel => exact ⟨_, (t102), (by first | rfl | (simp; done) | (simp [*]; done) | exact not_isEmpty _ | exact (not_isEmpty _).symm | exact is_empty _ | exact (is_empty _).symm), H', ⟨by first | omega | exact Nat.le_refl _⟩, by repeat (first | exact Drawn0.refl _ | apply Drawn0.step)⟩
    ·rw [if_neg c5] at H
     exact absurd H (by simp)
 case rest =>
  clear HC2
  try clear c2
  try clear p2
  try clear c3
  try clear c3b0
  try clear c3b1
  try clear c3b2
  try clear c4
  try clear c4b0
  try clear c4b1
  try clear c5
  try clear c5b0
  try clear c5b1
  try clear p6
  try clear q6
  try clear hx6
  try clear qi6
  try clear p6
  try clear q6
  obtain ⟨kq, x16_1, rfl, HA, HJ1, ⟨mc1, rfl⟩⟩ := hcut
  cases kq with
  | zero => exact absurd HA.out (by simp [spec_GoodName.j0])
  | succ kj1 =>
   have H := HA.out
   clear HA
   simp only [spec_GoodName.j0] at H
   by_cases c8 : x16_1 = true
   ·subst c8
    have H1 : (some false) = some r := by rw [if_pos rfl] at H; exact H
    clear H
    have H := H1
    clear H1
    obtain rfl := Option.some.inj H
    go_wp2
    go_ret
    exact ⟨by first | rfl | (simp; done) | (simp [*]; done) | exact not_isEmpty _ | exact (not_isEmpty _).symm | exact is_empty _ | exact (is_empty _).symm, by repeat (first | exact Drawn0.refl _ | apply Drawn0.step)⟩
   ·replace c8 := Bool.eq_false_iff.mpr c8
    subst c8
    have H1 : (spec_GoodName.l0 kj1 a0 0) = some r := by rw [if_neg (show ¬ (false = true) by decide)] at H; exact H
    clear H
    have H := H1
    clear H1
    have H' := Aside0.mk H
    clear H
    go_wp2
    go_loopg [3] kj1 (fun kq v3 w' => ∃ (x3_2 : Int), v3 = .int .i64 x3_2 ∧ Aside0 (spec_GoodName.l0 kq a0 x3_2 = some r) ∧ Aside0 (kq ≤ kj1) ∧ Drawn0 w w')
    case atStart => exact ⟨(0), (by first | rfl | (simp; done) | (simp [*]; done) | exact not_isEmpty _ | exact (not_isEmpty _).symm | exact is_empty _ | exact (is_empty _).symm), H', ⟨Nat.le_refl _⟩, by repeat (first | exact Drawn0.refl _ | apply Drawn0.step)⟩
    case round =>
     clear H'
     try clear c1
     try clear c2
     try clear p2
     try clear c3
     try clear c3b0
     try clear c3b1
     try clear c3b2
     try clear c4
     try clear c4b0
     try clear c4b1
     try clear c5
     try clear c5b0
     try clear c5b1
     try clear p6
     try clear q6
     try clear hx6
     try clear qi6
     try clear c8
     try clear p2
     try clear p6
     try clear q6
     obtain ⟨x3_2, rfl, HA, HK2, ⟨m2, rfl⟩⟩ := hrel
     cases gk with
     | zero => exact absurd HA.out (by simp [spec_GoodName.l0])
     | succ k2 =>
      have H := HA.out
      clear HA
      simp only [spec_GoodName.l0] at H
      by_cases c9 : x3_2 < (a0.size : Int)
      ·rw [if_pos c9] at H
       have c9b0 : decide (x3_2 < (a0.size : Int)) = true := decide_eq_true c9
       clear c9
       by_cases c10 : 0 ≤ x3_2
       ·rw [if_pos c10] at H
        have c10b0 : decide (0 ≤ x3_2) = true := decide_eq_true c10
        clear c10
        replace H := Option.bind_eq_some_iff.mp H
        obtain ⟨t103, A120, H⟩ := H
        replace H : (if t103 = true then (spec_GoodName.l0 k2 a0 (wrap64 (x3_2 + 1))) else ((spec_l1Digit.f (bt a0 x3_2)).bind fun t104 => (if t104 = true then (spec_GoodName.l0 k2 a0 (wrap64 (x3_2 + 1))) else (some false)))) = some r := H
        have A12 := Aside0.mk A120
        clear A120
        by_cases c13 : t103 = true
        ·subst c13
         have H1 : (spec_GoodName.l0 k2 a0 (wrap64 (x3_2 + 1))) = some r := by rw [if_pos rfl] at H; exact H
         clear H
         have H := H1
         clear H1
         have H' := Aside0.mk H
         clear H
         have p11 : 0 ≤ (x3_2 : Int) := of_decide_eq_true (by first | (with_reducible assumption) | assumption)
         have q11 : x3_2 < (a0.size : Int) := of_decide_eq_true (by first | (with_reducible assumption) | assumption)
         have hx11 := bt_at a0 x3_2
         replace p11 := eq_true p11
         replace q11 := eq_true q11
         go_wp2_with (first | ((with_reducible refine gate_callee (f := 29) rfl ?_); refine goesL_ (some 26) rfl rfl Try.func29 (by kernel_rfl) rfl #[.int .u8 (bt a0 x3_2)] rfl (by (try simp only [List.map_toArray, List.map_cons, List.map_nil]); first | done | rfl | (simp only [List.length_drop, List.length_take]; rfl)) ?_; (with_reducible refine (spec_l1Letter.calls (bt a0 x3_2) true _ A12.out).mono ?_); rintro e w' ⟨rfl, ⟨nd, rfl⟩⟩; refine ⟨_, rfl, ?_⟩))
         go_roundg k2
         case measure => have := HJ1.out; have := HK2.out; omega
         case rel => exact ⟨(wrap64 (x3_2 + 1)), (by first | rfl | (simp; done) | (simp [*]; done) | exact not_isEmpty _ | exact (not_isEmpty _).symm | exact is_empty _ | exact (is_empty _).symm), H', ⟨by have := HJ1.out; have := HK2.out; omega⟩, by repeat (first | exact Drawn0.refl _ | apply Drawn0.step)⟩
        ·replace c13 := Bool.eq_false_iff.mpr c13
         subst c13
         have H1 : ((spec_l1Digit.f (bt a0 x3_2)).bind fun t104 => (if t104 = true then (spec_GoodName.l0 k2 a0 (wrap64 (x3_2 + 1))) else (some false))) = some r := by rw [if_neg (show ¬ (false = true) by decide)] at H; exact H
         clear H
         have H := H1
         clear H1
         replace H := Option.bind_eq_some_iff.mp H
         obtain ⟨t104, A150, H⟩ := H
         replace H : (if t104 = true then (spec_GoodName.l0 k2 a0 (wrap64 (x3_2 + 1))) else (some false)) = some r := H
         have A15 := Aside0.mk A150
         clear A150
         by_cases c16 : t104 = true
         ·subst c16
          have H1 : (spec_GoodName.l0 k2 a0 (wrap64 (x3_2 + 1))) = some r := by rw [if_pos rfl] at H; exact H
          clear H
          have H := H1
          clear H1
          have H' := Aside0.mk H
          clear H
          have p11 : 0 ≤ (x3_2 : Int) := of_decide_eq_true (by first | (with_reducible assumption) | assumption)
          have q11 : x3_2 < (a0.size : Int) := of_decide_eq_true (by first | (with_reducible assumption) | assumption)
          have hx11 := bt_at a0 x3_2
          replace p11 := eq_true p11
          replace q11 := eq_true q11
          go_wp2_with (first | ((with_reducible refine gate_callee (f := 29) rfl ?_); refine goesL_ (some 26) rfl rfl Try.func29 (by kernel_rfl) rfl #[.int .u8 (bt a0 x3_2)] rfl (by (try simp only [List.map_toArray, List.map_cons, List.map_nil]); first | done | rfl | (simp only [List.length_drop, List.length_take]; rfl)) ?_; (with_reducible refine (spec_l1Letter.calls (bt a0 x3_2) false _ A12.out).mono ?_); rintro e w' ⟨rfl, ⟨nd, rfl⟩⟩; refine ⟨_, rfl, ?_⟩; have p14 : 0 ≤ (x3_2 : Int) := of_decide_eq_true (by first | (with_reducible assumption) | assumption); have q14 : x3_2 < (a0.size : Int) := of_decide_eq_true (by first | (with_reducible assumption) | assumption); have hx14 := bt_at a0 x3_2; replace p14 := eq_true p14; replace q14 := eq_true q14) | (go_at_call 28; (with_reducible refine (spec_l1Digit.calls (bt a0 x3_2) true _ A15.out).mono ?_); rintro e w' ⟨rfl, ⟨nd, rfl⟩⟩))
          go_roundg k2
          case measure => have := HJ1.out; have := HK2.out; omega
          case rel => exact ⟨(wrap64 (x3_2 + 1)), (by first | rfl | (simp; done) | (simp [*]; done) | exact not_isEmpty _ | exact (not_isEmpty _).symm | exact is_empty _ | exact (is_empty _).symm), H', ⟨by have := HJ1.out; have := HK2.out; omega⟩, by repeat (first | exact Drawn0.refl _ | apply Drawn0.step)⟩
         ·replace c16 := Bool.eq_false_iff.mpr c16
          subst c16
          have H1 : (some false) = some r := by rw [if_neg (show ¬ (false = true) by decide)] at H; exact H
          clear H
          have H := H1
          clear H1
          obtain rfl := Option.some.inj H
          have p11 : 0 ≤ (x3_2 : Int) := of_decide_eq_true (by first | (with_reducible assumption) | assumption)
          have q11 : x3_2 < (a0.size : Int) := of_decide_eq_true (by first | (with_reducible assumption) | assumption)
          have hx11 := bt_at a0 x3_2
          replace p11 := eq_true p11
          replace q11 := eq_true q11
          go_wp2_with (first | ((with_reducible refine gate_callee (f := 29) rfl ?_); refine goesL_ (some 26) rfl rfl Try.func29 (by kernel_rfl) rfl #[.int .u8 (bt a0 x3_2)] rfl (by (try simp only [List.map_toArray, List.map_cons, List.map_nil]); first | done | rfl | (simp only [List.length_drop, List.length_take]; rfl)) ?_; (with_reducible refine (spec_l1Letter.calls (bt a0 x3_2) false _ A12.out).mono ?_); rintro e w' ⟨rfl, ⟨nd, rfl⟩⟩; refine ⟨_, rfl, ?_⟩; have p14 : 0 ≤ (x3_2 : Int) := of_decide_eq_true (by first | (with_reducible assumption) | assumption); have q14 : x3_2 < (a0.size : Int) := of_decide_eq_true (by first | (with_reducible assumption) | assumption); have hx14 := bt_at a0 x3_2; replace p14 := eq_true p14; replace q14 := eq_true q14) | (go_at_call 28; (with_reducible refine (spec_l1Digit.calls (bt a0 x3_2) false _ A15.out).mono ?_); rintro e w' ⟨rfl, ⟨nd, rfl⟩⟩))
          go_ret
          exact ⟨by first | rfl | (simp; done) | (simp [*]; done) | exact not_isEmpty _ | exact (not_isEmpty _).symm | exact is_empty _ | exact (is_empty _).symm, by repeat (first | exact Drawn0.refl _ | apply Drawn0.step)⟩
       ·rw [if_neg c10] at H
        exact absurd H (by simp)
      ·rw [if_neg c9] at H
       have c9b0 : decide (x3_2 < (a0.size : Int)) = false := decide_eq_false c9
       clear c9
       obtain rfl := Option.some.inj H
       go_wp2
       go_ret
       exact ⟨by first | rfl | (simp; done) | (simp [*]; done) | exact not_isEmpty _ | exact (not_isEmpty _).symm | exact is_empty _ | exact (is_empty _).symm, by repeat (first | exact Drawn0.refl _ | apply Drawn0.step)⟩
def spec_GoodValues.l0 : Nat → List (S41) → List (S41) → Int → Int → Option (Bool)
 | 0, _, _, _, _ => none
 | k + 1, x0, x8, x9, x10 => if x10 < x9 then (if 0 ≤ x10 then (if x10 < (x8.length : Int) then ((spec_GoodName.f k ((rd_T41 x8 x10).f0)).bind fun t107 => (if t107 = true then (if (((rd_T41 x8 x10).f2).size : Int) > 100 then (some false) else (if x10 > 0 then (if 0 ≤ (wrap64 (x10 - 1)) then (if (wrap64 (x10 - 1)) < (x0.length : Int) then (if ((Op.bytesLess (((rd_T41 x0 (wrap64 (x10 - 1))).f0).toList) (((rd_T41 x8 x10).f0).toList)) = true) then (spec_GoodValues.l0 k x0 x8 x9 (wrap64 (x10 + 1))) else (some false)) else (none)) else (none)) else (spec_GoodValues.l0 k x0 x8 x9 (wrap64 (x10 + 1))))) else (some false))) else (none)) else (none)) else (some true)
def spec_GoodValues.f (k : Nat) (l0 : List (S41)) : Option (Bool) := if (l0.length : Int) > 30 then (some false) else (spec_GoodValues.l0 k l0 l0 (l0.length : Int) 0)
theorem spec_GoodValues.mono_l : ∀ k, (∀ y0 y1 y2 y3, LeO (spec_GoodValues.l0 k y0 y1 y2 y3) (spec_GoodValues.l0 (k + 1) y0 y1 y2 y3))
 | 0 => fun _ _ _ _ r h => by simp [spec_GoodValues.l0] at h
 | k + 1 => by
  have ih0 := spec_GoodValues.mono_l k
  ·intro y0 y1 y2 y3
   unfold spec_GoodValues.l0
   repeat' first
   | (with_reducible exact ih0 _ _ _ _)
   | (with_reducible exact spec_GoodName.mono _ _)
   | (with_reducible first | exact LeO.refl _ | exact LeO.none _ | refine LeO.ite ?_ ?_ | refine LeO.bind ?_ (fun _ => ?_))
   | exact ih0 _ _ _ _
   | exact spec_GoodName.mono _ _ | exact LeO.none _ | refine LeO.ite ?_ ?_ | refine LeO.bind ?_ (fun _ => ?_)
theorem spec_GoodValues.mono : ∀ a0 k, LeO (spec_GoodValues.f k a0) (spec_GoodValues.f (k + 1) a0) := by
 intro a0 k
 have ih0 := spec_GoodValues.mono_l k
 unfold spec_GoodValues.f
 repeat' first
   | (with_reducible exact ih0 _ _ _ _)
   | (with_reducible exact spec_GoodName.mono _ _)
   | (with_reducible first | exact LeO.refl _ | exact LeO.none _ | refine LeO.ite ?_ ?_ | refine LeO.bind ?_ (fun _ => ?_))
   | exact ih0 _ _ _ _
   | exact spec_GoodName.mono _ _ | exact LeO.none _ | refine LeO.ite ?_ ?_ | refine LeO.bind ?_ (fun _ => ?_)
set_option maxHeartbeats 8000000 in
set_option maxRecDepth 100000 in
theorem spec_GoodValues.calls (k : Nat) (A0 : Option Addr) (c0 : Nat) (l0 : List (S41)) (r : Bool) (w : World) (hr0 : Kd.C k41 w A0 l0.length l0) (hc0 : l0.length ≤ c0) (h : spec_GoodValues.f k l0 = some r) :
  Calls Try.prog 16 #[.slice A0 l0.length c0] w fun e w' => e = .returned (.bool r) ∧ Below w.heap.size w w' := by
 have hu41 := Try.underlying41
 have HR0 := Aside0.mk hr0
 have HC0 := Aside0.mk hc0
 clear hr0 hc0
 have HB := Aside0.mk (Below.refl w.heap.size w)
 have H : (if (l0.length : Int) > 30 then (some false) else (spec_GoodValues.l0 k l0 l0 (l0.length : Int) 0)) = some r := h
 clear h
 by_cases c2 : (l0.length : Int) > 30
 ·rw [if_pos c2] at H
  have c2b0 : decide (30 < (l0.length : Int)) = true := decide_eq_true c2
  have c2b1 : decide (30 < l0.length) = true := decide_eq_true (by omega)
  clear c2
  obtain rfl := Option.some.inj H
  go_enter Try.func16, Try.ntmps16
  go_wp2
  repeat (go_quiet (fail); try go_wp2)
  go_ret
  exact ⟨by first | rfl | (simp [errW_none, errW_some] <;> rfl) | (simp [*, errW_none, errW_some] <;> rfl), by repeat (first | (with_reducible first | exact HB.out | apply below_alloc | apply pw_below_drewN | apply below_drew1) | exact HB.out)⟩
 ·rw [if_neg c2] at H
  have c2b0 : decide (30 < (l0.length : Int)) = false := decide_eq_false c2
  have c2b1 : decide (30 < l0.length) = false := decide_eq_false (by omega)
  clear c2
  have H' := Aside0.mk H
  clear H
  go_enter Try.func16, Try.ntmps16
  go_wp2
  repeat (go_quiet (fail); try go_wp2)
  go_loopg [10] k (fun kq v10 w' => ∃ (x10_1 : Int), v10 = .int .i64 x10_1 ∧ Aside0 (spec_GoodValues.l0 kq l0 l0 (l0.length : Int) x10_1 = some r) ∧ Aside0 (kq ≤ k) ∧ Aside0 (Below w.heap.size w w'))
  case atStart => exact ⟨(0), (by first | rfl | (simp; done) | (simp [*]; done) | exact not_isEmpty _ | exact (not_isEmpty _).symm | exact is_empty _ | exact (is_empty _).symm), H', ⟨Nat.le_refl _⟩, ⟨by repeat (first | (with_reducible first | exact HB.out | apply below_alloc | apply pw_below_drewN | apply below_drew1) | exact HB.out)⟩⟩
  case round =>
   clear H'
   try clear c1
   try clear c2
   try clear c2b0
   try clear c2b1
   try clear p2
   obtain ⟨x10_1, rfl, HA, HK1, HB⟩ := hrel
   cases gk with
   | zero => exact absurd HA.out (by simp [spec_GoodValues.l0])
   | succ k1 =>
    have H := HA.out
    clear HA
    simp only [spec_GoodValues.l0] at H
    by_cases c3 : x10_1 < (l0.length : Int)
    ·rw [if_pos c3] at H
     have c3b0 : decide (x10_1 < (l0.length : Int)) = true := decide_eq_true c3
     clear c3
     by_cases c4 : 0 ≤ x10_1
     ·rw [if_pos c4] at H
      have c4b0 : decide (0 ≤ x10_1) = true := decide_eq_true c4
      clear c4
      by_cases c5 : x10_1 < (l0.length : Int)
      ·rw [if_pos c5] at H
       have c5b0 : decide (x10_1 < (l0.length : Int)) = true := decide_eq_true c5
       clear c5
       replace H := Option.bind_eq_some_iff.mp H
       obtain ⟨t107, A60, H⟩ := H
       replace H : (if t107 = true then (if (((rd_T41 l0 x10_1).f2).size : Int) > 100 then (some false) else (if x10_1 > 0 then (if 0 ≤ (wrap64 (x10_1 - 1)) then (if (wrap64 (x10_1 - 1)) < (l0.length : Int) then (if ((Op.bytesLess (((rd_T41 l0 (wrap64 (x10_1 - 1))).f0).toList) (((rd_T41 l0 x10_1).f0).toList)) = true) then (spec_GoodValues.l0 k1 l0 l0 (l0.length : Int) (wrap64 (x10_1 + 1))) else (some false)) else (none)) else (none)) else (spec_GoodValues.l0 k1 l0 l0 (l0.length : Int) (wrap64 (x10_1 + 1))))) else (some false)) = some r := H
       have A6 := Aside0.mk A60
       clear A60
       by_cases c7 : t107 = true
       ·subst c7
        have H1 : (if (((rd_T41 l0 x10_1).f2).size : Int) > 100 then (some false) else (if x10_1 > 0 then (if 0 ≤ (wrap64 (x10_1 - 1)) then (if (wrap64 (x10_1 - 1)) < (l0.length : Int) then (if ((Op.bytesLess (((rd_T41 l0 (wrap64 (x10_1 - 1))).f0).toList) (((rd_T41 l0 x10_1).f0).toList)) = true) then (spec_GoodValues.l0 k1 l0 l0 (l0.length : Int) (wrap64 (x10_1 + 1))) else (some false)) else (none)) else (none)) else (spec_GoodValues.l0 k1 l0 l0 (l0.length : Int) (wrap64 (x10_1 + 1))))) = some r := by rw [if_pos rfl] at H; exact H
        clear H
        have H := H1
        clear H1
        by_cases c8 : (((rd_T41 l0 x10_1).f2).size : Int) > 100
        ·rw [if_pos c8] at H
         have c8b0 : decide (100 < (((rd_T41 l0 x10_1).f2).size : Int)) = true := decide_eq_true c8
         have c8b1 : decide (100 < ((rd_T41 l0 x10_1).f2).size) = true := decide_eq_true (by omega)
         clear c8
         obtain rfl := Option.some.inj H
         have p105 : 0 ≤ (x10_1 : Int) := of_decide_eq_true (by first | (with_reducible assumption) | assumption)
         have q105 : x10_1 < (l0.length : Int) := of_decide_eq_true (by first | (with_reducible assumption) | assumption)
         obtain ⟨ad105, e105, hx105_0, hx105_1, hx105_2⟩ := at_T41 HR0.out x10_1 p105 q105
         cases e105
         replace hx105_0 := (HB.out.cell (World.block_lt_of_cell? w _ hx105_0)).trans hx105_0
         replace hx105_1 := (HB.out.cell (World.block_lt_of_cell? w _ hx105_1)).trans hx105_1
         replace hx105_2 := (HB.out.cell (World.block_lt_of_cell? w _ hx105_2)).trans hx105_2
         replace p105 := eq_true p105
         replace q105 := eq_true q105
         go_wp2_with (first | ((with_reducible refine gate_dst (N := 4) rfl ?_); (try (refine gate_guard (by rfl) ?_; dsimp only)); refine box_event ?hg (N := 4) ?hd (cs := #[.string (⟨#[]⟩ : ByteArray), .int .i64 0, .string (⟨#[]⟩ : ByteArray)]) (t := 41) ?hr ?_; (case hd => rfl); (case hg => rfl); (case hr => first | (go_simp; done) | (go_simp; rfl)); intro gb106 hg w9 hbox hb; have n0_ := Aside0.mk (below_step (by repeat (first | (with_reducible first | exact HB.out | apply below_alloc | apply pw_below_drewN | apply below_drew1) | exact HB.out)) hb); have n1_ := Aside0.mk (hbox); have n2_ := Aside0.mk ((by rw [hg]; exact (below_size (by repeat (first | (with_reducible first | exact HB.out | apply below_alloc | apply pw_below_drewN | apply below_drew1) | exact HB.out))) : w.heap.size ≤ gb106)); have n3_ := Aside0.mk ((by rw [hg]; exact (below_size (by repeat (first | (with_reducible first | exact HB.out | apply below_alloc | apply pw_below_drewN | apply below_drew1) | exact HB.out))) : w.heap.size ≤ gb106)); clear HB; have HB := n0_; have BK106 := n1_; have GW106 := n2_; have GE106 := n3_; clear n0_ n1_ n2_ n3_; clear hb hbox hg; have hcz10_0 : w9.cell? ⟨gb106, 0, none⟩ = some (.string (⟨#[]⟩ : ByteArray)) := (blk_cell BK106.out 0).trans rfl; have hcz10_1 : w9.cell? ⟨gb106, 1, none⟩ = some (.int .i64 0) := (blk_cell BK106.out 1).trans rfl; have hcz10_2 : w9.cell? ⟨gb106, 2, none⟩ = some (.string (⟨#[]⟩ : ByteArray)) := (blk_cell BK106.out 2).trans rfl; have hfz10_0 := blk_frozen BK106.out 0; have hfz10_1 := blk_frozen BK106.out 1; have hfz10_2 := blk_frozen BK106.out 2) | ((with_reducible refine gate_store (t := 41) (p := 4) rfl ?_); (try (rw [drewN_self w9]; generalize hq_ : World.drewN w9 _ = w9; have n0_ := Aside0.mk (blk_at hq_ BK106.out); have n1_ := Aside0.mk (below_at hq_ HB.out); clear hq_ BK106 HB; have BK106 := n0_; have HB := n1_; clear n0_ n1_)); refine store_event (t := 41) (p := 4) (v := ?vo_w11) (w1 := (((w9.setCell ⟨gb106, 0, none⟩ (.string ((rd_T41 l0 x10_1).f0))).setCell ⟨gb106, 1, none⟩ (.int .i64 ((rd_T41 l0 x10_1).f1))).setCell ⟨gb106, 2, none⟩ (.string ((rd_T41 l0 x10_1).f2)))) ?hg ?ho ?hn ?hr ?_; (case ho => rfl); (case hg => rfl); (case hn => rfl); (case hr => first | (go_simp; done) | (go_simp; rfl) | (have hq0_ := (blk_cell BK106.out 0).trans (show _ = some _ from rfl); have hf0_ := blk_frozen BK106.out 0; have hq1_ := (blk_cell BK106.out 1).trans (show _ = some _ from rfl); have hf1_ := blk_frozen BK106.out 1; have hq2_ := (blk_cell BK106.out 2).trans (show _ = some _ from rfl); have hf2_ := blk_frozen BK106.out 2; first | (go_simp; done) | (go_simp; rfl))); intro w11 hw; have n0_ : Aside0 (w11.heap[gb106]? = some (.cells #[.string ((rd_T41 l0 x10_1).f0), .int .i64 ((rd_T41 l0 x10_1).f1), .string ((rd_T41 l0 x10_1).f2)] 41 (0, 0))) := ⟨(by rw [hw]; exact (by (with_reducible repeat (first | refine blk_drewN ?_ _ | refine blk_drew ?_ | refine blk_alloc ?_ _)); refine blk_put (cs := #[.string ((rd_T41 l0 x10_1).f0), .int .i64 ((rd_T41 l0 x10_1).f1), .string (⟨#[]⟩ : ByteArray)]) ?_ 2 _ rfl; (with_reducible repeat (first | refine blk_drewN ?_ _ | refine blk_drew ?_ | refine blk_alloc ?_ _)); refine blk_put (cs := #[.string ((rd_T41 l0 x10_1).f0), .int .i64 0, .string (⟨#[]⟩ : ByteArray)]) ?_ 1 _ rfl; (with_reducible repeat (first | refine blk_drewN ?_ _ | refine blk_drew ?_ | refine blk_alloc ?_ _)); refine blk_put (cs := #[.string (⟨#[]⟩ : ByteArray), .int .i64 0, .string (⟨#[]⟩ : ByteArray)]) ?_ 0 _ rfl; (with_reducible repeat (first | refine blk_drewN ?_ _ | refine blk_drew ?_ | refine blk_alloc ?_ _)); exact BK106.out))⟩; have n1_ : Aside0 (Below w.heap.size w w11) := ⟨(by rw [hw]; exact (by repeat (first | (with_reducible first | exact HB.out | apply below_alloc | apply pw_below_drewN | apply below_drew1 | refine below_set ?_ GE106.out) | exact HB.out)))⟩; clear hw; clear BK106; clear HB; have BK106 := n0_; have HB := n1_; clear n0_ n1_; have hcz12_0 : w11.cell? ⟨gb106, 0, none⟩ = some (.string ((rd_T41 l0 x10_1).f0)) := (blk_cell BK106.out 0).trans rfl; have hcz12_1 : w11.cell? ⟨gb106, 1, none⟩ = some (.int .i64 ((rd_T41 l0 x10_1).f1)) := (blk_cell BK106.out 1).trans rfl; have hcz12_2 : w11.cell? ⟨gb106, 2, none⟩ = some (.string ((rd_T41 l0 x10_1).f2)) := (blk_cell BK106.out 2).trans rfl; have hfz12_0 := blk_frozen BK106.out 0; have hfz12_1 := blk_frozen BK106.out 1; have hfz12_2 := blk_frozen BK106.out 2) | (go_at_call 26; (with_reducible refine (spec_GoodName.calls k1 ((rd_T41 l0 x10_1).f0) true _ A6.out).mono ?_); rintro e w' ⟨rfl, ⟨nd, rfl⟩⟩; (try first | exact ⟨rfl, _, World.drewN_drewN _ _ _⟩ | exact ⟨rfl, _, Eq.trans (World.drewN_drewN _ _ _) (congrArg (World.drewN _) (Nat.add_assoc _ _ _))⟩)))
         repeat (go_quiet (first | ((with_reducible refine gate_dst (N := 4) rfl ?_); (try (refine gate_guard (by rfl) ?_; dsimp only)); refine box_event ?hg (N := 4) ?hd (cs := #[.string (⟨#[]⟩ : ByteArray), .int .i64 0, .string (⟨#[]⟩ : ByteArray)]) (t := 41) ?hr ?_; (case hd => rfl); (case hg => rfl); (case hr => first | (go_simp; done) | (go_simp; rfl)); intro gb106 hg w9 hbox hb; have n0_ := Aside0.mk (below_step (by repeat (first | (with_reducible first | exact HB.out | apply below_alloc | apply pw_below_drewN | apply below_drew1) | exact HB.out)) hb); have n1_ := Aside0.mk (hbox); have n2_ := Aside0.mk ((by rw [hg]; exact (below_size (by repeat (first | (with_reducible first | exact HB.out | apply below_alloc | apply pw_below_drewN | apply below_drew1) | exact HB.out))) : w.heap.size ≤ gb106)); have n3_ := Aside0.mk ((by rw [hg]; exact (below_size (by repeat (first | (with_reducible first | exact HB.out | apply below_alloc | apply pw_below_drewN | apply below_drew1) | exact HB.out))) : w.heap.size ≤ gb106)); clear HB; have HB := n0_; have BK106 := n1_; have GW106 := n2_; have GE106 := n3_; clear n0_ n1_ n2_ n3_; clear hb hbox hg; have hcz10_0 : w9.cell? ⟨gb106, 0, none⟩ = some (.string (⟨#[]⟩ : ByteArray)) := (blk_cell BK106.out 0).trans rfl; have hcz10_1 : w9.cell? ⟨gb106, 1, none⟩ = some (.int .i64 0) := (blk_cell BK106.out 1).trans rfl; have hcz10_2 : w9.cell? ⟨gb106, 2, none⟩ = some (.string (⟨#[]⟩ : ByteArray)) := (blk_cell BK106.out 2).trans rfl; have hfz10_0 := blk_frozen BK106.out 0; have hfz10_1 := blk_frozen BK106.out 1; have hfz10_2 := blk_frozen BK106.out 2) | ((with_reducible refine gate_store (t := 41) (p := 4) rfl ?_); (try (rw [drewN_self w9]; generalize hq_ : World.drewN w9 _ = w9; have n0_ := Aside0.mk (blk_at hq_ BK106.out); have n1_ := Aside0.mk (below_at hq_ HB.out); clear hq_ BK106 HB; have BK106 := n0_; have HB := n1_; clear n0_ n1_)); refine store_event (t := 41) (p := 4) (v := ?vo_w11) (w1 := (((w9.setCell ⟨gb106, 0, none⟩ (.string ((rd_T41 l0 x10_1).f0))).setCell ⟨gb106, 1, none⟩ (.int .i64 ((rd_T41 l0 x10_1).f1))).setCell ⟨gb106, 2, none⟩ (.string ((rd_T41 l0 x10_1).f2)))) ?hg ?ho ?hn ?hr ?_; (case ho => rfl); (case hg => rfl); (case hn => rfl); (case hr => first | (go_simp; done) | (go_simp; rfl) | (have hq0_ := (blk_cell BK106.out 0).trans (show _ = some _ from rfl); have hf0_ := blk_frozen BK106.out 0; have hq1_ := (blk_cell BK106.out 1).trans (show _ = some _ from rfl); have hf1_ := blk_frozen BK106.out 1; have hq2_ := (blk_cell BK106.out 2).trans (show _ = some _ from rfl); have hf2_ := blk_frozen BK106.out 2; first | (go_simp; done) | (go_simp; rfl))); intro w11 hw; have n0_ : Aside0 (w11.heap[gb106]? = some (.cells #[.string ((rd_T41 l0 x10_1).f0), .int .i64 ((rd_T41 l0 x10_1).f1), .string ((rd_T41 l0 x10_1).f2)] 41 (0, 0))) := ⟨(by rw [hw]; exact (by (with_reducible repeat (first | refine blk_drewN ?_ _ | refine blk_drew ?_ | refine blk_alloc ?_ _)); refine blk_put (cs := #[.string ((rd_T41 l0 x10_1).f0), .int .i64 ((rd_T41 l0 x10_1).f1), .string (⟨#[]⟩ : ByteArray)]) ?_ 2 _ rfl; (with_reducible repeat (first | refine blk_drewN ?_ _ | refine blk_drew ?_ | refine blk_alloc ?_ _)); refine blk_put (cs := #[.string ((rd_T41 l0 x10_1).f0), .int .i64 0, .string (⟨#[]⟩ : ByteArray)]) ?_ 1 _ rfl; (with_reducible repeat (first | refine blk_drewN ?_ _ | refine blk_drew ?_ | refine blk_alloc ?_ _)); refine blk_put (cs := #[.string (⟨#[]⟩ : ByteArray), .int .i64 0, .string (⟨#[]⟩ : ByteArray)]) ?_ 0 _ rfl; (with_reducible repeat (first | refine blk_drewN ?_ _ | refine blk_drew ?_ | refine blk_alloc ?_ _)); exact BK106.out))⟩; have n1_ : Aside0 (Below w.heap.size w w11) := ⟨(by rw [hw]; exact (by repeat (first | (with_reducible first | exact HB.out | apply below_alloc | apply pw_below_drewN | apply below_drew1 | refine below_set ?_ GE106.out) | exact HB.out)))⟩; clear hw; clear BK106; clear HB; have BK106 := n0_; have HB := n1_; clear n0_ n1_; have hcz12_0 : w11.cell? ⟨gb106, 0, none⟩ = some (.string ((rd_T41 l0 x10_1).f0)) := (blk_cell BK106.out 0).trans rfl; have hcz12_1 : w11.cell? ⟨gb106, 1, none⟩ = some (.int .i64 ((rd_T41 l0 x10_1).f1)) := (blk_cell BK106.out 1).trans rfl; have hcz12_2 : w11.cell? ⟨gb106, 2, none⟩ = some (.string ((rd_T41 l0 x10_1).f2)) := (blk_cell BK106.out 2).trans rfl; have hfz12_0 := blk_frozen BK106.out 0; have hfz12_1 := blk_frozen BK106.out 1; have hfz12_2 := blk_frozen BK106.out 2) | (go_at_call 26; (with_reducible refine (spec_GoodName.calls k1 ((rd_T41 l0 x10_1).f0) true _ A6.out).mono ?_); rintro e w' ⟨rfl, ⟨nd, rfl⟩⟩; (try first | exact ⟨rfl, _, World.drewN_drewN _ _ _⟩ | exact ⟨rfl, _, Eq.trans (World.drewN_drewN _ _ _) (congrArg (World.drewN _) (Nat.add_assoc _ _ _))⟩))); try go_wp2_with (first | ((with_reducible refine gate_dst (N := 4) rfl ?_); (try (refine gate_guard (by rfl) ?_; dsimp only)); refine box_event ?hg (N := 4) ?hd (cs := #[.string (⟨#[]⟩ : ByteArray), .int .i64 0, .string (⟨#[]⟩ : ByteArray)]) (t := 41) ?hr ?_; (case hd => rfl); (case hg => rfl); (case hr => first | (go_simp; done) | (go_simp; rfl)); intro gb106 hg w9 hbox hb; have n0_ := Aside0.mk (below_step (by repeat (first | (with_reducible first | exact HB.out | apply below_alloc | apply pw_below_drewN | apply below_drew1) | exact HB.out)) hb); have n1_ := Aside0.mk (hbox); have n2_ := Aside0.mk ((by rw [hg]; exact (below_size (by repeat (first | (with_reducible first | exact HB.out | apply below_alloc | apply pw_below_drewN | apply below_drew1) | exact HB.out))) : w.heap.size ≤ gb106)); have n3_ := Aside0.mk ((by rw [hg]; exact (below_size (by repeat (first | (with_reducible first | exact HB.out | apply below_alloc | apply pw_below_drewN | apply below_drew1) | exact HB.out))) : w.heap.size ≤ gb106)); clear HB; have HB := n0_; have BK106 := n1_; have GW106 := n2_; have GE106 := n3_; clear n0_ n1_ n2_ n3_; clear hb hbox hg; have hcz10_0 : w9.cell? ⟨gb106, 0, none⟩ = some (.string (⟨#[]⟩ : ByteArray)) := (blk_cell BK106.out 0).trans rfl; have hcz10_1 : w9.cell? ⟨gb106, 1, none⟩ = some (.int .i64 0) := (blk_cell BK106.out 1).trans rfl; have hcz10_2 : w9.cell? ⟨gb106, 2, none⟩ = some (.string (⟨#[]⟩ : ByteArray)) := (blk_cell BK106.out 2).trans rfl; have hfz10_0 := blk_frozen BK106.out 0; have hfz10_1 := blk_frozen BK106.out 1; have hfz10_2 := blk_frozen BK106.out 2) | ((with_reducible refine gate_store (t := 41) (p := 4) rfl ?_); (try (rw [drewN_self w9]; generalize hq_ : World.drewN w9 _ = w9; have n0_ := Aside0.mk (blk_at hq_ BK106.out); have n1_ := Aside0.mk (below_at hq_ HB.out); clear hq_ BK106 HB; have BK106 := n0_; have HB := n1_; clear n0_ n1_)); refine store_event (t := 41) (p := 4) (v := ?vo_w11) (w1 := (((w9.setCell ⟨gb106, 0, none⟩ (.string ((rd_T41 l0 x10_1).f0))).setCell ⟨gb106, 1, none⟩ (.int .i64 ((rd_T41 l0 x10_1).f1))).setCell ⟨gb106, 2, none⟩ (.string ((rd_T41 l0 x10_1).f2)))) ?hg ?ho ?hn ?hr ?_; (case ho => rfl); (case hg => rfl); (case hn => rfl); (case hr => first | (go_simp; done) | (go_simp; rfl) | (have hq0_ := (blk_cell BK106.out 0).trans (show _ = some _ from rfl); have hf0_ := blk_frozen BK106.out 0; have hq1_ := (blk_cell BK106.out 1).trans (show _ = some _ from rfl); have hf1_ := blk_frozen BK106.out 1; have hq2_ := (blk_cell BK106.out 2).trans (show _ = some _ from rfl); have hf2_ := blk_frozen BK106.out 2; first | (go_simp; done) | (go_simp; rfl))); intro w11 hw; have n0_ : Aside0 (w11.heap[gb106]? = some (.cells #[.string ((rd_T41 l0 x10_1).f0), .int .i64 ((rd_T41 l0 x10_1).f1), .string ((rd_T41 l0 x10_1).f2)] 41 (0, 0))) := ⟨(by rw [hw]; exact (by (with_reducible repeat (first | refine blk_drewN ?_ _ | refine blk_drew ?_ | refine blk_alloc ?_ _)); refine blk_put (cs := #[.string ((rd_T41 l0 x10_1).f0), .int .i64 ((rd_T41 l0 x10_1).f1), .string (⟨#[]⟩ : ByteArray)]) ?_ 2 _ rfl; (with_reducible repeat (first | refine blk_drewN ?_ _ | refine blk_drew ?_ | refine blk_alloc ?_ _)); refine blk_put (cs := #[.string ((rd_T41 l0 x10_1).f0), .int .i64 0, .string (⟨#[]⟩ : ByteArray)]) ?_ 1 _ rfl; (with_reducible repeat (first | refine blk_drewN ?_ _ | refine blk_drew ?_ | refine blk_alloc ?_ _)); refine blk_put (cs := #[.string (⟨#[]⟩ : ByteArray), .int .i64 0, .string (⟨#[]⟩ : ByteArray)]) ?_ 0 _ rfl; (with_reducible repeat (first | refine blk_drewN ?_ _ | refine blk_drew ?_ | refine blk_alloc ?_ _)); exact BK106.out))⟩; have n1_ : Aside0 (Below w.heap.size w w11) := ⟨(by rw [hw]; exact (by repeat (first | (with_reducible first | exact HB.out | apply below_alloc | apply pw_below_drewN | apply below_drew1 | refine below_set ?_ GE106.out) | exact HB.out)))⟩; clear hw; clear BK106; clear HB; have BK106 := n0_; have HB := n1_; clear n0_ n1_; have hcz12_0 : w11.cell? ⟨gb106, 0, none⟩ = some (.string ((rd_T41 l0 x10_1).f0)) := (blk_cell BK106.out 0).trans rfl; have hcz12_1 : w11.cell? ⟨gb106, 1, none⟩ = some (.int .i64 ((rd_T41 l0 x10_1).f1)) := (blk_cell BK106.out 1).trans rfl; have hcz12_2 : w11.cell? ⟨gb106, 2, none⟩ = some (.string ((rd_T41 l0 x10_1).f2)) := (blk_cell BK106.out 2).trans rfl; have hfz12_0 := blk_frozen BK106.out 0; have hfz12_1 := blk_frozen BK106.out 1; have hfz12_2 := blk_frozen BK106.out 2) | (go_at_call 26; (with_reducible refine (spec_GoodName.calls k1 ((rd_T41 l0 x10_1).f0) true _ A6.out).mono ?_); rintro e w' ⟨rfl, ⟨nd, rfl⟩⟩; (try first | exact ⟨rfl, _, World.drewN_drewN _ _ _⟩ | exact ⟨rfl, _, Eq.trans (World.drewN_drewN _ _ _) (congrArg (World.drewN _) (Nat.add_assoc _ _ _))⟩))))
         go_ret
         exact ⟨by first | rfl | (simp [errW_none, errW_some] <;> rfl) | (simp [*, errW_none, errW_some] <;> rfl), by repeat (first | (with_reducible first | exact HB.out | apply below_alloc | apply pw_below_drewN | apply below_drew1 | refine below_set ?_ GE106.out) | exact HB.out)⟩
        ·rw [if_neg c8] at H
         have c8b0 : decide (100 < (((rd_T41 l0 x10_1).f2).size : Int)) = false := decide_eq_false c8
         have c8b1 : decide (100 < ((rd_T41 l0 x10_1).f2).size) = false := decide_eq_false (by omega)
         clear c8
         by_cases c13 : x10_1 > 0
         ·rw [if_pos c13] at H
          have c13b0 : decide (0 < x10_1) = true := decide_eq_true c13
          clear c13
          obtain ⟨ji14, hji14⟩ : ∃ j_ : Int, (wrap64 (x10_1 - 1)) = j_ := ⟨_, rfl⟩
          replace H : (if 0 ≤ (ji14) then (if (ji14) < (l0.length : Int) then (if ((Op.bytesLess (((rd_T41 l0 (ji14)).f0).toList) (((rd_T41 l0 x10_1).f0).toList)) = true) then (spec_GoodValues.l0 k1 l0 l0 (l0.length : Int) (wrap64 (x10_1 + 1))) else (some false)) else (none)) else (none)) = some r := by first | (rw [hji14] at H; exact H) | (simp only [hji14] at H ⊢; exact H)
          (try rw [hji14] at A6)
          have hji14w : (IntKind.i64.wrap (x10_1 - 1)) = ji14 := (i64_w _).trans hji14
          by_cases c15 : 0 ≤ (ji14)
          ·rw [if_pos c15] at H
           have c15b0 : decide (0 ≤ (ji14)) = true := decide_eq_true c15
           clear c15
           by_cases c16 : (ji14) < (l0.length : Int)
           ·rw [if_pos c16] at H
            have c16b0 : decide ((ji14) < (l0.length : Int)) = true := decide_eq_true c16
            clear c16
            by_cases c17 : ((Op.bytesLess (((rd_T41 l0 (ji14)).f0).toList) (((rd_T41 l0 x10_1).f0).toList)) = true)
            ·rw [if_pos c17] at H
             have c17b0 : (Op.bytesLess (((rd_T41 l0 (ji14)).f0).toList) (((rd_T41 l0 x10_1).f0).toList)) = true := c17
             clear c17
             have H' := Aside0.mk H
             clear H
             have p105 : 0 ≤ (x10_1 : Int) := of_decide_eq_true (by first | (with_reducible assumption) | assumption)
             have q105 : x10_1 < (l0.length : Int) := of_decide_eq_true (by first | (with_reducible assumption) | assumption)
             obtain ⟨ad105, e105, hx105_0, hx105_1, hx105_2⟩ := at_T41 HR0.out x10_1 p105 q105
             cases e105
             replace hx105_0 := (HB.out.cell (World.block_lt_of_cell? w _ hx105_0)).trans hx105_0
             replace hx105_1 := (HB.out.cell (World.block_lt_of_cell? w _ hx105_1)).trans hx105_1
             replace hx105_2 := (HB.out.cell (World.block_lt_of_cell? w _ hx105_2)).trans hx105_2
             replace p105 := eq_true p105
             replace q105 := eq_true q105
             go_wp2_with (first | ((with_reducible refine gate_dst (N := 4) rfl ?_); (try (refine gate_guard (by rfl) ?_; dsimp only)); refine box_event ?hg (N := 4) ?hd (cs := #[.string (⟨#[]⟩ : ByteArray), .int .i64 0, .string (⟨#[]⟩ : ByteArray)]) (t := 41) ?hr ?_; (case hd => rfl); (case hg => rfl); (case hr => first | (go_simp; done) | (go_simp; rfl)); intro gb106 hg w18 hbox hb; have n0_ := Aside0.mk (below_step (by repeat (first | (with_reducible first | exact HB.out | apply below_alloc | apply pw_below_drewN | apply below_drew1) | exact HB.out)) hb); have n1_ := Aside0.mk (hbox); have n2_ := Aside0.mk ((by rw [hg]; exact (below_size (by repeat (first | (with_reducible first | exact HB.out | apply below_alloc | apply pw_below_drewN | apply below_drew1) | exact HB.out))) : w.heap.size ≤ gb106)); have n3_ := Aside0.mk ((by rw [hg]; exact (below_size (by repeat (first | (with_reducible first | exact HB.out | apply below_alloc | apply pw_below_drewN | apply below_drew1) | exact HB.out))) : w.heap.size ≤ gb106)); clear HB; have HB := n0_; have BK106 := n1_; have GW106 := n2_; have GE106 := n3_; clear n0_ n1_ n2_ n3_; clear hb hbox hg; have hcz19_0 : w18.cell? ⟨gb106, 0, none⟩ = some (.string (⟨#[]⟩ : ByteArray)) := (blk_cell BK106.out 0).trans rfl; have hcz19_1 : w18.cell? ⟨gb106, 1, none⟩ = some (.int .i64 0) := (blk_cell BK106.out 1).trans rfl; have hcz19_2 : w18.cell? ⟨gb106, 2, none⟩ = some (.string (⟨#[]⟩ : ByteArray)) := (blk_cell BK106.out 2).trans rfl; have hfz19_0 := blk_frozen BK106.out 0; have hfz19_1 := blk_frozen BK106.out 1; have hfz19_2 := blk_frozen BK106.out 2) | ((with_reducible refine gate_store (t := 41) (p := 4) rfl ?_); (try (rw [drewN_self w18]; generalize hq_ : World.drewN w18 _ = w18; have n0_ := Aside0.mk (blk_at hq_ BK106.out); have n1_ := Aside0.mk (below_at hq_ HB.out); clear hq_ BK106 HB; have BK106 := n0_; have HB := n1_; clear n0_ n1_)); refine store_event (t := 41) (p := 4) (v := ?vo_w20) (w1 := (((w18.setCell ⟨gb106, 0, none⟩ (.string ((rd_T41 l0 x10_1).f0))).setCell ⟨gb106, 1, none⟩ (.int .i64 ((rd_T41 l0 x10_1).f1))).setCell ⟨gb106, 2, none⟩ (.string ((rd_T41 l0 x10_1).f2)))) ?hg ?ho ?hn ?hr ?_; (case ho => rfl); (case hg => rfl); (case hn => rfl); (case hr => first | (go_simp; done) | (go_simp; rfl) | (have hq0_ := (blk_cell BK106.out 0).trans (show _ = some _ from rfl); have hf0_ := blk_frozen BK106.out 0; have hq1_ := (blk_cell BK106.out 1).trans (show _ = some _ from rfl); have hf1_ := blk_frozen BK106.out 1; have hq2_ := (blk_cell BK106.out 2).trans (show _ = some _ from rfl); have hf2_ := blk_frozen BK106.out 2; first | (go_simp; done) | (go_simp; rfl))); intro w20 hw; have n0_ : Aside0 (w20.heap[gb106]? = some (.cells #[.string ((rd_T41 l0 x10_1).f0), .int .i64 ((rd_T41 l0 x10_1).f1), .string ((rd_T41 l0 x10_1).f2)] 41 (0, 0))) := ⟨(by rw [hw]; exact (by (with_reducible repeat (first | refine blk_drewN ?_ _ | refine blk_drew ?_ | refine blk_alloc ?_ _)); refine blk_put (cs := #[.string ((rd_T41 l0 x10_1).f0), .int .i64 ((rd_T41 l0 x10_1).f1), .string (⟨#[]⟩ : ByteArray)]) ?_ 2 _ rfl; (with_reducible repeat (first | refine blk_drewN ?_ _ | refine blk_drew ?_ | refine blk_alloc ?_ _)); refine blk_put (cs := #[.string ((rd_T41 l0 x10_1).f0), .int .i64 0, .string (⟨#[]⟩ : ByteArray)]) ?_ 1 _ rfl; (with_reducible repeat (first | refine blk_drewN ?_ _ | refine blk_drew ?_ | refine blk_alloc ?_ _)); refine blk_put (cs := #[.string (⟨#[]⟩ : ByteArray), .int .i64 0, .string (⟨#[]⟩ : ByteArray)]) ?_ 0 _ rfl; (with_reducible repeat (first | refine blk_drewN ?_ _ | refine blk_drew ?_ | refine blk_alloc ?_ _)); exact BK106.out))⟩; have n1_ : Aside0 (Below w.heap.size w w20) := ⟨(by rw [hw]; exact (by repeat (first | (with_reducible first | exact HB.out | apply below_alloc | apply pw_below_drewN | apply below_drew1 | refine below_set ?_ GE106.out) | exact HB.out)))⟩; clear hw; clear BK106; clear HB; have BK106 := n0_; have HB := n1_; clear n0_ n1_; have hcz21_0 : w20.cell? ⟨gb106, 0, none⟩ = some (.string ((rd_T41 l0 x10_1).f0)) := (blk_cell BK106.out 0).trans rfl; have hcz21_1 : w20.cell? ⟨gb106, 1, none⟩ = some (.int .i64 ((rd_T41 l0 x10_1).f1)) := (blk_cell BK106.out 1).trans rfl; have hcz21_2 : w20.cell? ⟨gb106, 2, none⟩ = some (.string ((rd_T41 l0 x10_1).f2)) := (blk_cell BK106.out 2).trans rfl; have hfz21_0 := blk_frozen BK106.out 0; have hfz21_1 := blk_frozen BK106.out 1; have hfz21_2 := blk_frozen BK106.out 2) | (go_at_call 26; (with_reducible refine (spec_GoodName.calls k1 ((rd_T41 l0 x10_1).f0) true _ A6.out).mono ?_); rintro e w' ⟨rfl, ⟨nd, rfl⟩⟩; (try first | exact ⟨rfl, _, World.drewN_drewN _ _ _⟩ | exact ⟨rfl, _, Eq.trans (World.drewN_drewN _ _ _) (congrArg (World.drewN _) (Nat.add_assoc _ _ _))⟩); have p108 : 0 ≤ ((ji14) : Int) := of_decide_eq_true (by first | (with_reducible assumption) | assumption); have q108 : (ji14) < (l0.length : Int) := of_decide_eq_true (by first | (with_reducible assumption) | assumption); obtain ⟨ad108, e108, hx108_0, hx108_1, hx108_2⟩ := at_T41 HR0.out (ji14) p108 q108; obtain rfl : ad105 = ad108 := (by injection e108); replace hx108_0 := (HB.out.cell (World.block_lt_of_cell? w _ hx108_0)).trans hx108_0; replace hx108_1 := (HB.out.cell (World.block_lt_of_cell? w _ hx108_1)).trans hx108_1; replace hx108_2 := (HB.out.cell (World.block_lt_of_cell? w _ hx108_2)).trans hx108_2; replace p108 := eq_true p108; replace q108 := eq_true q108))
             repeat (go_quiet (first | ((with_reducible refine gate_dst (N := 4) rfl ?_); (try (refine gate_guard (by rfl) ?_; dsimp only)); refine box_event ?hg (N := 4) ?hd (cs := #[.string (⟨#[]⟩ : ByteArray), .int .i64 0, .string (⟨#[]⟩ : ByteArray)]) (t := 41) ?hr ?_; (case hd => rfl); (case hg => rfl); (case hr => first | (go_simp; done) | (go_simp; rfl)); intro gb106 hg w18 hbox hb; have n0_ := Aside0.mk (below_step (by repeat (first | (with_reducible first | exact HB.out | apply below_alloc | apply pw_below_drewN | apply below_drew1) | exact HB.out)) hb); have n1_ := Aside0.mk (hbox); have n2_ := Aside0.mk ((by rw [hg]; exact (below_size (by repeat (first | (with_reducible first | exact HB.out | apply below_alloc | apply pw_below_drewN | apply below_drew1) | exact HB.out))) : w.heap.size ≤ gb106)); have n3_ := Aside0.mk ((by rw [hg]; exact (below_size (by repeat (first | (with_reducible first | exact HB.out | apply below_alloc | apply pw_below_drewN | apply below_drew1) | exact HB.out))) : w.heap.size ≤ gb106)); clear HB; have HB := n0_; have BK106 := n1_; have GW106 := n2_; have GE106 := n3_; clear n0_ n1_ n2_ n3_; clear hb hbox hg; have hcz19_0 : w18.cell? ⟨gb106, 0, none⟩ = some (.string (⟨#[]⟩ : ByteArray)) := (blk_cell BK106.out 0).trans rfl; have hcz19_1 : w18.cell? ⟨gb106, 1, none⟩ = some (.int .i64 0) := (blk_cell BK106.out 1).trans rfl; have hcz19_2 : w18.cell? ⟨gb106, 2, none⟩ = some (.string (⟨#[]⟩ : ByteArray)) := (blk_cell BK106.out 2).trans rfl; have hfz19_0 := blk_frozen BK106.out 0; have hfz19_1 := blk_frozen BK106.out 1; have hfz19_2 := blk_frozen BK106.out 2) | ((with_reducible refine gate_store (t := 41) (p := 4) rfl ?_); (try (rw [drewN_self w18]; generalize hq_ : World.drewN w18 _ = w18; have n0_ := Aside0.mk (blk_at hq_ BK106.out); have n1_ := Aside0.mk (below_at hq_ HB.out); clear hq_ BK106 HB; have BK106 := n0_; have HB := n1_; clear n0_ n1_)); refine store_event (t := 41) (p := 4) (v := ?vo_w20) (w1 := (((w18.setCell ⟨gb106, 0, none⟩ (.string ((rd_T41 l0 x10_1).f0))).setCell ⟨gb106, 1, none⟩ (.int .i64 ((rd_T41 l0 x10_1).f1))).setCell ⟨gb106, 2, none⟩ (.string ((rd_T41 l0 x10_1).f2)))) ?hg ?ho ?hn ?hr ?_; (case ho => rfl); (case hg => rfl); (case hn => rfl); (case hr => first | (go_simp; done) | (go_simp; rfl) | (have hq0_ := (blk_cell BK106.out 0).trans (show _ = some _ from rfl); have hf0_ := blk_frozen BK106.out 0; have hq1_ := (blk_cell BK106.out 1).trans (show _ = some _ from rfl); have hf1_ := blk_frozen BK106.out 1; have hq2_ := (blk_cell BK106.out 2).trans (show _ = some _ from rfl); have hf2_ := blk_frozen BK106.out 2; first | (go_simp; done) | (go_simp; rfl))); intro w20 hw; have n0_ : Aside0 (w20.heap[gb106]? = some (.cells #[.string ((rd_T41 l0 x10_1).f0), .int .i64 ((rd_T41 l0 x10_1).f1), .string ((rd_T41 l0 x10_1).f2)] 41 (0, 0))) := ⟨(by rw [hw]; exact (by (with_reducible repeat (first | refine blk_drewN ?_ _ | refine blk_drew ?_ | refine blk_alloc ?_ _)); refine blk_put (cs := #[.string ((rd_T41 l0 x10_1).f0), .int .i64 ((rd_T41 l0 x10_1).f1), .string (⟨#[]⟩ : ByteArray)]) ?_ 2 _ rfl; (with_reducible repeat (first | refine blk_drewN ?_ _ | refine blk_drew ?_ | refine blk_alloc ?_ _)); refine blk_put (cs := #[.string ((rd_T41 l0 x10_1).f0), .int .i64 0, .string (⟨#[]⟩ : ByteArray)]) ?_ 1 _ rfl; (with_reducible repeat (first | refine blk_drewN ?_ _ | refine blk_drew ?_ | refine blk_alloc ?_ _)); refine blk_put (cs := #[.string (⟨#[]⟩ : ByteArray), .int .i64 0, .string (⟨#[]⟩ : ByteArray)]) ?_ 0 _ rfl; (with_reducible repeat (first | refine blk_drewN ?_ _ | refine blk_drew ?_ | refine blk_alloc ?_ _)); exact BK106.out))⟩; have n1_ : Aside0 (Below w.heap.size w w20) := ⟨(by rw [hw]; exact (by repeat (first | (with_reducible first | exact HB.out | apply below_alloc | apply pw_below_drewN | apply below_drew1 | refine below_set ?_ GE106.out) | exact HB.out)))⟩; clear hw; clear BK106; clear HB; have BK106 := n0_; have HB := n1_; clear n0_ n1_; have hcz21_0 : w20.cell? ⟨gb106, 0, none⟩ = some (.string ((rd_T41 l0 x10_1).f0)) := (blk_cell BK106.out 0).trans rfl; have hcz21_1 : w20.cell? ⟨gb106, 1, none⟩ = some (.int .i64 ((rd_T41 l0 x10_1).f1)) := (blk_cell BK106.out 1).trans rfl; have hcz21_2 : w20.cell? ⟨gb106, 2, none⟩ = some (.string ((rd_T41 l0 x10_1).f2)) := (blk_cell BK106.out 2).trans rfl; have hfz21_0 := blk_frozen BK106.out 0; have hfz21_1 := blk_frozen BK106.out 1; have hfz21_2 := blk_frozen BK106.out 2) | (go_at_call 26; (with_reducible refine (spec_GoodName.calls k1 ((rd_T41 l0 x10_1).f0) true _ A6.out).mono ?_); rintro e w' ⟨rfl, ⟨nd, rfl⟩⟩; (try first | exact ⟨rfl, _, World.drewN_drewN _ _ _⟩ | exact ⟨rfl, _, Eq.trans (World.drewN_drewN _ _ _) (congrArg (World.drewN _) (Nat.add_assoc _ _ _))⟩); have p108 : 0 ≤ ((ji14) : Int) := of_decide_eq_true (by first | (with_reducible assumption) | assumption); have q108 : (ji14) < (l0.length : Int) := of_decide_eq_true (by first | (with_reducible assumption) | assumption); obtain ⟨ad108, e108, hx108_0, hx108_1, hx108_2⟩ := at_T41 HR0.out (ji14) p108 q108; obtain rfl : ad105 = ad108 := (by injection e108); replace hx108_0 := (HB.out.cell (World.block_lt_of_cell? w _ hx108_0)).trans hx108_0; replace hx108_1 := (HB.out.cell (World.block_lt_of_cell? w _ hx108_1)).trans hx108_1; replace hx108_2 := (HB.out.cell (World.block_lt_of_cell? w _ hx108_2)).trans hx108_2; replace p108 := eq_true p108; replace q108 := eq_true q108)); try go_wp2_with (first | ((with_reducible refine gate_dst (N := 4) rfl ?_); (try (refine gate_guard (by rfl) ?_; dsimp only)); refine box_event ?hg (N := 4) ?hd (cs := #[.string (⟨#[]⟩ : ByteArray), .int .i64 0, .string (⟨#[]⟩ : ByteArray)]) (t := 41) ?hr ?_; (case hd => rfl); (case hg => rfl); (case hr => first | (go_simp; done) | (go_simp; rfl)); intro gb106 hg w18 hbox hb; have n0_ := Aside0.mk (below_step (by repeat (first | (with_reducible first | exact HB.out | apply below_alloc | apply pw_below_drewN | apply below_drew1) | exact HB.out)) hb); have n1_ := Aside0.mk (hbox); have n2_ := Aside0.mk ((by rw [hg]; exact (below_size (by repeat (first | (with_reducible first | exact HB.out | apply below_alloc | apply pw_below_drewN | apply below_drew1) | exact HB.out))) : w.heap.size ≤ gb106)); have n3_ := Aside0.mk ((by rw [hg]; exact (below_size (by repeat (first | (with_reducible first | exact HB.out | apply below_alloc | apply pw_below_drewN | apply below_drew1) | exact HB.out))) : w.heap.size ≤ gb106)); clear HB; have HB := n0_; have BK106 := n1_; have GW106 := n2_; have GE106 := n3_; clear n0_ n1_ n2_ n3_; clear hb hbox hg; have hcz19_0 : w18.cell? ⟨gb106, 0, none⟩ = some (.string (⟨#[]⟩ : ByteArray)) := (blk_cell BK106.out 0).trans rfl; have hcz19_1 : w18.cell? ⟨gb106, 1, none⟩ = some (.int .i64 0) := (blk_cell BK106.out 1).trans rfl; have hcz19_2 : w18.cell? ⟨gb106, 2, none⟩ = some (.string (⟨#[]⟩ : ByteArray)) := (blk_cell BK106.out 2).trans rfl; have hfz19_0 := blk_frozen BK106.out 0; have hfz19_1 := blk_frozen BK106.out 1; have hfz19_2 := blk_frozen BK106.out 2) | ((with_reducible refine gate_store (t := 41) (p := 4) rfl ?_); (try (rw [drewN_self w18]; generalize hq_ : World.drewN w18 _ = w18; have n0_ := Aside0.mk (blk_at hq_ BK106.out); have n1_ := Aside0.mk (below_at hq_ HB.out); clear hq_ BK106 HB; have BK106 := n0_; have HB := n1_; clear n0_ n1_)); refine store_event (t := 41) (p := 4) (v := ?vo_w20) (w1 := (((w18.setCell ⟨gb106, 0, none⟩ (.string ((rd_T41 l0 x10_1).f0))).setCell ⟨gb106, 1, none⟩ (.int .i64 ((rd_T41 l0 x10_1).f1))).setCell ⟨gb106, 2, none⟩ (.string ((rd_T41 l0 x10_1).f2)))) ?hg ?ho ?hn ?hr ?_; (case ho => rfl); (case hg => rfl); (case hn => rfl); (case hr => first | (go_simp; done) | (go_simp; rfl) | (have hq0_ := (blk_cell BK106.out 0).trans (show _ = some _ from rfl); have hf0_ := blk_frozen BK106.out 0; have hq1_ := (blk_cell BK106.out 1).trans (show _ = some _ from rfl); have hf1_ := blk_frozen BK106.out 1; have hq2_ := (blk_cell BK106.out 2).trans (show _ = some _ from rfl); have hf2_ := blk_frozen BK106.out 2; first | (go_simp; done) | (go_simp; rfl))); intro w20 hw; have n0_ : Aside0 (w20.heap[gb106]? = some (.cells #[.string ((rd_T41 l0 x10_1).f0), .int .i64 ((rd_T41 l0 x10_1).f1), .string ((rd_T41 l0 x10_1).f2)] 41 (0, 0))) := ⟨(by rw [hw]; exact (by (with_reducible repeat (first | refine blk_drewN ?_ _ | refine blk_drew ?_ | refine blk_alloc ?_ _)); refine blk_put (cs := #[.string ((rd_T41 l0 x10_1).f0), .int .i64 ((rd_T41 l0 x10_1).f1), .string (⟨#[]⟩ : ByteArray)]) ?_ 2 _ rfl; (with_reducible repeat (first | refine blk_drewN ?_ _ | refine blk_drew ?_ | refine blk_alloc ?_ _)); refine blk_put (cs := #[.string ((rd_T41 l0 x10_1).f0), .int .i64 0, .string (⟨#[]⟩ : ByteArray)]) ?_ 1 _ rfl; (with_reducible repeat (first | refine blk_drewN ?_ _ | refine blk_drew ?_ | refine blk_alloc ?_ _)); refine blk_put (cs := #[.string (⟨#[]⟩ : ByteArray), .int .i64 0, .string (⟨#[]⟩ : ByteArray)]) ?_ 0 _ rfl; (with_reducible repeat (first | refine blk_drewN ?_ _ | refine blk_drew ?_ | refine blk_alloc ?_ _)); exact BK106.out))⟩; have n1_ : Aside0 (Below w.heap.size w w20) := ⟨(by rw [hw]; exact (by repeat (first | (with_reducible first | exact HB.out | apply below_alloc | apply pw_below_drewN | apply below_drew1 | refine below_set ?_ GE106.out) | exact HB.out)))⟩; clear hw; clear BK106; clear HB; have BK106 := n0_; have HB := n1_; clear n0_ n1_; have hcz21_0 : w20.cell? ⟨gb106, 0, none⟩ = some (.string ((rd_T41 l0 x10_1).f0)) := (blk_cell BK106.out 0).trans rfl; have hcz21_1 : w20.cell? ⟨gb106, 1, none⟩ = some (.int .i64 ((rd_T41 l0 x10_1).f1)) := (blk_cell BK106.out 1).trans rfl; have hcz21_2 : w20.cell? ⟨gb106, 2, none⟩ = some (.string ((rd_T41 l0 x10_1).f2)) := (blk_cell BK106.out 2).trans rfl; have hfz21_0 := blk_frozen BK106.out 0; have hfz21_1 := blk_frozen BK106.out 1; have hfz21_2 := blk_frozen BK106.out 2) | (go_at_call 26; (with_reducible refine (spec_GoodName.calls k1 ((rd_T41 l0 x10_1).f0) true _ A6.out).mono ?_); rintro e w' ⟨rfl, ⟨nd, rfl⟩⟩; (try first | exact ⟨rfl, _, World.drewN_drewN _ _ _⟩ | exact ⟨rfl, _, Eq.trans (World.drewN_drewN _ _ _) (congrArg (World.drewN _) (Nat.add_assoc _ _ _))⟩); have p108 : 0 ≤ ((ji14) : Int) := of_decide_eq_true (by first | (with_reducible assumption) | assumption); have q108 : (ji14) < (l0.length : Int) := of_decide_eq_true (by first | (with_reducible assumption) | assumption); obtain ⟨ad108, e108, hx108_0, hx108_1, hx108_2⟩ := at_T41 HR0.out (ji14) p108 q108; obtain rfl : ad105 = ad108 := (by injection e108); replace hx108_0 := (HB.out.cell (World.block_lt_of_cell? w _ hx108_0)).trans hx108_0; replace hx108_1 := (HB.out.cell (World.block_lt_of_cell? w _ hx108_1)).trans hx108_1; replace hx108_2 := (HB.out.cell (World.block_lt_of_cell? w _ hx108_2)).trans hx108_2; replace p108 := eq_true p108; replace q108 := eq_true q108)))
             go_roundg k1
             case measure => have := HK1.out; omega
             case rel => exact ⟨(wrap64 (x10_1 + 1)), (by first | rfl | (simp; done) | (simp [*]; done) | exact not_isEmpty _ | exact (not_isEmpty _).symm | exact is_empty _ | exact (is_empty _).symm), H', ⟨by have := HK1.out; omega⟩, ⟨by repeat (first | (with_reducible first | exact HB.out | apply below_alloc | apply pw_below_drewN | apply below_drew1 | refine below_set ?_ GE106.out) | exact HB.out)⟩⟩
            ·rw [if_neg c17] at H
             have c17b0 : (Op.bytesLess (((rd_T41 l0 (ji14)).f0).toList) (((rd_T41 l0 x10_1).f0).toList)) = false := by simpa using c17
             clear c17
             obtain rfl := Option.some.inj H
             have p105 : 0 ≤ (x10_1 : Int) := of_decide_eq_true (by first | (with_reducible assumption) | assumption)
             have q105 : x10_1 < (l0.length : Int) := of_decide_eq_true (by first | (with_reducible assumption) | assumption)
             obtain ⟨ad105, e105, hx105_0, hx105_1, hx105_2⟩ := at_T41 HR0.out x10_1 p105 q105
             cases e105
             replace hx105_0 := (HB.out.cell (World.block_lt_of_cell? w _ hx105_0)).trans hx105_0
             replace hx105_1 := (HB.out.cell (World.block_lt_of_cell? w _ hx105_1)).trans hx105_1
             replace hx105_2 := (HB.out.cell (World.block_lt_of_cell? w _ hx105_2)).trans hx105_2
             replace p105 := eq_true p105
             replace q105 := eq_true q105
             go_wp2_with (first | ((with_reducible refine gate_dst (N := 4) rfl ?_); (try (refine gate_guard (by rfl) ?_; dsimp only)); refine box_event ?hg (N := 4) ?hd (cs := #[.string (⟨#[]⟩ : ByteArray), .int .i64 0, .string (⟨#[]⟩ : ByteArray)]) (t := 41) ?hr ?_; (case hd => rfl); (case hg => rfl); (case hr => first | (go_simp; done) | (go_simp; rfl)); intro gb106 hg w22 hbox hb; have n0_ := Aside0.mk (below_step (by repeat (first | (with_reducible first | exact HB.out | apply below_alloc | apply pw_below_drewN | apply below_drew1) | exact HB.out)) hb); have n1_ := Aside0.mk (hbox); have n2_ := Aside0.mk ((by rw [hg]; exact (below_size (by repeat (first | (with_reducible first | exact HB.out | apply below_alloc | apply pw_below_drewN | apply below_drew1) | exact HB.out))) : w.heap.size ≤ gb106)); have n3_ := Aside0.mk ((by rw [hg]; exact (below_size (by repeat (first | (with_reducible first | exact HB.out | apply below_alloc | apply pw_below_drewN | apply below_drew1) | exact HB.out))) : w.heap.size ≤ gb106)); clear HB; have HB := n0_; have BK106 := n1_; have GW106 := n2_; have GE106 := n3_; clear n0_ n1_ n2_ n3_; clear hb hbox hg; have hcz23_0 : w22.cell? ⟨gb106, 0, none⟩ = some (.string (⟨#[]⟩ : ByteArray)) := (blk_cell BK106.out 0).trans rfl; have hcz23_1 : w22.cell? ⟨gb106, 1, none⟩ = some (.int .i64 0) := (blk_cell BK106.out 1).trans rfl; have hcz23_2 : w22.cell? ⟨gb106, 2, none⟩ = some (.string (⟨#[]⟩ : ByteArray)) := (blk_cell BK106.out 2).trans rfl; have hfz23_0 := blk_frozen BK106.out 0; have hfz23_1 := blk_frozen BK106.out 1; have hfz23_2 := blk_frozen BK106.out 2) | ((with_reducible refine gate_store (t := 41) (p := 4) rfl ?_); (try (rw [drewN_self w22]; generalize hq_ : World.drewN w22 _ = w22; have n0_ := Aside0.mk (blk_at hq_ BK106.out); have n1_ := Aside0.mk (below_at hq_ HB.out); clear hq_ BK106 HB; have BK106 := n0_; have HB := n1_; clear n0_ n1_)); refine store_event (t := 41) (p := 4) (v := ?vo_w24) (w1 := (((w22.setCell ⟨gb106, 0, none⟩ (.string ((rd_T41 l0 x10_1).f0))).setCell ⟨gb106, 1, none⟩ (.int .i64 ((rd_T41 l0 x10_1).f1))).setCell ⟨gb106, 2, none⟩ (.string ((rd_T41 l0 x10_1).f2)))) ?hg ?ho ?hn ?hr ?_; (case ho => rfl); (case hg => rfl); (case hn => rfl); (case hr => first | (go_simp; done) | (go_simp; rfl) | (have hq0_ := (blk_cell BK106.out 0).trans (show _ = some _ from rfl); have hf0_ := blk_frozen BK106.out 0; have hq1_ := (blk_cell BK106.out 1).trans (show _ = some _ from rfl); have hf1_ := blk_frozen BK106.out 1; have hq2_ := (blk_cell BK106.out 2).trans (show _ = some _ from rfl); have hf2_ := blk_frozen BK106.out 2; first | (go_simp; done) | (go_simp; rfl))); intro w24 hw; have n0_ : Aside0 (w24.heap[gb106]? = some (.cells #[.string ((rd_T41 l0 x10_1).f0), .int .i64 ((rd_T41 l0 x10_1).f1), .string ((rd_T41 l0 x10_1).f2)] 41 (0, 0))) := ⟨(by rw [hw]; exact (by (with_reducible repeat (first | refine blk_drewN ?_ _ | refine blk_drew ?_ | refine blk_alloc ?_ _)); refine blk_put (cs := #[.string ((rd_T41 l0 x10_1).f0), .int .i64 ((rd_T41 l0 x10_1).f1), .string (⟨#[]⟩ : ByteArray)]) ?_ 2 _ rfl; (with_reducible repeat (first | refine blk_drewN ?_ _ | refine blk_drew ?_ | refine blk_alloc ?_ _)); refine blk_put (cs := #[.string ((rd_T41 l0 x10_1).f0), .int .i64 0, .string (⟨#[]⟩ : ByteArray)]) ?_ 1 _ rfl; (with_reducible repeat (first | refine blk_drewN ?_ _ | refine blk_drew ?_ | refine blk_alloc ?_ _)); refine blk_put (cs := #[.string (⟨#[]⟩ : ByteArray), .int .i64 0, .string (⟨#[]⟩ : ByteArray)]) ?_ 0 _ rfl; (with_reducible repeat (first | refine blk_drewN ?_ _ | refine blk_drew ?_ | refine blk_alloc ?_ _)); exact BK106.out))⟩; have n1_ : Aside0 (Below w.heap.size w w24) := ⟨(by rw [hw]; exact (by repeat (first | (with_reducible first | exact HB.out | apply below_alloc | apply pw_below_drewN | apply below_drew1 | refine below_set ?_ GE106.out) | exact HB.out)))⟩; clear hw; clear BK106; clear HB; have BK106 := n0_; have HB := n1_; clear n0_ n1_; have hcz25_0 : w24.cell? ⟨gb106, 0, none⟩ = some (.string ((rd_T41 l0 x10_1).f0)) := (blk_cell BK106.out 0).trans rfl; have hcz25_1 : w24.cell? ⟨gb106, 1, none⟩ = some (.int .i64 ((rd_T41 l0 x10_1).f1)) := (blk_cell BK106.out 1).trans rfl; have hcz25_2 : w24.cell? ⟨gb106, 2, none⟩ = some (.string ((rd_T41 l0 x10_1).f2)) := (blk_cell BK106.out 2).trans rfl; have hfz25_0 := blk_frozen BK106.out 0; have hfz25_1 := blk_frozen BK106.out 1; have hfz25_2 := blk_frozen BK106.out 2) | (go_at_call 26; (with_reducible refine (spec_GoodName.calls k1 ((rd_T41 l0 x10_1).f0) true _ A6.out).mono ?_); rintro e w' ⟨rfl, ⟨nd, rfl⟩⟩; (try first | exact ⟨rfl, _, World.drewN_drewN _ _ _⟩ | exact ⟨rfl, _, Eq.trans (World.drewN_drewN _ _ _) (congrArg (World.drewN _) (Nat.add_assoc _ _ _))⟩); have p108 : 0 ≤ ((ji14) : Int) := of_decide_eq_true (by first | (with_reducible assumption) | assumption); have q108 : (ji14) < (l0.length : Int) := of_decide_eq_true (by first | (with_reducible assumption) | assumption); obtain ⟨ad108, e108, hx108_0, hx108_1, hx108_2⟩ := at_T41 HR0.out (ji14) p108 q108; obtain rfl : ad105 = ad108 := (by injection e108); replace hx108_0 := (HB.out.cell (World.block_lt_of_cell? w _ hx108_0)).trans hx108_0; replace hx108_1 := (HB.out.cell (World.block_lt_of_cell? w _ hx108_1)).trans hx108_1; replace hx108_2 := (HB.out.cell (World.block_lt_of_cell? w _ hx108_2)).trans hx108_2; replace p108 := eq_true p108; replace q108 := eq_true q108))
             repeat (go_quiet (first | ((with_reducible refine gate_dst (N := 4) rfl ?_); (try (refine gate_guard (by rfl) ?_; dsimp only)); refine box_event ?hg (N := 4) ?hd (cs := #[.string (⟨#[]⟩ : ByteArray), .int .i64 0, .string (⟨#[]⟩ : ByteArray)]) (t := 41) ?hr ?_; (case hd => rfl); (case hg => rfl); (case hr => first | (go_simp; done) | (go_simp; rfl)); intro gb106 hg w22 hbox hb; have n0_ := Aside0.mk (below_step (by repeat (first | (with_reducible first | exact HB.out | apply below_alloc | apply pw_below_drewN | apply below_drew1) | exact HB.out)) hb); have n1_ := Aside0.mk (hbox); have n2_ := Aside0.mk ((by rw [hg]; exact (below_size (by repeat (first | (with_reducible first | exact HB.out | apply below_alloc | apply pw_below_drewN | apply below_drew1) | exact HB.out))) : w.heap.size ≤ gb106)); have n3_ := Aside0.mk ((by rw [hg]; exact (below_size (by repeat (first | (with_reducible first | exact HB.out | apply below_alloc | apply pw_below_drewN | apply below_drew1) | exact HB.out))) : w.heap.size ≤ gb106)); clear HB; have HB := n0_; have BK106 := n1_; have GW106 := n2_; have GE106 := n3_; clear n0_ n1_ n2_ n3_; clear hb hbox hg; have hcz23_0 : w22.cell? ⟨gb106, 0, none⟩ = some (.string (⟨#[]⟩ : ByteArray)) := (blk_cell BK106.out 0).trans rfl; have hcz23_1 : w22.cell? ⟨gb106, 1, none⟩ = some (.int .i64 0) := (blk_cell BK106.out 1).trans rfl; have hcz23_2 : w22.cell? ⟨gb106, 2, none⟩ = some (.string (⟨#[]⟩ : ByteArray)) := (blk_cell BK106.out 2).trans rfl; have hfz23_0 := blk_frozen BK106.out 0; have hfz23_1 := blk_frozen BK106.out 1; have hfz23_2 := blk_frozen BK106.out 2) | ((with_reducible refine gate_store (t := 41) (p := 4) rfl ?_); (try (rw [drewN_self w22]; generalize hq_ : World.drewN w22 _ = w22; have n0_ := Aside0.mk (blk_at hq_ BK106.out); have n1_ := Aside0.mk (below_at hq_ HB.out); clear hq_ BK106 HB; have BK106 := n0_; have HB := n1_; clear n0_ n1_)); refine store_event (t := 41) (p := 4) (v := ?vo_w24) (w1 := (((w22.setCell ⟨gb106, 0, none⟩ (.string ((rd_T41 l0 x10_1).f0))).setCell ⟨gb106, 1, none⟩ (.int .i64 ((rd_T41 l0 x10_1).f1))).setCell ⟨gb106, 2, none⟩ (.string ((rd_T41 l0 x10_1).f2)))) ?hg ?ho ?hn ?hr ?_; (case ho => rfl); (case hg => rfl); (case hn => rfl); (case hr => first | (go_simp; done) | (go_simp; rfl) | (have hq0_ := (blk_cell BK106.out 0).trans (show _ = some _ from rfl); have hf0_ := blk_frozen BK106.out 0; have hq1_ := (blk_cell BK106.out 1).trans (show _ = some _ from rfl); have hf1_ := blk_frozen BK106.out 1; have hq2_ := (blk_cell BK106.out 2).trans (show _ = some _ from rfl); have hf2_ := blk_frozen BK106.out 2; first | (go_simp; done) | (go_simp; rfl))); intro w24 hw; have n0_ : Aside0 (w24.heap[gb106]? = some (.cells #[.string ((rd_T41 l0 x10_1).f0), .int .i64 ((rd_T41 l0 x10_1).f1), .string ((rd_T41 l0 x10_1).f2)] 41 (0, 0))) := ⟨(by rw [hw]; exact (by (with_reducible repeat (first | refine blk_drewN ?_ _ | refine blk_drew ?_ | refine blk_alloc ?_ _)); refine blk_put (cs := #[.string ((rd_T41 l0 x10_1).f0), .int .i64 ((rd_T41 l0 x10_1).f1), .string (⟨#[]⟩ : ByteArray)]) ?_ 2 _ rfl; (with_reducible repeat (first | refine blk_drewN ?_ _ | refine blk_drew ?_ | refine blk_alloc ?_ _)); refine blk_put (cs := #[.string ((rd_T41 l0 x10_1).f0), .int .i64 0, .string (⟨#[]⟩ : ByteArray)]) ?_ 1 _ rfl; (with_reducible repeat (first | refine blk_drewN ?_ _ | refine blk_drew ?_ | refine blk_alloc ?_ _)); refine blk_put (cs := #[.string (⟨#[]⟩ : ByteArray), .int .i64 0, .string (⟨#[]⟩ : ByteArray)]) ?_ 0 _ rfl; (with_reducible repeat (first | refine blk_drewN ?_ _ | refine blk_drew ?_ | refine blk_alloc ?_ _)); exact BK106.out))⟩; have n1_ : Aside0 (Below w.heap.size w w24) := ⟨(by rw [hw]; exact (by repeat (first | (with_reducible first | exact HB.out | apply below_alloc | apply pw_below_drewN | apply below_drew1 | refine below_set ?_ GE106.out) | exact HB.out)))⟩; clear hw; clear BK106; clear HB; have BK106 := n0_; have HB := n1_; clear n0_ n1_; have hcz25_0 : w24.cell? ⟨gb106, 0, none⟩ = some (.string ((rd_T41 l0 x10_1).f0)) := (blk_cell BK106.out 0).trans rfl; have hcz25_1 : w24.cell? ⟨gb106, 1, none⟩ = some (.int .i64 ((rd_T41 l0 x10_1).f1)) := (blk_cell BK106.out 1).trans rfl; have hcz25_2 : w24.cell? ⟨gb106, 2, none⟩ = some (.string ((rd_T41 l0 x10_1).f2)) := (blk_cell BK106.out 2).trans rfl; have hfz25_0 := blk_frozen BK106.out 0; have hfz25_1 := blk_frozen BK106.out 1; have hfz25_2 := blk_frozen BK106.out 2) | (go_at_call 26; (with_reducible refine (spec_GoodName.calls k1 ((rd_T41 l0 x10_1).f0) true _ A6.out).mono ?_); rintro e w' ⟨rfl, ⟨nd, rfl⟩⟩; (try first | exact ⟨rfl, _, World.drewN_drewN _ _ _⟩ | exact ⟨rfl, _, Eq.trans (World.drewN_drewN _ _ _) (congrArg (World.drewN _) (Nat.add_assoc _ _ _))⟩); have p108 : 0 ≤ ((ji14) : Int) := of_decide_eq_true (by first | (with_reducible assumption) | assumption); have q108 : (ji14) < (l0.length : Int) := of_decide_eq_true (by first | (with_reducible assumption) | assumption); obtain ⟨ad108, e108, hx108_0, hx108_1, hx108_2⟩ := at_T41 HR0.out (ji14) p108 q108; obtain rfl : ad105 = ad108 := (by injection e108); replace hx108_0 := (HB.out.cell (World.block_lt_of_cell? w _ hx108_0)).trans hx108_0; replace hx108_1 := (HB.out.cell (World.block_lt_of_cell? w _ hx108_1)).trans hx108_1; replace hx108_2 := (HB.out.cell (World.block_lt_of_cell? w _ hx108_2)).trans hx108_2; replace p108 := eq_true p108; replace q108 := eq_true q108)); try go_wp2_with (first | ((with_reducible refine gate_dst (N := 4) rfl ?_); (try (refine gate_guard (by rfl) ?_; dsimp only)); refine box_event ?hg (N := 4) ?hd (cs := #[.string (⟨#[]⟩ : ByteArray), .int .i64 0, .string (⟨#[]⟩ : ByteArray)]) (t := 41) ?hr ?_; (case hd => rfl); (case hg => rfl); (case hr => first | (go_simp; done) | (go_simp; rfl)); intro gb106 hg w22 hbox hb; have n0_ := Aside0.mk (below_step (by repeat (first | (with_reducible first | exact HB.out | apply below_alloc | apply pw_below_drewN | apply below_drew1) | exact HB.out)) hb); have n1_ := Aside0.mk (hbox); have n2_ := Aside0.mk ((by rw [hg]; exact (below_size (by repeat (first | (with_reducible first | exact HB.out | apply below_alloc | apply pw_below_drewN | apply below_drew1) | exact HB.out))) : w.heap.size ≤ gb106)); have n3_ := Aside0.mk ((by rw [hg]; exact (below_size (by repeat (first | (with_reducible first | exact HB.out | apply below_alloc | apply pw_below_drewN | apply below_drew1) | exact HB.out))) : w.heap.size ≤ gb106)); clear HB; have HB := n0_; have BK106 := n1_; have GW106 := n2_; have GE106 := n3_; clear n0_ n1_ n2_ n3_; clear hb hbox hg; have hcz23_0 : w22.cell? ⟨gb106, 0, none⟩ = some (.string (⟨#[]⟩ : ByteArray)) := (blk_cell BK106.out 0).trans rfl; have hcz23_1 : w22.cell? ⟨gb106, 1, none⟩ = some (.int .i64 0) := (blk_cell BK106.out 1).trans rfl; have hcz23_2 : w22.cell? ⟨gb106, 2, none⟩ = some (.string (⟨#[]⟩ : ByteArray)) := (blk_cell BK106.out 2).trans rfl; have hfz23_0 := blk_frozen BK106.out 0; have hfz23_1 := blk_frozen BK106.out 1; have hfz23_2 := blk_frozen BK106.out 2) | ((with_reducible refine gate_store (t := 41) (p := 4) rfl ?_); (try (rw [drewN_self w22]; generalize hq_ : World.drewN w22 _ = w22; have n0_ := Aside0.mk (blk_at hq_ BK106.out); have n1_ := Aside0.mk (below_at hq_ HB.out); clear hq_ BK106 HB; have BK106 := n0_; have HB := n1_; clear n0_ n1_)); refine store_event (t := 41) (p := 4) (v := ?vo_w24) (w1 := (((w22.setCell ⟨gb106, 0, none⟩ (.string ((rd_T41 l0 x10_1).f0))).setCell ⟨gb106, 1, none⟩ (.int .i64 ((rd_T41 l0 x10_1).f1))).setCell ⟨gb106, 2, none⟩ (.string ((rd_T41 l0 x10_1).f2)))) ?hg ?ho ?hn ?hr ?_; (case ho => rfl); (case hg => rfl); (case hn => rfl); (case hr => first | (go_simp; done) | (go_simp; rfl) | (have hq0_ := (blk_cell BK106.out 0).trans (show _ = some _ from rfl); have hf0_ := blk_frozen BK106.out 0; have hq1_ := (blk_cell BK106.out 1).trans (show _ = some _ from rfl); have hf1_ := blk_frozen BK106.out 1; have hq2_ := (blk_cell BK106.out 2).trans (show _ = some _ from rfl); have hf2_ := blk_frozen BK106.out 2; first | (go_simp; done) | (go_simp; rfl))); intro w24 hw; have n0_ : Aside0 (w24.heap[gb106]? = some (.cells #[.string ((rd_T41 l0 x10_1).f0), .int .i64 ((rd_T41 l0 x10_1).f1), .string ((rd_T41 l0 x10_1).f2)] 41 (0, 0))) := ⟨(by rw [hw]; exact (by (with_reducible repeat (first | refine blk_drewN ?_ _ | refine blk_drew ?_ | refine blk_alloc ?_ _)); refine blk_put (cs := #[.string ((rd_T41 l0 x10_1).f0), .int .i64 ((rd_T41 l0 x10_1).f1), .string (⟨#[]⟩ : ByteArray)]) ?_ 2 _ rfl; (with_reducible repeat (first | refine blk_drewN ?_ _ | refine blk_drew ?_ | refine blk_alloc ?_ _)); refine blk_put (cs := #[.string ((rd_T41 l0 x10_1).f0), .int .i64 0, .string (⟨#[]⟩ : ByteArray)]) ?_ 1 _ rfl; (with_reducible repeat (first | refine blk_drewN ?_ _ | refine blk_drew ?_ | refine blk_alloc ?_ _)); refine blk_put (cs := #[.string (⟨#[]⟩ : ByteArray), .int .i64 0, .string (⟨#[]⟩ : ByteArray)]) ?_ 0 _ rfl; (with_reducible repeat (first | refine blk_drewN ?_ _ | refine blk_drew ?_ | refine blk_alloc ?_ _)); exact BK106.out))⟩; have n1_ : Aside0 (Below w.heap.size w w24) := ⟨(by rw [hw]; exact (by repeat (first | (with_reducible first | exact HB.out | apply below_alloc | apply pw_below_drewN | apply below_drew1 | refine below_set ?_ GE106.out) | exact HB.out)))⟩; clear hw; clear BK106; clear HB; have BK106 := n0_; have HB := n1_; clear n0_ n1_; have hcz25_0 : w24.cell? ⟨gb106, 0, none⟩ = some (.string ((rd_T41 l0 x10_1).f0)) := (blk_cell BK106.out 0).trans rfl; have hcz25_1 : w24.cell? ⟨gb106, 1, none⟩ = some (.int .i64 ((rd_T41 l0 x10_1).f1)) := (blk_cell BK106.out 1).trans rfl; have hcz25_2 : w24.cell? ⟨gb106, 2, none⟩ = some (.string ((rd_T41 l0 x10_1).f2)) := (blk_cell BK106.out 2).trans rfl; have hfz25_0 := blk_frozen BK106.out 0; have hfz25_1 := blk_frozen BK106.out 1; have hfz25_2 := blk_frozen BK106.out 2) | (go_at_call 26; (with_reducible refine (spec_GoodName.calls k1 ((rd_T41 l0 x10_1).f0) true _ A6.out).mono ?_); rintro e w' ⟨rfl, ⟨nd, rfl⟩⟩; (try first | exact ⟨rfl, _, World.drewN_drewN _ _ _⟩ | exact ⟨rfl, _, Eq.trans (World.drewN_drewN _ _ _) (congrArg (World.drewN _) (Nat.add_assoc _ _ _))⟩); have p108 : 0 ≤ ((ji14) : Int) := of_decide_eq_true (by first | (with_reducible assumption) | assumption); have q108 : (ji14) < (l0.length : Int) := of_decide_eq_true (by first | (with_reducible assumption) | assumption); obtain ⟨ad108, e108, hx108_0, hx108_1, hx108_2⟩ := at_T41 HR0.out (ji14) p108 q108; obtain rfl : ad105 = ad108 := (by injection e108); replace hx108_0 := (HB.out.cell (World.block_lt_of_cell? w _ hx108_0)).trans hx108_0; replace hx108_1 := (HB.out.cell (World.block_lt_of_cell? w _ hx108_1)).trans hx108_1; replace hx108_2 := (HB.out.cell (World.block_lt_of_cell? w _ hx108_2)).trans hx108_2; replace p108 := eq_true p108; replace q108 := eq_true q108)))
             go_ret
             exact ⟨by first | rfl | (simp [errW_none, errW_some] <;> rfl) | (simp only [← hji14]; first | rfl | (simp [errW_none, errW_some] <;> rfl)) | (simp [*, errW_none, errW_some] <;> rfl), by repeat (first | (with_reducible first | exact HB.out | apply below_alloc | apply pw_below_drewN | apply below_drew1 | refine below_set ?_ GE106.out) | exact HB.out)⟩
           ·rw [if_neg c16] at H
            exact absurd H (by simp)
          ·rw [if_neg c15] at H
           exact absurd H (by simp)
         ·rw [if_neg c13] at H
          have c13b0 : decide (0 < x10_1) = false := decide_eq_false c13
          clear c13
          have H' := Aside0.mk H
          clear H
          have p105 : 0 ≤ (x10_1 : Int) := of_decide_eq_true (by first | (with_reducible assumption) | assumption)
          have q105 : x10_1 < (l0.length : Int) := of_decide_eq_true (by first | (with_reducible assumption) | assumption)
          obtain ⟨ad105, e105, hx105_0, hx105_1, hx105_2⟩ := at_T41 HR0.out x10_1 p105 q105
          cases e105
          replace hx105_0 := (HB.out.cell (World.block_lt_of_cell? w _ hx105_0)).trans hx105_0
          replace hx105_1 := (HB.out.cell (World.block_lt_of_cell? w _ hx105_1)).trans hx105_1
          replace hx105_2 := (HB.out.cell (World.block_lt_of_cell? w _ hx105_2)).trans hx105_2
          replace p105 := eq_true p105
          replace q105 := eq_true q105
          go_wp2_with (first | ((with_reducible refine gate_dst (N := 4) rfl ?_); (try (refine gate_guard (by rfl) ?_; dsimp only)); refine box_event ?hg (N := 4) ?hd (cs := #[.string (⟨#[]⟩ : ByteArray), .int .i64 0, .string (⟨#[]⟩ : ByteArray)]) (t := 41) ?hr ?_; (case hd => rfl); (case hg => rfl); (case hr => first | (go_simp; done) | (go_simp; rfl)); intro gb106 hg w26 hbox hb; have n0_ := Aside0.mk (below_step (by repeat (first | (with_reducible first | exact HB.out | apply below_alloc | apply pw_below_drewN | apply below_drew1) | exact HB.out)) hb); have n1_ := Aside0.mk (hbox); have n2_ := Aside0.mk ((by rw [hg]; exact (below_size (by repeat (first | (with_reducible first | exact HB.out | apply below_alloc | apply pw_below_drewN | apply below_drew1) | exact HB.out))) : w.heap.size ≤ gb106)); have n3_ := Aside0.mk ((by rw [hg]; exact (below_size (by repeat (first | (with_reducible first | exact HB.out | apply below_alloc | apply pw_below_drewN | apply below_drew1) | exact HB.out))) : w.heap.size ≤ gb106)); clear HB; have HB := n0_; have BK106 := n1_; have GW106 := n2_; have GE106 := n3_; clear n0_ n1_ n2_ n3_; clear hb hbox hg; have hcz27_0 : w26.cell? ⟨gb106, 0, none⟩ = some (.string (⟨#[]⟩ : ByteArray)) := (blk_cell BK106.out 0).trans rfl; have hcz27_1 : w26.cell? ⟨gb106, 1, none⟩ = some (.int .i64 0) := (blk_cell BK106.out 1).trans rfl; have hcz27_2 : w26.cell? ⟨gb106, 2, none⟩ = some (.string (⟨#[]⟩ : ByteArray)) := (blk_cell BK106.out 2).trans rfl; have hfz27_0 := blk_frozen BK106.out 0; have hfz27_1 := blk_frozen BK106.out 1; have hfz27_2 := blk_frozen BK106.out 2) | ((with_reducible refine gate_store (t := 41) (p := 4) rfl ?_); (try (rw [drewN_self w26]; generalize hq_ : World.drewN w26 _ = w26; have n0_ := Aside0.mk (blk_at hq_ BK106.out); have n1_ := Aside0.mk (below_at hq_ HB.out); clear hq_ BK106 HB; have BK106 := n0_; have HB := n1_; clear n0_ n1_)); refine store_event (t := 41) (p := 4) (v := ?vo_w28) (w1 := (((w26.setCell ⟨gb106, 0, none⟩ (.string ((rd_T41 l0 x10_1).f0))).setCell ⟨gb106, 1, none⟩ (.int .i64 ((rd_T41 l0 x10_1).f1))).setCell ⟨gb106, 2, none⟩ (.string ((rd_T41 l0 x10_1).f2)))) ?hg ?ho ?hn ?hr ?_; (case ho => rfl); (case hg => rfl); (case hn => rfl); (case hr => first | (go_simp; done) | (go_simp; rfl) | (have hq0_ := (blk_cell BK106.out 0).trans (show _ = some _ from rfl); have hf0_ := blk_frozen BK106.out 0; have hq1_ := (blk_cell BK106.out 1).trans (show _ = some _ from rfl); have hf1_ := blk_frozen BK106.out 1; have hq2_ := (blk_cell BK106.out 2).trans (show _ = some _ from rfl); have hf2_ := blk_frozen BK106.out 2; first | (go_simp; done) | (go_simp; rfl))); intro w28 hw; have n0_ : Aside0 (w28.heap[gb106]? = some (.cells #[.string ((rd_T41 l0 x10_1).f0), .int .i64 ((rd_T41 l0 x10_1).f1), .string ((rd_T41 l0 x10_1).f2)] 41 (0, 0))) := ⟨(by rw [hw]; exact (by (with_reducible repeat (first | refine blk_drewN ?_ _ | refine blk_drew ?_ | refine blk_alloc ?_ _)); refine blk_put (cs := #[.string ((rd_T41 l0 x10_1).f0), .int .i64 ((rd_T41 l0 x10_1).f1), .string (⟨#[]⟩ : ByteArray)]) ?_ 2 _ rfl; (with_reducible repeat (first | refine blk_drewN ?_ _ | refine blk_drew ?_ | refine blk_alloc ?_ _)); refine blk_put (cs := #[.string ((rd_T41 l0 x10_1).f0), .int .i64 0, .string (⟨#[]⟩ : ByteArray)]) ?_ 1 _ rfl; (with_reducible repeat (first | refine blk_drewN ?_ _ | refine blk_drew ?_ | refine blk_alloc ?_ _)); refine blk_put (cs := #[.string (⟨#[]⟩ : ByteArray), .int .i64 0, .string (⟨#[]⟩ : ByteArray)]) ?_ 0 _ rfl; (with_reducible repeat (first | refine blk_drewN ?_ _ | refine blk_drew ?_ | refine blk_alloc ?_ _)); exact BK106.out))⟩; have n1_ : Aside0 (Below w.heap.size w w28) := ⟨(by rw [hw]; exact (by repeat (first | (with_reducible first | exact HB.out | apply below_alloc | apply pw_below_drewN | apply below_drew1 | refine below_set ?_ GE106.out) | exact HB.out)))⟩; clear hw; clear BK106; clear HB; have BK106 := n0_; have HB := n1_; clear n0_ n1_; have hcz29_0 : w28.cell? ⟨gb106, 0, none⟩ = some (.string ((rd_T41 l0 x10_1).f0)) := (blk_cell BK106.out 0).trans rfl; have hcz29_1 : w28.cell? ⟨gb106, 1, none⟩ = some (.int .i64 ((rd_T41 l0 x10_1).f1)) := (blk_cell BK106.out 1).trans rfl; have hcz29_2 : w28.cell? ⟨gb106, 2, none⟩ = some (.string ((rd_T41 l0 x10_1).f2)) := (blk_cell BK106.out 2).trans rfl; have hfz29_0 := blk_frozen BK106.out 0; have hfz29_1 := blk_frozen BK106.out 1; have hfz29_2 := blk_frozen BK106.out 2) | (go_at_call 26; (with_reducible refine (spec_GoodName.calls k1 ((rd_T41 l0 x10_1).f0) true _ A6.out).mono ?_); rintro e w' ⟨rfl, ⟨nd, rfl⟩⟩; (try first | exact ⟨rfl, _, World.drewN_drewN _ _ _⟩ | exact ⟨rfl, _, Eq.trans (World.drewN_drewN _ _ _) (congrArg (World.drewN _) (Nat.add_assoc _ _ _))⟩)))
          repeat (go_quiet (first | ((with_reducible refine gate_dst (N := 4) rfl ?_); (try (refine gate_guard (by rfl) ?_; dsimp only)); refine box_event ?hg (N := 4) ?hd (cs := #[.string (⟨#[]⟩ : ByteArray), .int .i64 0, .string (⟨#[]⟩ : ByteArray)]) (t := 41) ?hr ?_; (case hd => rfl); (case hg => rfl); (case hr => first | (go_simp; done) | (go_simp; rfl)); intro gb106 hg w26 hbox hb; have n0_ := Aside0.mk (below_step (by repeat (first | (with_reducible first | exact HB.out | apply below_alloc | apply pw_below_drewN | apply below_drew1) | exact HB.out)) hb); have n1_ := Aside0.mk (hbox); have n2_ := Aside0.mk ((by rw [hg]; exact (below_size (by repeat (first | (with_reducible first | exact HB.out | apply below_alloc | apply pw_below_drewN | apply below_drew1) | exact HB.out))) : w.heap.size ≤ gb106)); have n3_ := Aside0.mk ((by rw [hg]; exact (below_size (by repeat (first | (with_reducible first | exact HB.out | apply below_alloc | apply pw_below_drewN | apply below_drew1) | exact HB.out))) : w.heap.size ≤ gb106)); clear HB; have HB := n0_; have BK106 := n1_; have GW106 := n2_; have GE106 := n3_; clear n0_ n1_ n2_ n3_; clear hb hbox hg; have hcz27_0 : w26.cell? ⟨gb106, 0, none⟩ = some (.string (⟨#[]⟩ : ByteArray)) := (blk_cell BK106.out 0).trans rfl; have hcz27_1 : w26.cell? ⟨gb106, 1, none⟩ = some (.int .i64 0) := (blk_cell BK106.out 1).trans rfl; have hcz27_2 : w26.cell? ⟨gb106, 2, none⟩ = some (.string (⟨#[]⟩ : ByteArray)) := (blk_cell BK106.out 2).trans rfl; have hfz27_0 := blk_frozen BK106.out 0; have hfz27_1 := blk_frozen BK106.out 1; have hfz27_2 := blk_frozen BK106.out 2) | ((with_reducible refine gate_store (t := 41) (p := 4) rfl ?_); (try (rw [drewN_self w26]; generalize hq_ : World.drewN w26 _ = w26; have n0_ := Aside0.mk (blk_at hq_ BK106.out); have n1_ := Aside0.mk (below_at hq_ HB.out); clear hq_ BK106 HB; have BK106 := n0_; have HB := n1_; clear n0_ n1_)); refine store_event (t := 41) (p := 4) (v := ?vo_w28) (w1 := (((w26.setCell ⟨gb106, 0, none⟩ (.string ((rd_T41 l0 x10_1).f0))).setCell ⟨gb106, 1, none⟩ (.int .i64 ((rd_T41 l0 x10_1).f1))).setCell ⟨gb106, 2, none⟩ (.string ((rd_T41 l0 x10_1).f2)))) ?hg ?ho ?hn ?hr ?_; (case ho => rfl); (case hg => rfl); (case hn => rfl); (case hr => first | (go_simp; done) | (go_simp; rfl) | (have hq0_ := (blk_cell BK106.out 0).trans (show _ = some _ from rfl); have hf0_ := blk_frozen BK106.out 0; have hq1_ := (blk_cell BK106.out 1).trans (show _ = some _ from rfl); have hf1_ := blk_frozen BK106.out 1; have hq2_ := (blk_cell BK106.out 2).trans (show _ = some _ from rfl); have hf2_ := blk_frozen BK106.out 2; first | (go_simp; done) | (go_simp; rfl))); intro w28 hw; have n0_ : Aside0 (w28.heap[gb106]? = some (.cells #[.string ((rd_T41 l0 x10_1).f0), .int .i64 ((rd_T41 l0 x10_1).f1), .string ((rd_T41 l0 x10_1).f2)] 41 (0, 0))) := ⟨(by rw [hw]; exact (by (with_reducible repeat (first | refine blk_drewN ?_ _ | refine blk_drew ?_ | refine blk_alloc ?_ _)); refine blk_put (cs := #[.string ((rd_T41 l0 x10_1).f0), .int .i64 ((rd_T41 l0 x10_1).f1), .string (⟨#[]⟩ : ByteArray)]) ?_ 2 _ rfl; (with_reducible repeat (first | refine blk_drewN ?_ _ | refine blk_drew ?_ | refine blk_alloc ?_ _)); refine blk_put (cs := #[.string ((rd_T41 l0 x10_1).f0), .int .i64 0, .string (⟨#[]⟩ : ByteArray)]) ?_ 1 _ rfl; (with_reducible repeat (first | refine blk_drewN ?_ _ | refine blk_drew ?_ | refine blk_alloc ?_ _)); refine blk_put (cs := #[.string (⟨#[]⟩ : ByteArray), .int .i64 0, .string (⟨#[]⟩ : ByteArray)]) ?_ 0 _ rfl; (with_reducible repeat (first | refine blk_drewN ?_ _ | refine blk_drew ?_ | refine blk_alloc ?_ _)); exact BK106.out))⟩; have n1_ : Aside0 (Below w.heap.size w w28) := ⟨(by rw [hw]; exact (by repeat (first | (with_reducible first | exact HB.out | apply below_alloc | apply pw_below_drewN | apply below_drew1 | refine below_set ?_ GE106.out) | exact HB.out)))⟩; clear hw; clear BK106; clear HB; have BK106 := n0_; have HB := n1_; clear n0_ n1_; have hcz29_0 : w28.cell? ⟨gb106, 0, none⟩ = some (.string ((rd_T41 l0 x10_1).f0)) := (blk_cell BK106.out 0).trans rfl; have hcz29_1 : w28.cell? ⟨gb106, 1, none⟩ = some (.int .i64 ((rd_T41 l0 x10_1).f1)) := (blk_cell BK106.out 1).trans rfl; have hcz29_2 : w28.cell? ⟨gb106, 2, none⟩ = some (.string ((rd_T41 l0 x10_1).f2)) := (blk_cell BK106.out 2).trans rfl; have hfz29_0 := blk_frozen BK106.out 0; have hfz29_1 := blk_frozen BK106.out 1; have hfz29_2 := blk_frozen BK106.out 2) | (go_at_call 26; (with_reducible refine (spec_GoodName.calls k1 ((rd_T41 l0 x10_1).f0) true _ A6.out).mono ?_); rintro e w' ⟨rfl, ⟨nd, rfl⟩⟩; (try first | exact ⟨rfl, _, World.drewN_drewN _ _ _⟩ | exact ⟨rfl, _, Eq.trans (World.drewN_drewN _ _ _) (congrArg (World.drewN _) (Nat.add_assoc _ _ _))⟩))); try go_wp2_with (first | ((with_reducible refine gate_dst (N := 4) rfl ?_); (try (refine gate_guard (by rfl) ?_; dsimp only)); refine box_event ?hg (N := 4) ?hd (cs := #[.string (⟨#[]⟩ : ByteArray), .int .i64 0, .string (⟨#[]⟩ : ByteArray)]) (t := 41) ?hr ?_; (case hd => rfl); (case hg => rfl); (case hr => first | (go_simp; done) | (go_simp; rfl)); intro gb106 hg w26 hbox hb; have n0_ := Aside0.mk (below_step (by repeat (first | (with_reducible first | exact HB.out | apply below_alloc | apply pw_below_drewN | apply below_drew1) | exact HB.out)) hb); have n1_ := Aside0.mk (hbox); have n2_ := Aside0.mk ((by rw [hg]; exact (below_size (by repeat (first | (with_reducible first | exact HB.out | apply below_alloc | apply pw_below_drewN | apply below_drew1) | exact HB.out))) : w.heap.size ≤ gb106)); have n3_ := Aside0.mk ((by rw [hg]; exact (below_size (by repeat (first | (with_reducible first | exact HB.out | apply below_alloc | apply pw_below_drewN | apply below_drew1) | exact HB.out))) : w.heap.size ≤ gb106)); clear HB; have HB := n0_; have BK106 := n1_; have GW106 := n2_; have GE106 := n3_; clear n0_ n1_ n2_ n3_; clear hb hbox hg; have hcz27_0 : w26.cell? ⟨gb106, 0, none⟩ = some (.string (⟨#[]⟩ : ByteArray)) := (blk_cell BK106.out 0).trans rfl; have hcz27_1 : w26.cell? ⟨gb106, 1, none⟩ = some (.int .i64 0) := (blk_cell BK106.out 1).trans rfl; have hcz27_2 : w26.cell? ⟨gb106, 2, none⟩ = some (.string (⟨#[]⟩ : ByteArray)) := (blk_cell BK106.out 2).trans rfl; have hfz27_0 := blk_frozen BK106.out 0; have hfz27_1 := blk_frozen BK106.out 1; have hfz27_2 := blk_frozen BK106.out 2) | ((with_reducible refine gate_store (t := 41) (p := 4) rfl ?_); (try (rw [drewN_self w26]; generalize hq_ : World.drewN w26 _ = w26; have n0_ := Aside0.mk (blk_at hq_ BK106.out); have n1_ := Aside0.mk (below_at hq_ HB.out); clear hq_ BK106 HB; have BK106 := n0_; have HB := n1_; clear n0_ n1_)); refine store_event (t := 41) (p := 4) (v := ?vo_w28) (w1 := (((w26.setCell ⟨gb106, 0, none⟩ (.string ((rd_T41 l0 x10_1).f0))).setCell ⟨gb106, 1, none⟩ (.int .i64 ((rd_T41 l0 x10_1).f1))).setCell ⟨gb106, 2, none⟩ (.string ((rd_T41 l0 x10_1).f2)))) ?hg ?ho ?hn ?hr ?_; (case ho => rfl); (case hg => rfl); (case hn => rfl); (case hr => first | (go_simp; done) | (go_simp; rfl) | (have hq0_ := (blk_cell BK106.out 0).trans (show _ = some _ from rfl); have hf0_ := blk_frozen BK106.out 0; have hq1_ := (blk_cell BK106.out 1).trans (show _ = some _ from rfl); have hf1_ := blk_frozen BK106.out 1; have hq2_ := (blk_cell BK106.out 2).trans (show _ = some _ from rfl); have hf2_ := blk_frozen BK106.out 2; first | (go_simp; done) | (go_simp; rfl))); intro w28 hw; have n0_ : Aside0 (w28.heap[gb106]? = some (.cells #[.string ((rd_T41 l0 x10_1).f0), .int .i64 ((rd_T41 l0 x10_1).f1), .string ((rd_T41 l0 x10_1).f2)] 41 (0, 0))) := ⟨(by rw [hw]; exact (by (with_reducible repeat (first | refine blk_drewN ?_ _ | refine blk_drew ?_ | refine blk_alloc ?_ _)); refine blk_put (cs := #[.string ((rd_T41 l0 x10_1).f0), .int .i64 ((rd_T41 l0 x10_1).f1), .string (⟨#[]⟩ : ByteArray)]) ?_ 2 _ rfl; (with_reducible repeat (first | refine blk_drewN ?_ _ | refine blk_drew ?_ | refine blk_alloc ?_ _)); refine blk_put (cs := #[.string ((rd_T41 l0 x10_1).f0), .int .i64 0, .string (⟨#[]⟩ : ByteArray)]) ?_ 1 _ rfl; (with_reducible repeat (first | refine blk_drewN ?_ _ | refine blk_drew ?_ | refine blk_alloc ?_ _)); refine blk_put (cs := #[.string (⟨#[]⟩ : ByteArray), .int .i64 0, .string (⟨#[]⟩ : ByteArray)]) ?_ 0 _ rfl; (with_reducible repeat (first | refine blk_drewN ?_ _ | refine blk_drew ?_ | refine blk_alloc ?_ _)); exact BK106.out))⟩; have n1_ : Aside0 (Below w.heap.size w w28) := ⟨(by rw [hw]; exact (by repeat (first | (with_reducible first | exact HB.out | apply below_alloc | apply pw_below_drewN | apply below_drew1 | refine below_set ?_ GE106.out) | exact HB.out)))⟩; clear hw; clear BK106; clear HB; have BK106 := n0_; have HB := n1_; clear n0_ n1_; have hcz29_0 : w28.cell? ⟨gb106, 0, none⟩ = some (.string ((rd_T41 l0 x10_1).f0)) := (blk_cell BK106.out 0).trans rfl; have hcz29_1 : w28.cell? ⟨gb106, 1, none⟩ = some (.int .i64 ((rd_T41 l0 x10_1).f1)) := (blk_cell BK106.out 1).trans rfl; have hcz29_2 : w28.cell? ⟨gb106, 2, none⟩ = some (.string ((rd_T41 l0 x10_1).f2)) := (blk_cell BK106.out 2).trans rfl; have hfz29_0 := blk_frozen BK106.out 0; have hfz29_1 := blk_frozen BK106.out 1; have hfz29_2 := blk_frozen BK106.out 2) | (go_at_call 26; (with_reducible refine (spec_GoodName.calls k1 ((rd_T41 l0 x10_1).f0) true _ A6.out).mono ?_); rintro e w' ⟨rfl, ⟨nd, rfl⟩⟩; (try first | exact ⟨rfl, _, World.drewN_drewN _ _ _⟩ | exact ⟨rfl, _, Eq.trans (World.drewN_drewN _ _ _) (congrArg (World.drewN _) (Nat.add_assoc _ _ _))⟩))))
          go_roundg k1
          case measure => have := HK1.out; omega
          case rel => exact ⟨(wrap64 (x10_1 + 1)), (by first | rfl | (simp; done) | (simp [*]; done) | exact not_isEmpty _ | exact (not_isEmpty _).symm | exact is_empty _ | exact (is_empty _).symm), H', ⟨by have := HK1.out; omega⟩, ⟨by repeat (first | (with_reducible first | exact HB.out | apply below_alloc | apply pw_below_drewN | apply below_drew1 | refine below_set ?_ GE106.out) | exact HB.out)⟩⟩
       ·replace c7 := Bool.eq_false_iff.mpr c7
        subst c7
        have H1 : (some false) = some r := by rw [if_neg (show ¬ (false = true) by decide)] at H; exact H
        clear H
        have H := H1
        clear H1
        obtain rfl := Option.some.inj H
        have p105 : 0 ≤ (x10_1 : Int) := of_decide_eq_true (by first | (with_reducible assumption) | assumption)
        have q105 : x10_1 < (l0.length : Int) := of_decide_eq_true (by first | (with_reducible assumption) | assumption)
        obtain ⟨ad105, e105, hx105_0, hx105_1, hx105_2⟩ := at_T41 HR0.out x10_1 p105 q105
        cases e105
        replace hx105_0 := (HB.out.cell (World.block_lt_of_cell? w _ hx105_0)).trans hx105_0
        replace hx105_1 := (HB.out.cell (World.block_lt_of_cell? w _ hx105_1)).trans hx105_1
        replace hx105_2 := (HB.out.cell (World.block_lt_of_cell? w _ hx105_2)).trans hx105_2
        replace p105 := eq_true p105
        replace q105 := eq_true q105
        go_wp2_with (first | ((with_reducible refine gate_dst (N := 4) rfl ?_); (try (refine gate_guard (by rfl) ?_; dsimp only)); refine box_event ?hg (N := 4) ?hd (cs := #[.string (⟨#[]⟩ : ByteArray), .int .i64 0, .string (⟨#[]⟩ : ByteArray)]) (t := 41) ?hr ?_; (case hd => rfl); (case hg => rfl); (case hr => first | (go_simp; done) | (go_simp; rfl)); intro gb106 hg w30 hbox hb; have n0_ := Aside0.mk (below_step (by repeat (first | (with_reducible first | exact HB.out | apply below_alloc | apply pw_below_drewN | apply below_drew1) | exact HB.out)) hb); have n1_ := Aside0.mk (hbox); have n2_ := Aside0.mk ((by rw [hg]; exact (below_size (by repeat (first | (with_reducible first | exact HB.out | apply below_alloc | apply pw_below_drewN | apply below_drew1) | exact HB.out))) : w.heap.size ≤ gb106)); have n3_ := Aside0.mk ((by rw [hg]; exact (below_size (by repeat (first | (with_reducible first | exact HB.out | apply below_alloc | apply pw_below_drewN | apply below_drew1) | exact HB.out))) : w.heap.size ≤ gb106)); clear HB; have HB := n0_; have BK106 := n1_; have GW106 := n2_; have GE106 := n3_; clear n0_ n1_ n2_ n3_; clear hb hbox hg; have hcz31_0 : w30.cell? ⟨gb106, 0, none⟩ = some (.string (⟨#[]⟩ : ByteArray)) := (blk_cell BK106.out 0).trans rfl; have hcz31_1 : w30.cell? ⟨gb106, 1, none⟩ = some (.int .i64 0) := (blk_cell BK106.out 1).trans rfl; have hcz31_2 : w30.cell? ⟨gb106, 2, none⟩ = some (.string (⟨#[]⟩ : ByteArray)) := (blk_cell BK106.out 2).trans rfl; have hfz31_0 := blk_frozen BK106.out 0; have hfz31_1 := blk_frozen BK106.out 1; have hfz31_2 := blk_frozen BK106.out 2) | ((with_reducible refine gate_store (t := 41) (p := 4) rfl ?_); (try (rw [drewN_self w30]; generalize hq_ : World.drewN w30 _ = w30; have n0_ := Aside0.mk (blk_at hq_ BK106.out); have n1_ := Aside0.mk (below_at hq_ HB.out); clear hq_ BK106 HB; have BK106 := n0_; have HB := n1_; clear n0_ n1_)); refine store_event (t := 41) (p := 4) (v := ?vo_w32) (w1 := (((w30.setCell ⟨gb106, 0, none⟩ (.string ((rd_T41 l0 x10_1).f0))).setCell ⟨gb106, 1, none⟩ (.int .i64 ((rd_T41 l0 x10_1).f1))).setCell ⟨gb106, 2, none⟩ (.string ((rd_T41 l0 x10_1).f2)))) ?hg ?ho ?hn ?hr ?_; (case ho => rfl); (case hg => rfl); (case hn => rfl); (case hr => first | (go_simp; done) | (go_simp; rfl) | (have hq0_ := (blk_cell BK106.out 0).trans (show _ = some _ from rfl); have hf0_ := blk_frozen BK106.out 0; have hq1_ := (blk_cell BK106.out 1).trans (show _ = some _ from rfl); have hf1_ := blk_frozen BK106.out 1; have hq2_ := (blk_cell BK106.out 2).trans (show _ = some _ from rfl); have hf2_ := blk_frozen BK106.out 2; first | (go_simp; done) | (go_simp; rfl))); intro w32 hw; have n0_ : Aside0 (w32.heap[gb106]? = some (.cells #[.string ((rd_T41 l0 x10_1).f0), .int .i64 ((rd_T41 l0 x10_1).f1), .string ((rd_T41 l0 x10_1).f2)] 41 (0, 0))) := ⟨(by rw [hw]; exact (by (with_reducible repeat (first | refine blk_drewN ?_ _ | refine blk_drew ?_ | refine blk_alloc ?_ _)); refine blk_put (cs := #[.string ((rd_T41 l0 x10_1).f0), .int .i64 ((rd_T41 l0 x10_1).f1), .string (⟨#[]⟩ : ByteArray)]) ?_ 2 _ rfl; (with_reducible repeat (first | refine blk_drewN ?_ _ | refine blk_drew ?_ | refine blk_alloc ?_ _)); refine blk_put (cs := #[.string ((rd_T41 l0 x10_1).f0), .int .i64 0, .string (⟨#[]⟩ : ByteArray)]) ?_ 1 _ rfl; (with_reducible repeat (first | refine blk_drewN ?_ _ | refine blk_drew ?_ | refine blk_alloc ?_ _)); refine blk_put (cs := #[.string (⟨#[]⟩ : ByteArray), .int .i64 0, .string (⟨#[]⟩ : ByteArray)]) ?_ 0 _ rfl; (with_reducible repeat (first | refine blk_drewN ?_ _ | refine blk_drew ?_ | refine blk_alloc ?_ _)); exact BK106.out))⟩; have n1_ : Aside0 (Below w.heap.size w w32) := ⟨(by rw [hw]; exact (by repeat (first | (with_reducible first | exact HB.out | apply below_alloc | apply pw_below_drewN | apply below_drew1 | refine below_set ?_ GE106.out) | exact HB.out)))⟩; clear hw; clear BK106; clear HB; have BK106 := n0_; have HB := n1_; clear n0_ n1_; have hcz33_0 : w32.cell? ⟨gb106, 0, none⟩ = some (.string ((rd_T41 l0 x10_1).f0)) := (blk_cell BK106.out 0).trans rfl; have hcz33_1 : w32.cell? ⟨gb106, 1, none⟩ = some (.int .i64 ((rd_T41 l0 x10_1).f1)) := (blk_cell BK106.out 1).trans rfl; have hcz33_2 : w32.cell? ⟨gb106, 2, none⟩ = some (.string ((rd_T41 l0 x10_1).f2)) := (blk_cell BK106.out 2).trans rfl; have hfz33_0 := blk_frozen BK106.out 0; have hfz33_1 := blk_frozen BK106.out 1; have hfz33_2 := blk_frozen BK106.out 2) | (go_at_call 26; (with_reducible refine (spec_GoodName.calls k1 ((rd_T41 l0 x10_1).f0) false _ A6.out).mono ?_); rintro e w' ⟨rfl, ⟨nd, rfl⟩⟩; (try first | exact ⟨rfl, _, World.drewN_drewN _ _ _⟩ | exact ⟨rfl, _, Eq.trans (World.drewN_drewN _ _ _) (congrArg (World.drewN _) (Nat.add_assoc _ _ _))⟩)))
        repeat (go_quiet (first | ((with_reducible refine gate_dst (N := 4) rfl ?_); (try (refine gate_guard (by rfl) ?_; dsimp only)); refine box_event ?hg (N := 4) ?hd (cs := #[.string (⟨#[]⟩ : ByteArray), .int .i64 0, .string (⟨#[]⟩ : ByteArray)]) (t := 41) ?hr ?_; (case hd => rfl); (case hg => rfl); (case hr => first | (go_simp; done) | (go_simp; rfl)); intro gb106 hg w30 hbox hb; have n0_ := Aside0.mk (below_step (by repeat (first | (with_reducible first | exact HB.out | apply below_alloc | apply pw_below_drewN | apply below_drew1) | exact HB.out)) hb); have n1_ := Aside0.mk (hbox); have n2_ := Aside0.mk ((by rw [hg]; exact (below_size (by repeat (first | (with_reducible first | exact HB.out | apply below_alloc | apply pw_below_drewN | apply below_drew1) | exact HB.out))) : w.heap.size ≤ gb106)); have n3_ := Aside0.mk ((by rw [hg]; exact (below_size (by repeat (first | (with_reducible first | exact HB.out | apply below_alloc | apply pw_below_drewN | apply below_drew1) | exact HB.out))) : w.heap.size ≤ gb106)); clear HB; have HB := n0_; have BK106 := n1_; have GW106 := n2_; have GE106 := n3_; clear n0_ n1_ n2_ n3_; clear hb hbox hg; have hcz31_0 : w30.cell? ⟨gb106, 0, none⟩ = some (.string (⟨#[]⟩ : ByteArray)) := (blk_cell BK106.out 0).trans rfl; have hcz31_1 : w30.cell? ⟨gb106, 1, none⟩ = some (.int .i64 0) := (blk_cell BK106.out 1).trans rfl; have hcz31_2 : w30.cell? ⟨gb106, 2, none⟩ = some (.string (⟨#[]⟩ : ByteArray)) := (blk_cell BK106.out 2).trans rfl; have hfz31_0 := blk_frozen BK106.out 0; have hfz31_1 := blk_frozen BK106.out 1; have hfz31_2 := blk_frozen BK106.out 2) | ((with_reducible refine gate_store (t := 41) (p := 4) rfl ?_); (try (rw [drewN_self w30]; generalize hq_ : World.drewN w30 _ = w30; have n0_ := Aside0.mk (blk_at hq_ BK106.out); have n1_ := Aside0.mk (below_at hq_ HB.out); clear hq_ BK106 HB; have BK106 := n0_; have HB := n1_; clear n0_ n1_)); refine store_event (t := 41) (p := 4) (v := ?vo_w32) (w1 := (((w30.setCell ⟨gb106, 0, none⟩ (.string ((rd_T41 l0 x10_1).f0))).setCell ⟨gb106, 1, none⟩ (.int .i64 ((rd_T41 l0 x10_1).f1))).setCell ⟨gb106, 2, none⟩ (.string ((rd_T41 l0 x10_1).f2)))) ?hg ?ho ?hn ?hr ?_; (case ho => rfl); (case hg => rfl); (case hn => rfl); (case hr => first | (go_simp; done) | (go_simp; rfl) | (have hq0_ := (blk_cell BK106.out 0).trans (show _ = some _ from rfl); have hf0_ := blk_frozen BK106.out 0; have hq1_ := (blk_cell BK106.out 1).trans (show _ = some _ from rfl); have hf1_ := blk_frozen BK106.out 1; have hq2_ := (blk_cell BK106.out 2).trans (show _ = some _ from rfl); have hf2_ := blk_frozen BK106.out 2; first | (go_simp; done) | (go_simp; rfl))); intro w32 hw; have n0_ : Aside0 (w32.heap[gb106]? = some (.cells #[.string ((rd_T41 l0 x10_1).f0), .int .i64 ((rd_T41 l0 x10_1).f1), .string ((rd_T41 l0 x10_1).f2)] 41 (0, 0))) := ⟨(by rw [hw]; exact (by (with_reducible repeat (first | refine blk_drewN ?_ _ | refine blk_drew ?_ | refine blk_alloc ?_ _)); refine blk_put (cs := #[.string ((rd_T41 l0 x10_1).f0), .int .i64 ((rd_T41 l0 x10_1).f1), .string (⟨#[]⟩ : ByteArray)]) ?_ 2 _ rfl; (with_reducible repeat (first | refine blk_drewN ?_ _ | refine blk_drew ?_ | refine blk_alloc ?_ _)); refine blk_put (cs := #[.string ((rd_T41 l0 x10_1).f0), .int .i64 0, .string (⟨#[]⟩ : ByteArray)]) ?_ 1 _ rfl; (with_reducible repeat (first | refine blk_drewN ?_ _ | refine blk_drew ?_ | refine blk_alloc ?_ _)); refine blk_put (cs := #[.string (⟨#[]⟩ : ByteArray), .int .i64 0, .string (⟨#[]⟩ : ByteArray)]) ?_ 0 _ rfl; (with_reducible repeat (first | refine blk_drewN ?_ _ | refine blk_drew ?_ | refine blk_alloc ?_ _)); exact BK106.out))⟩; have n1_ : Aside0 (Below w.heap.size w w32) := ⟨(by rw [hw]; exact (by repeat (first | (with_reducible first | exact HB.out | apply below_alloc | apply pw_below_drewN | apply below_drew1 | refine below_set ?_ GE106.out) | exact HB.out)))⟩; clear hw; clear BK106; clear HB; have BK106 := n0_; have HB := n1_; clear n0_ n1_; have hcz33_0 : w32.cell? ⟨gb106, 0, none⟩ = some (.string ((rd_T41 l0 x10_1).f0)) := (blk_cell BK106.out 0).trans rfl; have hcz33_1 : w32.cell? ⟨gb106, 1, none⟩ = some (.int .i64 ((rd_T41 l0 x10_1).f1)) := (blk_cell BK106.out 1).trans rfl; have hcz33_2 : w32.cell? ⟨gb106, 2, none⟩ = some (.string ((rd_T41 l0 x10_1).f2)) := (blk_cell BK106.out 2).trans rfl; have hfz33_0 := blk_frozen BK106.out 0; have hfz33_1 := blk_frozen BK106.out 1; have hfz33_2 := blk_frozen BK106.out 2) | (go_at_call 26; (with_reducible refine (spec_GoodName.calls k1 ((rd_T41 l0 x10_1).f0) false _ A6.out).mono ?_); rintro e w' ⟨rfl, ⟨nd, rfl⟩⟩; (try first | exact ⟨rfl, _, World.drewN_drewN _ _ _⟩ | exact ⟨rfl, _, Eq.trans (World.drewN_drewN _ _ _) (congrArg (World.drewN _) (Nat.add_assoc _ _ _))⟩))); try go_wp2_with (first | ((with_reducible refine gate_dst (N := 4) rfl ?_); (try (refine gate_guard (by rfl) ?_; dsimp only)); refine box_event ?hg (N := 4) ?hd (cs := #[.string (⟨#[]⟩ : ByteArray), .int .i64 0, .string (⟨#[]⟩ : ByteArray)]) (t := 41) ?hr ?_; (case hd => rfl); (case hg => rfl); (case hr => first | (go_simp; done) | (go_simp; rfl)); intro gb106 hg w30 hbox hb; have n0_ := Aside0.mk (below_step (by repeat (first | (with_reducible first | exact HB.out | apply below_alloc | apply pw_below_drewN | apply below_drew1) | exact HB.out)) hb); have n1_ := Aside0.mk (hbox); have n2_ := Aside0.mk ((by rw [hg]; exact (below_size (by repeat (first | (with_reducible first | exact HB.out | apply below_alloc | apply pw_below_drewN | apply below_drew1) | exact HB.out))) : w.heap.size ≤ gb106)); have n3_ := Aside0.mk ((by rw [hg]; exact (below_size (by repeat (first | (with_reducible first | exact HB.out | apply below_alloc | apply pw_below_drewN | apply below_drew1) | exact HB.out))) : w.heap.size ≤ gb106)); clear HB; have HB := n0_; have BK106 := n1_; have GW106 := n2_; have GE106 := n3_; clear n0_ n1_ n2_ n3_; clear hb hbox hg; have hcz31_0 : w30.cell? ⟨gb106, 0, none⟩ = some (.string (⟨#[]⟩ : ByteArray)) := (blk_cell BK106.out 0).trans rfl; have hcz31_1 : w30.cell? ⟨gb106, 1, none⟩ = some (.int .i64 0) := (blk_cell BK106.out 1).trans rfl; have hcz31_2 : w30.cell? ⟨gb106, 2, none⟩ = some (.string (⟨#[]⟩ : ByteArray)) := (blk_cell BK106.out 2).trans rfl; have hfz31_0 := blk_frozen BK106.out 0; have hfz31_1 := blk_frozen BK106.out 1; have hfz31_2 := blk_frozen BK106.out 2) | ((with_reducible refine gate_store (t := 41) (p := 4) rfl ?_); (try (rw [drewN_self w30]; generalize hq_ : World.drewN w30 _ = w30; have n0_ := Aside0.mk (blk_at hq_ BK106.out); have n1_ := Aside0.mk (below_at hq_ HB.out); clear hq_ BK106 HB; have BK106 := n0_; have HB := n1_; clear n0_ n1_)); refine store_event (t := 41) (p := 4) (v := ?vo_w32) (w1 := (((w30.setCell ⟨gb106, 0, none⟩ (.string ((rd_T41 l0 x10_1).f0))).setCell ⟨gb106, 1, none⟩ (.int .i64 ((rd_T41 l0 x10_1).f1))).setCell ⟨gb106, 2, none⟩ (.string ((rd_T41 l0 x10_1).f2)))) ?hg ?ho ?hn ?hr ?_; (case ho => rfl); (case hg => rfl); (case hn => rfl); (case hr => first | (go_simp; done) | (go_simp; rfl) | (have hq0_ := (blk_cell BK106.out 0).trans (show _ = some _ from rfl); have hf0_ := blk_frozen BK106.out 0; have hq1_ := (blk_cell BK106.out 1).trans (show _ = some _ from rfl); have hf1_ := blk_frozen BK106.out 1; have hq2_ := (blk_cell BK106.out 2).trans (show _ = some _ from rfl); have hf2_ := blk_frozen BK106.out 2; first | (go_simp; done) | (go_simp; rfl))); intro w32 hw; have n0_ : Aside0 (w32.heap[gb106]? = some (.cells #[.string ((rd_T41 l0 x10_1).f0), .int .i64 ((rd_T41 l0 x10_1).f1), .string ((rd_T41 l0 x10_1).f2)] 41 (0, 0))) := ⟨(by rw [hw]; exact (by (with_reducible repeat (first | refine blk_drewN ?_ _ | refine blk_drew ?_ | refine blk_alloc ?_ _)); refine blk_put (cs := #[.string ((rd_T41 l0 x10_1).f0), .int .i64 ((rd_T41 l0 x10_1).f1), .string (⟨#[]⟩ : ByteArray)]) ?_ 2 _ rfl; (with_reducible repeat (first | refine blk_drewN ?_ _ | refine blk_drew ?_ | refine blk_alloc ?_ _)); refine blk_put (cs := #[.string ((rd_T41 l0 x10_1).f0), .int .i64 0, .string (⟨#[]⟩ : ByteArray)]) ?_ 1 _ rfl; (with_reducible repeat (first | refine blk_drewN ?_ _ | refine blk_drew ?_ | refine blk_alloc ?_ _)); refine blk_put (cs := #[.string (⟨#[]⟩ : ByteArray), .int .i64 0, .string (⟨#[]⟩ : ByteArray)]) ?_ 0 _ rfl; (with_reducible repeat (first | refine blk_drewN ?_ _ | refine blk_drew ?_ | refine blk_alloc ?_ _)); exact BK106.out))⟩; have n1_ : Aside0 (Below w.heap.size w w32) := ⟨(by rw [hw]; exact (by repeat (first | (with_reducible first | exact HB.out | apply below_alloc | apply pw_below_drewN | apply below_drew1 | refine below_set ?_ GE106.out) | exact HB.out)))⟩; clear hw; clear BK106; clear HB; have BK106 := n0_; have HB := n1_; clear n0_ n1_; have hcz33_0 : w32.cell? ⟨gb106, 0, none⟩ = some (.string ((rd_T41 l0 x10_1).f0)) := (blk_cell BK106.out 0).trans rfl; have hcz33_1 : w32.cell? ⟨gb106, 1, none⟩ = some (.int .i64 ((rd_T41 l0 x10_1).f1)) := (blk_cell BK106.out 1).trans rfl; have hcz33_2 : w32.cell? ⟨gb106, 2, none⟩ = some (.string ((rd_T41 l0 x10_1).f2)) := (blk_cell BK106.out 2).trans rfl; have hfz33_0 := blk_frozen BK106.out 0; have hfz33_1 := blk_frozen BK106.out 1; have hfz33_2 := blk_frozen BK106.out 2) | (go_at_call 26; (with_reducible refine (spec_GoodName.calls k1 ((rd_T41 l0 x10_1).f0) false _ A6.out).mono ?_); rintro e w' ⟨rfl, ⟨nd, rfl⟩⟩; (try first | exact ⟨rfl, _, World.drewN_drewN _ _ _⟩ | exact ⟨rfl, _, Eq.trans (World.drewN_drewN _ _ _) (congrArg (World.drewN _) (Nat.add_assoc _ _ _))⟩))))
        go_ret
        exact ⟨by first | rfl | (simp [errW_none, errW_some] <;> rfl) | (simp [*, errW_none, errW_some] <;> rfl), by repeat (first | (with_reducible first | exact HB.out | apply below_alloc | apply pw_below_drewN | apply below_drew1 | refine below_set ?_ GE106.out) | exact HB.out)⟩
      ·rw [if_neg c5] at H
       exact absurd H (by simp)
     ·rw [if_neg c4] at H
      exact absurd H (by simp)
    ·rw [if_neg c3] at H
     have c3b0 : decide (x10_1 < (l0.length : Int)) = false := decide_eq_false c3
     clear c3
     obtain rfl := Option.some.inj H
     go_wp2
     repeat (go_quiet (fail); try go_wp2)
     go_ret
     exact ⟨by first | rfl | (simp [errW_none, errW_some] <;> rfl) | (simp [*, errW_none, errW_some] <;> rfl), by repeat (first | (with_reducible first | exact HB.out | apply below_alloc | apply pw_below_drewN | apply below_drew1) | exact HB.out)⟩
end Go.Proofs.Ytndgkdnbacoenaa.PFnExactReadSave
namespace Go.Proofs.Ytndgkdnbacoenaa.PFnExactReadSave
open Go.RowKit Go.Proofs.YtndgkdnbacoenaaW.PrintWords Go.Proofs.YtndgkdnbacoenaaW.PrintLast Go.Proofs.YtndgkdnbacoenaaW.PrintMore
attribute [local go_sem] max2_int min2_int max_two min_two max_three min_three max_four min_four   -- for this text's walks alone
set_option linter.unusedVariables false
set_option linter.unusedSimpArgs false
theorem set_low (w : World) (g j : Nat) (u : Value) : ∀ k, k < g → (w.setCell ⟨g, j, none⟩ u).heap[k]? = w.heap[k]? := fun k hk => Below.heap_setCell w ⟨g, j, none⟩ u k (by show k ≠ g; omega)
def Kb (w w' : World) (g : Nat) : Prop := KeepBut w w' g none ∧ Below 0 w w'
theorem Kb.trans {w w1 w2 : World} {g : Nat} (h : Kb w w1 g) (k : Kb w1 w2 g) : Kb w w2 g := ⟨h.1.trans k.1 (.inl rfl), h.2.trans k.2⟩
theorem Kb.of_below {w w1 : World} (h : Below w.heap.size w w1) (g : Nat) : Kb w w1 g := ⟨KeepBut.of_below h g none, h.mono (Nat.zero_le _)⟩
theorem Kb.set (w : World) (g j : Nat) (u : Value) : Kb w (w.setCell ⟨g, j, none⟩ u) g := ⟨(KeepBut.refl w g none).set_ j u, (Below.refl 0 w).setCell (Nat.zero_le _) u⟩
theorem Kb.below {w0 w w1 : World} {g : Nat} (h : Below w0.heap.size w0 w) (k : Kb w w1 g) (hg : w0.heap.size ≤ g) : Below w0.heap.size w0 w1 :=
 h.trans ⟨k.2.os, k.2.tape, k.2.output, k.2.size, fun i hi => k.1.2 i (Nat.lt_of_lt_of_le hi h.size) (by omega) (by simp)⟩
theorem Kb.blk {w w1 : World} {g g' : Nat} {o : Obj} (k : Kb w w1 g) (h : w.heap[g']? = some o) (hne : g' ≠ g) : w1.heap[g']? = some o := (k.1.2 g' (blk_lt h) hne (by simp)).trans h
def Sp.Is (w : World) (g : Nat) (l : List Int) (p : Nat) (s : Bool) : Prop := ∃ A c, w.heap[g]? = some (.cells #[.slice A l.length c, .int .i64 (p : Nat), .bool s] 37 (0, 0)) ∧ l.length ≤ c ∧ ∀ W' : World, (∀ k, k < g → W'.heap[k]? = w.heap[k]?) → (Kd.int .u8).C W' A l.length l
theorem Sp.Is.lt {w : World} {g p : Nat} {l : List Int} {s : Bool} (h : Sp.Is w g l p s) : g < w.heap.size := by
 obtain ⟨A, c, h1, _, _⟩ := h
 exact blk_lt h1
theorem Sp.Is.step {w w1 : World} {g p : Nat} {l : List Int} {s : Bool} (h : Sp.Is w g l p s) (hk : ∀ k, k ≤ g → w1.heap[k]? = w.heap[k]?) : Sp.Is w1 g l p s := by
 obtain ⟨A, c, h1, h2, h3⟩ := h
 exact ⟨A, c, (hk g (Nat.le_refl _)).trans h1, h2, fun W' h => h3 W' (fun k hg => (h k hg).trans (hk k (Nat.le_of_lt hg)))⟩
theorem Sp.Is.keep {w w1 : World} {g p : Nat} {l : List Int} {s : Bool} (h : Sp.Is w g l p s) (hb : Below w.heap.size w w1) : Sp.Is w1 g l p s := h.step (fun k hk => hb.block k (Nat.lt_of_le_of_lt hk h.lt))
theorem Sp.Is.far {w : World} {g g' j p : Nat} {u : Value} {l : List Int} {s : Bool} (h : Sp.Is w g l p s) (hg : g < g') : Sp.Is (w.setCell ⟨g', j, none⟩ u) g l p s := h.step (fun k hk => Below.heap_setCell w ⟨g', j, none⟩ u k (by show k ≠ g'; omega))
def spec_take.f (l : List Int) (p : Nat) (s : Bool) (n : Nat) : Nat × Bool × List Int := if s = true ∨ l.length < p + n then (p, true, []) else (p + n, false, (l.take (p + n)).drop p)
set_option maxHeartbeats 8000000 in
set_option maxRecDepth 100000 in
theorem spec_take.calls (g n p p2 : Nat) (l o : List Int) (s s2 : Bool) (w : World) (hn : n ≤ 1000) (hp : p ≤ 1000000) (hi : Sp.Is w g l p s) (h : spec_take.f l p s n = (p2, s2, o)) :
  Calls Try.prog 14 #[.pointer (some ⟨g, 0, none⟩), .int .i64 (n : Nat)] w fun e w' => ∃ Ao co, e = .returned (.slice Ao o.length co) ∧ Sp.Is w' g l p2 s2 ∧ o.length ≤ co ∧ (Kd.int .u8).C w' Ao o.length o ∧ Kb w w' g := by
 obtain ⟨A, c, hb0, hc0, hf0⟩ := hi
 have hmx : l.length ≤ 9223372036854775807 := (hf0 w (fun _ _ => rfl)).2.1
 have HF := Aside0.mk hf0
 have HC0 := Aside0.mk hc0
 have BK := Aside0.mk hb0
 have hcz0 : w.cell? ⟨g, 0, none⟩ = some (.slice A l.length c) := (blk_cell hb0 0).trans rfl
 have hcz1 : w.cell? ⟨g, 1, none⟩ = some (.int .i64 (p : Nat)) := (blk_cell hb0 1).trans rfl
 have hcz2 : w.cell? ⟨g, 2, none⟩ = some (.bool s) := (blk_cell hb0 2).trans rfl
 have hfz1 := blk_frozen hb0 1
 have hfz2 := blk_frozen hb0 2
 have hw1 : wrap64 ((l.length : Int) - (p : Int)) = (l.length : Int) - (p : Int) := by unfold wrap64; omega
 have hw2 : wrap64 ((p : Int) + (n : Int)) = (p : Int) + (n : Int) := by unfold wrap64; omega
 have hw3 : wrap64 ((p : Int) + (n : Int) - (n : Int)) = (p : Int) := by unfold wrap64; omega
 have hw4 : IntKind.i64.wrap ((p : Int) + (n : Int) - (n : Int)) = (p : Int) := (i64_w _).trans hw3
 clear hf0 hc0 hb0
 unfold spec_take.f at h
 split at h
 ·rename_i hor
  obtain ⟨rfl, h2⟩ := Prod.mk.inj h
  obtain ⟨rfl, rfl⟩ := Prod.mk.inj h2
  clear h h2
  have hend : ∀ W : World, (∃ m, W = (w.drewN m).setCell ⟨g, 2, none⟩ (.bool true)) → Sp.Is W g l p true ∧ Kb w W g := by
   rintro W ⟨m, rfl⟩
   refine ⟨⟨A, c, ?_, HC0.out, fun W' hW => HF.out W' (fun k hk => (hW k hk).trans (set_low (w.drewN m) g 2 _ k hk))⟩, Kb.trans (Kb.of_below (pw_below_drewN (Below.refl _ _) m) g) (Kb.set _ g 2 _)⟩
   exact blk_set (blk_drewN BK.out m) 2 (.bool true)
  have HEND := Aside0.mk hend
  clear hend
  cases s with
  | true =>
   go_enter Try.func14, Try.ntmps14
   go_wp2
   go_quiet (fail)
   go_wp2
   go_ret
   obtain ⟨h1, h2⟩ := HEND.out _ ⟨_, rfl⟩
   exact ⟨none, 0, rfl, h1, Nat.le_refl _, Kd.C_nil _ _, h2⟩
  | false =>
   have hgt : (n : Int) > (l.length : Int) - (p : Int) := by
    have : l.length < p + n := by simpa using hor
    omega
   clear hor
   go_enter Try.func14, Try.ntmps14
   go_wp2
   go_quiet (fail)
   go_wp2
   go_ret
   obtain ⟨h1, h2⟩ := HEND.out _ ⟨_, rfl⟩
   exact ⟨none, 0, rfl, h1, Nat.le_refl _, Kd.C_nil _ _, h2⟩
 ·rename_i hor
  have hs : s = false := by cases s <;> simp_all
  subst hs
  have hle : p + n ≤ l.length := by
   have : ¬ l.length < p + n := by simpa using hor
   omega
  obtain ⟨rfl, h2⟩ := Prod.mk.inj h
  obtain ⟨rfl, h3⟩ := Prod.mk.inj h2
  have H3 := Aside0.mk h3
  have hl1 : o.length = n := by rw [← h3, List.length_drop, List.length_take]; omega
  have HL1 := Aside0.mk hl1
  clear h h2 h3 hl1 hor
  have hgt : ¬ ((n : Int) > (l.length : Int) - (p : Int)) := by omega
  obtain ⟨j0, hj0, _, hj1, _⟩ := info_parts info5
  have cutM := cut_mid (P := Try.prog) 22 5 .i64 .i64 Try.underlying22 hj0 1 hj1 A l.length c (p : Int) ((p : Int) + (n : Int)) (by omega) (by omega) (by omega) HC0.out
  rw [show ((p : Int) + (n : Int)).toNat - (p : Int).toNat = n by omega, Int.toNat_natCast] at cutM
  obtain ⟨A2, hA2⟩ : ∃ a, a = (if c = p then A else A.map (·.add (p * 1))) := ⟨_, rfl⟩
  rw [← hA2] at cutM
  have hend : ∀ W : World, (∃ m m2, W = ((w.drewN m).setCell ⟨g, 1, none⟩ (.int .i64 ((p : Int) + (n : Int)))).drewN m2) → Sp.Is W g l (p + n) false ∧ Kb w W g ∧ (Kd.int .u8).C W A2 o.length o := by
   rintro W ⟨m, m2, rfl⟩
   refine ⟨⟨A, c, ?_, HC0.out, fun W' hW => HF.out W' (fun k hk => (hW k hk).trans (set_low (w.drewN m) g 1 _ k hk))⟩, Kb.trans (Kb.trans (Kb.of_below (pw_below_drewN (Below.refl _ _) m) g) (Kb.set _ g 1 _)) (Kb.of_below (pw_below_drewN (Below.refl _ _) m2) g), ?_⟩
   ·rw [Int.natCast_add]; exact blk_drewN (blk_set (blk_drewN BK.out m) 1 (.int .i64 ((p : Int) + (n : Int)))) m2
   ·rw [← H3.out, hA2]
    exact Kd.C_drewN (Kd.C_mid (lo := p) (hi := p + n) (HF.out ((w.drewN m).setCell ⟨g, 1, none⟩ (.int .i64 ((p : Int) + (n : Int)))) (fun k hk => set_low (w.drewN m) g 1 _ k hk)) (by omega) hle HC0.out) m2
  have HEND := Aside0.mk hend
  clear hA2 hend
  go_enter Try.func14, Try.ntmps14
  go_wp2
  go_quiet (fail)
  go_wp2
  go_quiet (fail)
  go_wp2
  go_ret
  obtain ⟨h1, h2, h3⟩ := HEND.out _ ⟨_, _, rfl⟩
  exact ⟨A2, c - p, by rw [HL1.out]; rfl, h1, by rw [HL1.out]; have := HC0.out; omega, h3, h2⟩
theorem spec_take.length (l : List Int) (p : Nat) (s : Bool) (n : Nat) : (spec_take.f l p s n).2.2 = [] ∨ (spec_take.f l p s n).2.2.length = n := by
 unfold spec_take.f; split
 ·exact .inl rfl
 ·rename_i h
  have : ¬ l.length < p + n := fun h2 => h (.inr h2)
  exact .inr (by simp; omega)
def spec_byte.f (l : List Int) (p : Nat) (s : Bool) : Option (Nat × Bool × Nat) :=
 if (spec_take.f l p s 1).2.2 = [] then some ((spec_take.f l p s 1).1, (spec_take.f l p s 1).2.1, 0) else
 if 0 ≤ rd (spec_take.f l p s 1).2.2 0 ∧ rd (spec_take.f l p s 1).2.2 0 < 256 then some ((spec_take.f l p s 1).1, (spec_take.f l p s 1).2.1, (rd (spec_take.f l p s 1).2.2 0).toNat) else none
set_option maxHeartbeats 8000000 in
set_option maxRecDepth 100000 in
theorem spec_byte.calls (g p p2 v : Nat) (l : List Int) (s s2 : Bool) (w : World) (hp : p ≤ 1000000) (hi : Sp.Is w g l p s) (h : spec_byte.f l p s = some (p2, s2, v)) :
  Calls Try.prog 13 #[.pointer (some ⟨g, 0, none⟩)] w fun e w' => e = .returned (.int .i64 (v : Nat)) ∧ Sp.Is w' g l p2 s2 ∧ Kb w w' g := by
 have HI := Aside0.mk hi
 clear hi
 unfold spec_byte.f at h
 have hlen := spec_take.length l p s 1
 obtain ⟨⟨m1, q1, o1⟩, h1⟩ : ∃ x, x = spec_take.f l p s 1 := ⟨_, rfl⟩
 rw [← h1] at h hlen
 simp only at h hlen
 have H1 := Aside0.mk h1.symm
 clear h1
 split at h
 ·rename_i ho
  subst ho
  simp only [Option.some.injEq, Prod.mk.injEq] at h
  obtain ⟨rfl, rfl, rfl⟩ := h
  go_enter Try.func13, Try.ntmps13
  go_wp2_with (first
   | (go_at_call 14; refine (spec_take.calls g 1 p _ l _ s _ _ (by omega) hp HI.out H1.out).mono ?_; rintro e w1 ⟨A1, c1, rfl, hi, hlc, hf, hk⟩; have HI1 := Aside0.mk hi; have HK := Aside0.mk hk; clear hi hlc hf hk))
  go_ret
  exact ⟨rfl, HI1.out, HK.out⟩
 ·rename_i ho
  have hlen := hlen.resolve_left ho
  split at h
  ·rename_i hr
   simp only [Option.some.injEq, Prod.mk.injEq] at h
   obtain ⟨rfl, rfl, rfl⟩ := h
   have hcv : ((rd o1 0).toNat : Int) = rd o1 0 := by omega
   have hwr : wrap64 (rd o1 0) = rd o1 0 := by unfold wrap64; omega
   clear ho hr
   go_enter Try.func13, Try.ntmps13
   go_wp2_with (first
    | (go_at_call 14; refine (spec_take.calls g 1 p _ l _ s _ _ (by omega) hp HI.out H1.out).mono ?_; rintro e w1 ⟨A1, c1, rfl, hi, hlc, hf, hk⟩; have HI1 := Aside0.mk hi; have HK := Aside0.mk hk; obtain ⟨ad, rfl, hx0_⟩ := Kd.at_int hf 0 (by omega) (by omega); have hx0 : w1.cell? ad = some (.int .u8 (rd o1 0)) := (by rw [show ad.add (Int.toNat 0) = ad from rfl] at hx0_; exact hx0_); clear hi hlc hf hk hx0_))
   go_ret
   exact ⟨by rw [hcv]; exact congrArg (fun x => Ending.returned (.int .i64 x)) hwr, HI1.out, HK.out⟩
  ·cases h
def spec_num : Nat → Int → List Int → Int
 | _, u, [] => u
 | j, u, c :: r => spec_num (j + 1) (IntKind.u64.wrap (u + IntKind.u64.wrap (IntKind.u64.wrap c * 2 ^ (8 * j)))) r
def spec_ReadSave.go (l : List Int) : Nat → Nat → Bool → List S41 → Option (Nat × Bool × List S41)
 | 0, p, s, d => some (p, s, d)
 | n + 1, p, s, d => if s = true then some (p, s, d) else (spec_byte.f l p s).bind fun a => (spec_byte.f l (spec_take.f l (spec_take.f l a.1 a.2.1 a.2.2).1 (spec_take.f l a.1 a.2.1 a.2.2).2.1 8).1 (spec_take.f l (spec_take.f l a.1 a.2.1 a.2.2).1 (spec_take.f l a.1 a.2.1 a.2.2).2.1 8).2.1).bind fun e => spec_ReadSave.go l n (spec_take.f l e.1 e.2.1 e.2.2).1 (spec_take.f l e.1 e.2.1 e.2.2).2.1 (d ++ [⟨strOfNums (spec_take.f l a.1 a.2.1 a.2.2).2.2, wrap64 (spec_num 0 0 (spec_take.f l (spec_take.f l a.1 a.2.1 a.2.2).1 (spec_take.f l a.1 a.2.1 a.2.2).2.1 8).2.2), strOfNums (spec_take.f l e.1 e.2.1 e.2.2).2.2⟩])
def spec_ReadSave.f (k : Nat) (l0 : List Int) : Option (Int × List S41 × Int) :=
 if 4000 < l0.length then some (0, [], 5) else if l0.length < 10 then some (0, [], 1) else
 if ¬ (rd l0 0 = 83 ∧ rd l0 1 = 65 ∧ rd l0 2 = 86 ∧ rd l0 3 = 69) then some (0, [], 2) else
 (spec_l21Digest.f k (l0.take (l0.length - 4))).bind fun dg =>
 if ∀ j : Nat, j < 4 → rd l0 (((l0.length - 4 : Nat) : Int) + (j : Int)) = dg / 2 ^ (24 - 8 * j) % 256 then
  (spec_byte.f (l0.take (l0.length - 4)) 4 false).bind fun v => (spec_byte.f (l0.take (l0.length - 4)) v.1 v.2.1).bind fun m => (spec_ReadSave.go (l0.take (l0.length - 4)) m.2.2 m.1 m.2.1 []).bind fun z => if z.2.1 = true then some (0, [], 1) else (spec_l1In.f ((v.2.2 : Nat) : Int) 1 250).bind fun b => if b = true then (if z.1 < l0.length - 4 then some (0, [], 5) else (spec_GoodValues.f k z.2.2).bind fun g => if g = true then some (((v.2.2 : Nat) : Int), z.2.2, 0) else some (0, [], 5)) else some (0, [], 5)
 else some (0, [], 3)
theorem spec_ReadSave.mono : ∀ a0 k, LeO (spec_ReadSave.f k a0) (spec_ReadSave.f (k + 1) a0) := by
 intro a0 k
 unfold spec_ReadSave.f
 exact LeO.ite (LeO.refl _) (LeO.ite (LeO.refl _) (LeO.ite (LeO.refl _) (LeO.bind (spec_l21Digest.mono _ _) (fun dg => LeO.ite (LeO.bind (LeO.refl _) (fun v => LeO.bind (LeO.refl _) (fun m => LeO.bind (LeO.refl _) (fun z => LeO.ite (LeO.refl _) (LeO.bind (LeO.refl _) (fun b => LeO.ite (LeO.ite (LeO.refl _) (LeO.bind (spec_GoodValues.mono _ _) (fun g => LeO.ite (LeO.refl _) (LeO.refl _)))) (LeO.refl _))))))) (LeO.refl _)))))
theorem spec_take.le (l : List Int) (p : Nat) (s : Bool) (n : Nat) (h : p ≤ l.length) : (spec_take.f l p s n).1 ≤ l.length := by
 unfold spec_take.f; split
 ·exact h
 ·rename_i h2
  exact Nat.le_of_not_lt fun h3 => h2 (.inr h3)
theorem spec_byte.le (l : List Int) (p p2 v : Nat) (s s2 : Bool) (h : p ≤ l.length) (hf : spec_byte.f l p s = some (p2, s2, v)) : p2 ≤ l.length ∧ v < 256 := by
 unfold spec_byte.f at hf
 have hl := spec_take.le l p s 1 h
 split at hf
 ·simp only [Option.some.injEq, Prod.mk.injEq] at hf
  obtain ⟨rfl, _, rfl⟩ := hf
  exact ⟨hl, by decide⟩
 ·split at hf
  ·rename_i hr
   simp only [Option.some.injEq, Prod.mk.injEq] at hf
   obtain ⟨rfl, _, rfl⟩ := hf
   exact ⟨hl, by omega⟩
  ·cases hf
set_option maxHeartbeats 16000000 in
set_option maxRecDepth 100000 in
theorem spec_ReadSave.calls (k : Nat) (A0 : Option Addr) (c0 : Nat) (l0 : List Int) (r1 : Int) (r2 : List S41) (r3 : Int) (w : World) (hr0 : Kd.C (Kd.int .u8) w A0 l0.length l0) (hc0 : l0.length ≤ c0) (h : spec_ReadSave.f k l0 = some (r1, r2, r3)) :
  Calls Try.prog 4 #[.slice A0 l0.length c0] w fun e w' => ∃ v1_ : Value, e = .returned (.tuple #[.int .i64 r1, v1_, .int .i64 r3]) ∧ Kd.R k41 41 w' w.heap.size (fun _ => True) v1_ r2 ∧ Below w.heap.size w w' := by
 have hu41 := Try.underlying41
 have HR0 := Aside0.mk hr0
 have HC0 := Aside0.mk hc0
 clear hr0 hc0
 unfold spec_ReadSave.f at h
 split at h
 ·rename_i hl
  obtain ⟨rfl, h2⟩ := Prod.mk.inj (Option.some.inj h)
  obtain ⟨rfl, rfl⟩ := Prod.mk.inj h2
  clear h h2
  have hgt : (l0.length : Int) > 4000 := by omega
  go_enter Try.func4, Try.ntmps4
  go_wp2
  go_ret3
  exact ⟨_, rfl, Kd.R_nil _ _ _ _ _, Below.refl _ _⟩
 rename_i hl
 have hgt : ¬ (l0.length : Int) > 4000 := by omega
 split at h
 ·rename_i hl2
  obtain ⟨rfl, h2⟩ := Prod.mk.inj (Option.some.inj h)
  obtain ⟨rfl, rfl⟩ := Prod.mk.inj h2
  clear h h2
  have hlt : (l0.length : Int) < 10 := by omega
  go_enter Try.func4, Try.ntmps4
  go_wp2
  go_ret3
  exact ⟨_, rfl, Kd.R_nil _ _ _ _ _, Below.refl _ _⟩
 rename_i hl2
 have hlt : ¬ (l0.length : Int) < 10 := by omega
 obtain ⟨a0, rfl, hx0⟩ := Kd.at_int HR0.out 0 (by omega) (by omega)
 obtain ⟨a1, ha1, hx1⟩ := Kd.at_int HR0.out 1 (by omega) (by omega)
 obtain rfl := Option.some.inj ha1
 obtain ⟨a1, ha1, hx2⟩ := Kd.at_int HR0.out 2 (by omega) (by omega)
 obtain rfl := Option.some.inj ha1
 obtain ⟨a1, ha1, hx3⟩ := Kd.at_int HR0.out 3 (by omega) (by omega)
 obtain rfl := Option.some.inj ha1
 replace hx0 : w.cell? a0 = some (.int .u8 (rd l0 0)) := hx0
 replace hx1 : w.cell? ⟨a0.block, a0.off + 1, none⟩ = some (.int .u8 (rd l0 1)) := hx1
 replace hx2 : w.cell? ⟨a0.block, a0.off + 2, none⟩ = some (.int .u8 (rd l0 2)) := hx2
 replace hx3 : w.cell? ⟨a0.block, a0.off + 3, none⟩ = some (.int .u8 (rd l0 3)) := hx3
 have hi0 : (0 : Int) < (l0.length : Int) := by omega
 have hi1 : (1 : Int) < (l0.length : Int) := by omega
 have hi2 : (2 : Int) < (l0.length : Int) := by omega
 have hi3 : (3 : Int) < (l0.length : Int) := by omega
 clear ha1
 split at h
 ·rename_i hm
  obtain ⟨rfl, h2⟩ := Prod.mk.inj (Option.some.inj h)
  obtain ⟨rfl, rfl⟩ := Prod.mk.inj h2
  clear h h2
  by_cases m0 : rd l0 0 = 83
  ·have q0 : (rd l0 0 != 83) = false := bne_eq_false_iff_eq.mpr m0
   by_cases m1 : rd l0 1 = 65
   ·have q1 : (rd l0 1 != 65) = false := bne_eq_false_iff_eq.mpr m1
    by_cases m2 : rd l0 2 = 86
    ·have q2 : (rd l0 2 != 86) = false := bne_eq_false_iff_eq.mpr m2
     have m3 : ¬ rd l0 3 = 69 := fun h => hm ⟨m0, m1, m2, h⟩
     have q3 : (rd l0 3 != 69) = true := bne_iff_ne.mpr m3
     clear hm m0 m1 m2
     go_enter Try.func4, Try.ntmps4
     go_wp2
     go_ret3
     exact ⟨_, rfl, Kd.R_nil _ _ _ _ _, Below.refl _ _⟩
    ·have q2 : (rd l0 2 != 86) = true := bne_iff_ne.mpr m2
     clear hm m0 m1
     go_enter Try.func4, Try.ntmps4
     go_wp2
     go_ret3
     exact ⟨_, rfl, Kd.R_nil _ _ _ _ _, Below.refl _ _⟩
   ·have q1 : (rd l0 1 != 65) = true := bne_iff_ne.mpr m1
    clear hm m0
    go_enter Try.func4, Try.ntmps4
    go_wp2
    go_ret3
    exact ⟨_, rfl, Kd.R_nil _ _ _ _ _, Below.refl _ _⟩
  ·have q0 : (rd l0 0 != 83) = true := bne_iff_ne.mpr m0
   clear hm
   go_enter Try.func4, Try.ntmps4
   go_wp2
   go_ret3
   exact ⟨_, rfl, Kd.R_nil _ _ _ _ _, Below.refl _ _⟩
 rename_i hm
 obtain ⟨m0, m1, m2, m3⟩ := Classical.not_not.mp hm
 have q0 : (rd l0 0 != 83) = false := bne_eq_false_iff_eq.mpr m0
 have q1 : (rd l0 1 != 65) = false := bne_eq_false_iff_eq.mpr m1
 have q2 : (rd l0 2 != 86) = false := bne_eq_false_iff_eq.mpr m2
 have q3 : (rd l0 3 != 69) = false := bne_eq_false_iff_eq.mpr m3
 clear hm m0 m1 m2 m3
 obtain ⟨dg, hdg, h⟩ := Option.bind_eq_some_iff.mp h
 have HDG := Aside0.mk hdg
 have H := Aside0.mk h
 clear hdg h
 obtain ⟨m, hm⟩ : ∃ m, m = l0.length - 4 := ⟨_, rfl⟩
 have hlm : l0.length = m + 4 := by omega
 obtain ⟨j0, hj0, _, hj1, _⟩ := info_parts info5
 have cutB := cut_to (P := Try.prog) 22 5 .i64 Try.underlying22 hj0 (some a0) l0.length c0 ((l0.length : Int) - 4) (by omega) (by omega) HC0.out
 rw [show ((l0.length : Int) - 4).toNat = m by omega] at cutB
 have HLB := Aside0.mk (show (l0.take m).length = m by rw [List.length_take]; omega)
 have HCB := Aside0.mk (show Kd.C (Kd.int .u8) w (some a0) m (l0.take m) by have h_ := Kd.C_take (m := m) HR0.out (by omega); rw [HLB.out] at h_; exact h_)
 have HCb := Aside0.mk (show m ≤ c0 by have := HC0.out; omega)
 rw [← hm] at HDG H
 have hdig : ∀ W, Below w.heap.size w W → Calls Try.prog 12 #[.slice (some a0) m c0] W (fun e w' => e = .returned (.int .u32 dg) ∧ Below W.heap.size W w') := fun W hW => by
  have h_ := spec_l21Digest.calls k (some a0) c0 (l0.take m) dg W (Kd.C_below (by rw [HLB.out]; exact HCB.out) hW) (by rw [HLB.out]; exact HCb.out) HDG.out
  rw [HLB.out] at h_
  exact h_.mono (fun e w' h2_ => ⟨h2_.1, h2_.2.below⟩)
 have HLM := Aside0.mk hlm
 clear hlm hm
 go_enter Try.func4, Try.ntmps4
 go_wp2_with (first
  | (go_at_call 12; refine (hdig _ (Below.refl _ _)).mono ?_; rintro e w1 ⟨rfl, hb⟩; have HB := Aside0.mk hb; clear hb))
 obtain ⟨w1', hw1'⟩ : ∃ x : World, x = w1 := ⟨_, rfl⟩
 clear hx0 hx1 hx2 hx3 q0 q1 q2 q3 hdig hi0 hi1 hi2 hi3
 go_loopg [7] 4 (fun gk v7 wx => ∃ (j : Nat), j + gk = 4 ∧ v7 = .int .i64 (j : Nat) ∧ Aside0 (∀ i : Nat, i < j → rd l0 ((m : Int) + (i : Int)) = dg / 2 ^ (24 - 8 * i) % 256) ∧ w1 = wx)
 case atStart => exact ⟨0, by omega, rfl, ⟨fun i hi => absurd hi (Nat.not_lt_zero i)⟩, rfl⟩
 case round =>
  obtain ⟨j, hjg, rfl, HJ, rfl⟩ := hrel
  cases gk with
  | zero =>
   obtain rfl : j = 4 := by omega
   have hH := H.out
   rw [if_pos HJ.out] at hH
   obtain ⟨⟨pv, sv, vv⟩, hv, hH⟩ := Option.bind_eq_some_iff.mp hH
   obtain ⟨⟨pn, sn, nn⟩, hn, hH⟩ := Option.bind_eq_some_iff.mp hH
   obtain ⟨⟨pz, sz, dz⟩, hz, hH⟩ := Option.bind_eq_some_iff.mp hH
   simp only at hn hz hH
   obtain ⟨body, hbody⟩ : ∃ b, b = l0.take m := ⟨_, rfl⟩
   rw [← hbody] at hv hn hz HCB HLB
   have HC0B := Aside0.mk (show ∀ W, Below w.heap.size w W → ∀ W' : World, (∀ k, k < W.heap.size → W'.heap[k]? = W.heap[k]?) → (Kd.int .u8).C W' (some a0) m body from fun W hW W' hk => (Kd.heap_int _).C (fun k hk2 => (hk k (Nat.lt_of_lt_of_le hk2 hW.size)).trans (hW.block k hk2)) HCB.out)
   have HPV := Aside0.mk (spec_byte.le body 4 pv vv false sv (by rw [HLB.out]; have := HLM.out; omega) hv)
   have HPN := Aside0.mk (spec_byte.le body pv pn nn sv sn HPV.out.1 hn)
   have HM := Aside0.mk (show m ≤ 4000 by have := HLM.out; omega)
   have HV := Aside0.mk hv
   have HN := Aside0.mk hn
   have HZ := Aside0.mk hz
   have HH := Aside0.mk hH
   have HX4 := Aside0.mk (show ∀ W, Below w.heap.size w W → Kd.C (Kd.int .u8) W (some a0) l0.length l0 from fun W hW => Kd.C_below HR0.out hW)
   clear hv hn hz hH H HJ hbody cutB
   go_wp2_with (first
    | ((with_reducible refine gate_dst (N := 72) rfl ?_); refine box_event ?hg (N := 72) ?hd (cs := #[.slice (some a0) m c0, .int .i64 4, .bool false]) (t := 37) ?hr ?_; (case hd => rfl); (case hg => rfl); (case hr => first | (go_simp; done) | (go_simp; rfl)); intro gR hg w4 hbox hb; have HGR := Aside0.mk (show w.heap.size ≤ gR by rw [hg]; exact HB.out.size); have HI := Aside0.mk (show Sp.Is w4 gR body 4 false from ⟨some a0, c0, by rw [HLB.out]; exact hbox, by rw [HLB.out]; exact HCb.out, fun W' hW => by rw [HLB.out]; exact HC0B.out _ HB.out W' (fun k hk => (hW k (by omega)).trans (hb.block k hk))⟩); replace HB := Aside0.mk (below_step HB.out hb); clear hb hbox hg HCB HC0B)
    | (go_at_call 13; refine (spec_byte.calls gR 4 pv vv body false sv _ (by omega) HI.out HV.out).mono ?_; rintro e w5 ⟨rfl, hi, hk⟩; have HI1 := Aside0.mk hi; have HB1 := Aside0.mk (Kb.below HB.out hk HGR.out); clear hi hk HI HB HV)
    | (go_at_call 13; refine (spec_byte.calls gR pv pn nn body sv sn _ (by have := HPV.out.1; have := HLB.out; have := HM.out; omega) HI1.out HN.out).mono ?_; rintro e w6 ⟨rfl, hi, hk⟩; have HI2 := Aside0.mk hi; have HB2 := Aside0.mk (Kb.below HB1.out hk HGR.out); clear hi hk HI1 HB1 HN))
   go_loopg [10, 11] nn (fun gk v10 v11 wx => ∃ (p : Nat) (s : Bool) (d : List S41), v11 = .int .i64 (gk : Nat) ∧ p ≤ m ∧ Aside0 (d.length + gk ≤ 256) ∧ Aside0 (Sp.Is wx gR body p s) ∧ Aside0 (Kd.R k41 41 wx w.heap.size (fun k => gR < k) v10 d) ∧ Aside0 (Below w.heap.size w wx) ∧ Aside0 (spec_ReadSave.go body gk p s d = some (pz, sz, dz)))
   case atStart => exact ⟨pn, sn, [], rfl, by rw [← HLB.out]; exact HPN.out.1, ⟨by have := HPN.out.2; simp; omega⟩, HI2, ⟨Kd.R_nil _ _ _ _ _⟩, HB2, HZ⟩
   case round =>
    clear HI2 HB2 HZ
    obtain ⟨p, s, d, rfl, hpm, HDL, HI, HO, HB, HZ⟩ := hrel
    obtain ⟨Ad, cd, rfl⟩ := Kd.R_slice HO.out
    obtain ⟨wo, rfl⟩ : ∃ x, x = wr := ⟨_, rfl⟩
    obtain ⟨AL, cL, hbk, hlc, _⟩ := HI.out
    have hcz1 : wo.cell? ⟨gR, 1, none⟩ = some (.int .i64 (p : Nat)) := (blk_cell hbk 1).trans rfl
    have hcz2 : wo.cell? ⟨gR, 2, none⟩ = some (.bool s) := (blk_cell hbk 2).trans rfl
    have BK := Aside0.mk hbk
    clear hbk hlc
    cases gk with
    | zero =>
     have hZ : some (p, s, d) = some (pz, sz, dz) := HZ.out
     obtain ⟨rfl, h2⟩ := Prod.mk.inj (Option.some.inj hZ)
     obtain ⟨rfl, rfl⟩ := Prod.mk.inj h2
     have hH := HH.out
     clear hZ h2
     cases s with
     | true =>
      simp only [if_true] at hH
      obtain ⟨rfl, h2⟩ := Prod.mk.inj (Option.some.inj hH)
      obtain ⟨rfl, rfl⟩ := Prod.mk.inj h2
      clear hH h2 HH HZ
      go_wp2
      go_ret3
      exact ⟨_, rfl, Kd.R_nil _ _ _ _ _, HB.out⟩
     | false =>
      have hrr := Kd.R_reads' HO.out
      have HRR := Aside0.mk hrr
      clear hrr
      rw [if_neg (by decide)] at hH
      obtain ⟨b, hbb, hH⟩ := Option.bind_eq_some_iff.mp hH
      have HIN := Aside0.mk hbb
      clear hbb HZ
      cases b with
      | false =>
       rw [if_neg (by decide)] at hH
       obtain ⟨rfl, h2⟩ := Prod.mk.inj (Option.some.inj hH)
       obtain ⟨rfl, rfl⟩ := Prod.mk.inj h2
       clear hH h2 HH
       go_wp2_with (first
        | (go_at_call 15; refine (spec_l1In.calls ((vv : Nat) : Int) 1 250 false _ HIN.out).mono ?_; rintro e w6 ⟨rfl, hb⟩; replace HB := Aside0.mk (below_step HB.out hb.below); clear hb))
       go_ret3
       exact ⟨_, rfl, Kd.R_nil _ _ _ _ _, HB.out⟩
      | true =>
       rw [if_pos rfl] at hH
       split at hH
       ·rename_i hlp
        have hlp2 : (p : Int) < (m : Int) := by omega
        obtain ⟨rfl, h2⟩ := Prod.mk.inj (Option.some.inj hH)
        obtain ⟨rfl, rfl⟩ := Prod.mk.inj h2
        clear hH h2 HH
        go_wp2_with (first
         | (go_at_call 15; refine (spec_l1In.calls ((vv : Nat) : Int) 1 250 true _ HIN.out).mono ?_; rintro e w6 ⟨rfl, hb⟩; replace HB := Aside0.mk (below_step HB.out hb.below); replace hcz1 : w6.cell? ⟨gR, 1, none⟩ = some (.int .i64 (p : Nat)) := (blk_cell (blk_below BK.out hb.below) 1).trans rfl; clear hb))
        go_ret3
        exact ⟨_, rfl, Kd.R_nil _ _ _ _ _, HB.out⟩
       ·rename_i hlp
        have hlp2 : ¬ ((p : Int) < (m : Int)) := by omega
        obtain ⟨gg, hgg, hH⟩ := Option.bind_eq_some_iff.mp hH
        have HGG := Aside0.mk hgg
        clear hgg
        cases gg with
        | true =>
         rw [if_pos rfl] at hH
         obtain ⟨rfl, h2⟩ := Prod.mk.inj (Option.some.inj hH)
         obtain ⟨rfl, rfl⟩ := Prod.mk.inj h2
         clear hH h2 HH
         go_wp2_with (first
          | (go_at_call 15; refine (spec_l1In.calls ((vv : Nat) : Int) 1 250 true _ HIN.out).mono ?_; rintro e w6 ⟨rfl, hb⟩; replace HB := Aside0.mk (below_step HB.out hb.below); replace HO := Aside0.mk (Kd.R_below HO.out hb.below); replace HRR := Aside0.mk (Kd.R_reads' HO.out); replace hcz1 : w6.cell? ⟨gR, 1, none⟩ = some (.int .i64 (p : Nat)) := (blk_cell (blk_below BK.out hb.below) 1).trans rfl; clear hb)
          | (go_at_call 16; refine (spec_GoodValues.calls k Ad cd d true _ HRR.out.2.2 HRR.out.2.1 HGG.out).mono ?_; rintro e w7 ⟨rfl, hb⟩; replace HB := Aside0.mk (below_step HB.out hb); replace HO := Aside0.mk (Kd.R_below HO.out hb); clear hb))
         go_ret3
         exact ⟨_, rfl, Kd.R_mono HO.out (fun _ _ => trivial), HB.out⟩
        | false =>
         rw [if_neg (by decide)] at hH
         obtain ⟨rfl, h2⟩ := Prod.mk.inj (Option.some.inj hH)
         obtain ⟨rfl, rfl⟩ := Prod.mk.inj h2
         clear hH h2 HH
         go_wp2_with (first
          | (go_at_call 15; refine (spec_l1In.calls ((vv : Nat) : Int) 1 250 true _ HIN.out).mono ?_; rintro e w6 ⟨rfl, hb⟩; replace HB := Aside0.mk (below_step HB.out hb.below); replace HO := Aside0.mk (Kd.R_below HO.out hb.below); replace HRR := Aside0.mk (Kd.R_reads' HO.out); replace hcz1 : w6.cell? ⟨gR, 1, none⟩ = some (.int .i64 (p : Nat)) := (blk_cell (blk_below BK.out hb.below) 1).trans rfl; clear hb)
          | (go_at_call 16; refine (spec_GoodValues.calls k Ad cd d false _ HRR.out.2.2 HRR.out.2.1 HGG.out).mono ?_; rintro e w7 ⟨rfl, hb⟩; replace HB := Aside0.mk (below_step HB.out hb); clear hb))
         go_ret3
         exact ⟨_, rfl, Kd.R_nil _ _ _ _ _, HB.out⟩
    | succ go =>
     have hgo : (0 : Int) < ((go : Nat) : Int) + 1 := by omega
     have hgo2 : go < 256 := by have := HDL.out; omega
     cases s with
     | true =>
      have hZ : some (p, true, d) = some (pz, sz, dz) := HZ.out
      obtain ⟨rfl, h2⟩ := Prod.mk.inj (Option.some.inj hZ)
      obtain ⟨rfl, rfl⟩ := Prod.mk.inj h2
      have hH := HH.out
      clear hZ h2
      simp only [if_true] at hH
      obtain ⟨rfl, h2⟩ := Prod.mk.inj (Option.some.inj hH)
      obtain ⟨rfl, rfl⟩ := Prod.mk.inj h2
      clear hH h2 HH HZ
      go_wp2
      go_ret3
      exact ⟨_, rfl, Kd.R_nil _ _ _ _ _, HB.out⟩
     | false =>
      have hZ : ((spec_byte.f body p false).bind fun a => (spec_byte.f body (spec_take.f body (spec_take.f body a.1 a.2.1 a.2.2).1 (spec_take.f body a.1 a.2.1 a.2.2).2.1 8).1 (spec_take.f body (spec_take.f body a.1 a.2.1 a.2.2).1 (spec_take.f body a.1 a.2.1 a.2.2).2.1 8).2.1).bind fun e => spec_ReadSave.go body go (spec_take.f body e.1 e.2.1 e.2.2).1 (spec_take.f body e.1 e.2.1 e.2.2).2.1 (d ++ [⟨strOfNums (spec_take.f body a.1 a.2.1 a.2.2).2.2, wrap64 (spec_num 0 0 (spec_take.f body (spec_take.f body a.1 a.2.1 a.2.2).1 (spec_take.f body a.1 a.2.1 a.2.2).2.1 8).2.2), strOfNums (spec_take.f body e.1 e.2.1 e.2.2).2.2⟩])) = some (pz, sz, dz) := HZ.out
      obtain ⟨⟨p1, s1, v1⟩, hx1, hZ⟩ := Option.bind_eq_some_iff.mp hZ
      simp only at hZ
      obtain ⟨⟨p2, s2, o2⟩, h2⟩ : ∃ x, x = spec_take.f body p1 s1 v1 := ⟨_, rfl⟩
      rw [← h2] at hZ
      obtain ⟨⟨p3, s3, o3⟩, h3⟩ : ∃ x, x = spec_take.f body p2 s2 8 := ⟨_, rfl⟩
      simp only at hZ
      rw [← h3] at hZ
      obtain ⟨⟨p4, s4, v4⟩, hx4, hZ⟩ := Option.bind_eq_some_iff.mp hZ
      simp only at hZ hx4
      obtain ⟨⟨p5, s5, o5⟩, h5⟩ : ∃ x, x = spec_take.f body p4 s4 v4 := ⟨_, rfl⟩
      rw [← h5] at hZ
      have HLB' := HLB.out
      have e1 := spec_byte.le body p p1 v1 false s1 (by omega) hx1
      have e2 := spec_take.le body p1 s1 v1 e1.1
      rw [← h2] at e2
      have e3 := spec_take.le body p2 s2 8 e2
      rw [← h3] at e3
      have e4 := spec_byte.le body p3 p4 v4 s3 s4 e3 hx4
      have e5 := spec_take.le body p4 s4 v4 e4.1
      rw [← h5] at e5
      have hl3 := spec_take.length body p2 s2 8
      rw [← h3] at hl3
      simp only at e2 e3 e5 hl3
      rw [HLB'] at e1 e2 e3 e4 e5
      have HE := Aside0.mk (show p ≤ 4000 ∧ p1 ≤ 4000 ∧ v1 ≤ 1000 ∧ p2 ≤ 4000 ∧ p3 ≤ 4000 ∧ p4 ≤ 4000 ∧ v4 ≤ 1000 by have := HM.out; omega)
      have HE5 := Aside0.mk e5
      have HL3 := Aside0.mk hl3
      have HX1 := Aside0.mk hx1
      have HT2 := Aside0.mk h2.symm
      have HT3 := Aside0.mk h3.symm
      have HX4' := Aside0.mk hx4
      have HT5 := Aside0.mk h5.symm
      have HZ2 := Aside0.mk hZ
      clear hx1 h2 h3 hx4 h5 hZ e1 e2 e3 e4 e5 hl3 HLB' HZ BK
      go_wp2_with (first
       | (go_at_call 13; refine (spec_byte.calls gR p p1 v1 body false s1 _ (by have := HE.out; omega) HI.out HX1.out).mono ?_; rintro e w6 ⟨rfl, hi, hk⟩; have HI1 := Aside0.mk hi; have HO1 := Aside0.mk (Kd.R_keep HO.out hk.1 (fun _ h => Nat.ne_of_gt h)); have HB1 := Aside0.mk (Kb.below HB.out hk HGR.out); clear hi hk HI HO HB HX1)
       | (go_at_call 14; refine (spec_take.calls gR v1 p1 p2 body o2 s1 s2 _ (by have := HE.out; omega) (by have := HE.out; omega) HI1.out HT2.out).mono ?_; rintro e w7 ⟨A2, c2, rfl, hi, hlc, hf, hk⟩; have HI2 := Aside0.mk hi; have HO2 := Aside0.mk (Kd.R_keep HO1.out hk.1 (fun _ h => Nat.ne_of_gt h)); have HB2 := Aside0.mk (Kb.below HB1.out hk HGR.out); have hst := Kd.C_string (P := Try.prog) (c := c2) Try.underlying22 Try.underlying5 Try.underlying9 hf; clear hi hlc hf hk HI1 HO1 HB1 HT2)
       | ((with_reducible refine gate_dst (N := 12) rfl ?_); refine box_event ?hg (N := 12) ?hd (cs := #[.string ⟨#[]⟩, .int .i64 0, .string ⟨#[]⟩]) (t := 41) ?hr ?_; (case hd => rfl); (case hg => rfl); (case hr => first | (go_simp; done) | (go_simp; rfl)); intro gV hg w8 hbox hb; have hgl_ := HI2.out.lt; have HRV := Aside0.mk (show gR < gV by omega); have HGV := Aside0.mk (show w.heap.size ≤ gV by rw [hg]; exact HB2.out.size); have HO3 := Aside0.mk (show Kd.R k41 41 w8 w.heap.size (fun k => gR < k ∧ k ≠ gV) (.slice Ad d.length cd) d from Kd.R_below (Kd.R_elderB HO2.out gV (by omega)) hb); have HI3 := Aside0.mk (HI2.out.keep hb); have HB3 := Aside0.mk (below_step HB2.out hb); have BK := Aside0.mk hbox; have hcz0 : w8.cell? ⟨gV, 0, none⟩ = some (.string ⟨#[]⟩) := (blk_cell hbox 0).trans rfl; have hcz1 : w8.cell? ⟨gV, 1, none⟩ = some (.int .i64 0) := (blk_cell hbox 1).trans rfl; have hcz2 : w8.cell? ⟨gV, 2, none⟩ = some (.string ⟨#[]⟩) := (blk_cell hbox 2).trans rfl; have hfz0 := blk_frozen hbox 0; have hfz1 := blk_frozen hbox 1; have hfz2 := blk_frozen hbox 2; clear hbox hb hg hgl_ HI2 HO2 HB2 hst)
       | ((with_reducible refine gate_store (t := 41) (p := 12) rfl ?_); refine store_event (t := 41) (p := 12) (v := ?vo) (w1 := (((w8.setCell ⟨gV, 0, none⟩ (.string (strOfNums o2))).setCell ⟨gV, 1, none⟩ (.int .i64 0)).setCell ⟨gV, 2, none⟩ (.string ⟨#[]⟩))) ?hg ?ho ?hn ?hr ?_; (case ho => rfl); (case hg => rfl); (case hn => rfl); (case hr => first | (go_simp; done) | (go_simp; rfl)); intro w9 hw; have HI4 := Aside0.mk (show Sp.Is w9 gR body p2 s2 by rw [hw]; exact ((HI3.out.far HRV.out).far HRV.out).far HRV.out); have HO4 := Aside0.mk (show Kd.R k41 41 w9 w.heap.size (fun k => gR < k ∧ k ≠ gV) (.slice Ad d.length cd) d by rw [hw]; exact Kd.R_far (Kd.R_far (Kd.R_far HO3.out (fun k hk => hk.2) _) (fun k hk => hk.2) _) (fun k hk => hk.2) _); have HB4 := Aside0.mk (show Below w.heap.size w w9 by rw [hw]; exact below_set (below_set (below_set HB3.out HGV.out) HGV.out) HGV.out); have BK4 := Aside0.mk (show w9.heap[gV]? = some (.cells #[.string (strOfNums o2), .int .i64 0, .string ⟨#[]⟩] 41 (0, 0)) by rw [hw]; exact blk_put (cs := #[.string (strOfNums o2), .int .i64 0, .string ⟨#[]⟩]) (blk_put (cs := #[.string (strOfNums o2), .int .i64 0, .string ⟨#[]⟩]) (blk_put (cs := #[.string ⟨#[]⟩, .int .i64 0, .string ⟨#[]⟩]) BK.out 0 _ rfl) 1 _ rfl) 2 _ rfl); clear hw HI3 HO3 HB3 BK hcz0 hcz1 hcz2 hfz0 hfz1 hfz2)
       | (go_at_call 14; refine (spec_take.calls gR 8 p2 p3 body o3 s2 s3 _ (by omega) (by have := HE.out; omega) HI4.out HT3.out).mono ?_; rintro e w10 ⟨A3, c3, rfl, hi, hlc, hf, hk⟩; have HI5 := Aside0.mk hi; have HO5 := Aside0.mk (Kd.R_keep HO4.out hk.1 (fun _ h => Nat.ne_of_gt h.1)); have HB5 := Aside0.mk (Kb.below HB4.out hk HGR.out); have BK5 := Aside0.mk (hk.blk BK4.out (by have := HRV.out; omega)); have HF := Aside0.mk hf; clear hi hlc hf hk HI4 HO4 HB4 BK4))
      go_loopg [13, 97] o3.length (fun gk v13 v97 wx => ∃ (j : Nat) (u : Int), j + gk = o3.length ∧ v97 = .int .i64 (j : Nat) ∧ v13 = .int .u64 u ∧ Aside0 (spec_num j u (o3.drop j) = spec_num 0 0 o3) ∧ w10 = wx)
      case atStart => exact ⟨0, 0, by omega, rfl, rfl, ⟨rfl⟩, rfl⟩
      case round =>
       obtain ⟨j, u, hjg, rfl, rfl, HN, rfl⟩ := hrel
       cases gk with
       | zero =>
        have hju : j = o3.length := by omega
        have hn8 : ¬ ((j : Int) < (o3.length : Int)) := by omega
        have hu : u = spec_num 0 0 o3 := by
         have h_ := HN.out
         rw [List.drop_eq_nil_of_le (by omega)] at h_
         exact h_
        rw [← hu] at HZ2
        clear hu HN hju hjg
        have hbV := BK5.out
        have hcz1 : w10.cell? ⟨gV, 1, none⟩ = some (.int .i64 0) := (blk_cell hbV 1).trans rfl
        have hfz1 := blk_frozen hbV 1
        have BK6 := Aside0.mk (show (w10.setCell ⟨gV, 1, none⟩ (.int .i64 (wrap64 u))).heap[gV]? = some (.cells #[.string (strOfNums o2), .int .i64 (wrap64 u), .string ⟨#[]⟩] 41 (0, 0)) from blk_put hbV 1 (.int .i64 (wrap64 u)) rfl)
        have HI6 := Aside0.mk (show Sp.Is (w10.setCell ⟨gV, 1, none⟩ (.int .i64 (wrap64 u))) gR body p3 s3 from HI5.out.far HRV.out)
        have HO6 := Aside0.mk (show Kd.R k41 41 (w10.setCell ⟨gV, 1, none⟩ (.int .i64 (wrap64 u))) w.heap.size (fun k => gR < k ∧ k ≠ gV) (.slice Ad d.length cd) d from Kd.R_far HO5.out (fun k hk => hk.2) _)
        have HB6 := Aside0.mk (show Below w.heap.size w (w10.setCell ⟨gV, 1, none⟩ (.int .i64 (wrap64 u))) from below_set HB5.out HGV.out)
        clear HI5 HO5 HB5 BK5 hbV
        go_wp2_with (first
         | (go_at_call 13; refine (spec_byte.calls gR p3 p4 v4 body s3 s4 _ (by have := HE.out; omega) HI6.out HX4'.out).mono ?_; rintro e w11 ⟨rfl, hi, hk⟩; have HI7 := Aside0.mk hi; have HO7 := Aside0.mk (Kd.R_keep HO6.out hk.1 (fun _ h => Nat.ne_of_gt h.1)); have HB7 := Aside0.mk (Kb.below HB6.out hk HGR.out); have BK7 := Aside0.mk (hk.blk BK6.out (by have := HRV.out; omega)); clear hi hk HI6 HO6 HB6 BK6 HX4')
         | (go_at_call 14; refine (spec_take.calls gR v4 p4 p5 body o5 s4 s5 _ (by have := HE.out; omega) (by have := HE.out; omega) HI7.out HT5.out).mono ?_; rintro e w12 ⟨A5, c5, rfl, hi, hlc, hf, hk⟩; have HO8 := Aside0.mk (Kd.R_keep HO7.out hk.1 (fun _ h => Nat.ne_of_gt h.1)); have HB8 := Aside0.mk (Kb.below HB7.out hk HGR.out); have hb_ := hk.blk BK7.out (by have := HRV.out; omega); have hst := Kd.C_string (P := Try.prog) (c := c5) Try.underlying22 Try.underlying5 Try.underlying9 hf; have hcz2 : w12.cell? ⟨gV, 2, none⟩ = some (.string ⟨#[]⟩) := (blk_cell hb_ 2).trans rfl; have hfz2 := blk_frozen hb_ 2; have hb2_ := blk_put (cs' := #[.string (strOfNums o2), .int .i64 (wrap64 u), .string (strOfNums o5)]) hb_ 2 (.string (strOfNums o5)) rfl; have hcv0 : (w12.setCell ⟨gV, 2, none⟩ (.string (strOfNums o5))).cell? ⟨gV, 0, none⟩ = some (.string (strOfNums o2)) := (blk_cell hb2_ 0).trans rfl; have hcv1 : (w12.setCell ⟨gV, 2, none⟩ (.string (strOfNums o5))).cell? ⟨gV, 1, none⟩ = some (.int .i64 (wrap64 u)) := (blk_cell hb2_ 1).trans rfl; have hcv2 : (w12.setCell ⟨gV, 2, none⟩ (.string (strOfNums o5))).cell? ⟨gV, 2, none⟩ = some (.string (strOfNums o5)) := (blk_cell hb2_ 2).trans rfl; have HI9 := Aside0.mk (show Sp.Is (w12.setCell ⟨gV, 2, none⟩ (.string (strOfNums o5))) gR body p5 s5 from hi.far HRV.out); have HO9 := Aside0.mk (show Kd.R k41 41 (w12.setCell ⟨gV, 2, none⟩ (.string (strOfNums o5))) w.heap.size (fun k => gR < k ∧ k ≠ gV) (.slice Ad d.length cd) d from Kd.R_far HO8.out (fun k hk => hk.2) _); have HB9 := Aside0.mk (show Below w.heap.size w (w12.setCell ⟨gV, 2, none⟩ (.string (strOfNums o5))) from below_set HB8.out HGV.out); clear hi hlc hf hk hb_ hb2_ HI7 HO7 HO8 HB7 HB8 BK7 HT5)
         | ((with_reducible refine gate_builtin (b := .append) (xs := #[.tmp 120, .tmp 122]) rfl ?_); at_builtin; have hgl_ := HI9.out.lt; refine Kd.R_append k41 (w0 := w) w.heap.size rfl (.tmp 120) (.tmp 122) 23 41 (.agg #[.string ⟨#[]⟩, .int .i64 0, .string ⟨#[]⟩]) 40 rfl Try.underlying23 info41 rfl (by decide) (by omega) (.slice Ad d.length cd) d (⟨strOfNums o2, wrap64 u, strOfNums o5⟩ : S41) [.string (strOfNums o2), .int .i64 (wrap64 u), .string (strOfNums o5)] (fun k => gR < k) (fun _ => False) rfl ?aX ?aP (fun _ hk => hk.elim) ?aF ?aO ?aB ?aS ?aL ?_; (case aX => first | rfl | (go_simp; done) | (go_simp; rfl)); (case aP => exact k41_mkM _ _ _ (⟨strOfNums o2, wrap64 u, strOfNums o5⟩ : S41)); (case aB => exact HB9.out); (case aF => intro k_ hk_; omega); (case aO => exact Kd.R_mono HO9.out (fun _ h => h.1)); (case aS => exact below_size HB9.out); (case aL => have := HDL.out; omega); intro v1 w13 ho hb hg hat; have HO10 := Aside0.mk ho; have HB10 := Aside0.mk hb; have HI10 := Aside0.mk (HI9.out.step (fun k_ hk_ => hg.block k_ (by omega) (fun e_ => by have ho_ := (HO9.out.1 k_ e_.symm).1; omega))); clear ho hb hg hat hgl_))
        go_roundg go
        case measure => omega
        case rel => exact ⟨p5, s5, _, by go_num, HE5.out, ⟨by rw [List.length_append]; have := HDL.out; simp; omega⟩, HI10, HO10, HB10, HZ2⟩
       | succ gj2 =>
        have hj8 : (j : Int) < (o3.length : Int) := by omega
        have hj0' : (0 : Int) ≤ (j : Int) := by omega
        have hjb : j < 8 := by
         rcases HL3.out with h_ | h_
         ·rw [h_] at hjg; simp at hjg
         ·omega
        obtain ⟨a2, rfl, hxj⟩ := Kd.at_int HF.out (j : Int) hj0' hj8
        rw [Int.toNat_natCast] at hxj
        have h8j : wrap64 (8 * (j : Int)) = 8 * (j : Int) := by unfold wrap64; omega
        have h8n : ¬ (8 * (j : Int) < 0) := by omega
        go_wp2
        go_roundg gj2
        case measure => omega
        case rel =>
         refine ⟨j + 1, _, by omega, by go_num, rfl, ⟨?_⟩, rfl⟩
         have h_ := HN.out
         have hjl : j < o3.length := by omega
         rw [List.drop_eq_getElem_cons hjl] at h_
         rw [← h_]
         have hrd : rd o3 (j : Int) = o3[j] := by simp [rd, List.getD_eq_getElem?_getD, hjl]
         rw [hrd]
         rfl
  | succ gj =>
   have hj4 : (j : Int) < 4 := by omega
   obtain ⟨a1, ha1, hxj⟩ := Kd.at_int HR0.out ((m + j : Nat) : Int) (by omega) (by have := HLM.out; omega)
   obtain rfl := Option.some.inj ha1
   have hbd : (m : Int) + (j : Int) < (l0.length : Int) := by have := HLM.out; omega
   have hbw : wrap64 ((m : Int) + (j : Int)) = (m : Int) + (j : Int) := by have := HLM.out; unfold wrap64; omega
   have hb0 : (0 : Int) ≤ (m : Int) + (j : Int) := by omega
   have h8j : wrap64 (8 * (j : Int)) = 8 * (j : Int) := by unfold wrap64; omega
   have h24 : wrap64 (24 - 8 * (j : Int)) = 24 - 8 * (j : Int) := by unfold wrap64; omega
   replace hxj := (HB.out.cell (World.block_lt_of_cell? _ _ hxj)).trans hxj
   rw [Int.toNat_natCast, Int.natCast_add] at hxj
   by_cases cj : rd l0 ((m : Int) + (j : Int)) = dg / 2 ^ (24 - 8 * j) % 256
   ·have hcj : (rd l0 ((m : Int) + (j : Int)) != dg / 2 ^ (24 - 8 * j) % 256) = false := bne_eq_false_iff_eq.mpr cj
    have HCJ := Aside0.mk cj
    clear cj
    go_wp2
    go_roundg gj
    case measure => omega
    case rel =>
     refine ⟨j + 1, by omega, by go_num, ⟨fun i hi => ?_⟩, rfl⟩
     by_cases e : i = j
     ·rw [e]; exact HCJ.out
     ·exact HJ.out i (by omega)
   ·have hcj : (rd l0 ((m : Int) + (j : Int)) != dg / 2 ^ (24 - 8 * j) % 256) = true := bne_iff_ne.mpr cj
    have hH := H.out
    rw [if_neg (fun h_ => cj (h_ j (by omega)))] at hH
    obtain ⟨rfl, h2⟩ := Prod.mk.inj (Option.some.inj hH)
    obtain ⟨rfl, rfl⟩ := Prod.mk.inj h2
    clear hH h2 cj H
    go_wp2
    go_ret3
    exact ⟨_, rfl, Kd.R_nil _ _ _ _ _, HB.out⟩
def laws_toByteS.l0 : Nat → List Int → List Int → Int → Option (List Int)
 | 0, _, _, _ => none
 | k + 1, x0, x3, x4 => if x4 < (x0.length : Int) then (if 0 ≤ x4 then (if x4 < (x3.length : Int) then (laws_toByteS.l0 k x0 (x3.set (x4 : Int).toNat (rd x0 x4)) (wrap64 (x4 + 1))) else (none)) else (none)) else (some x3)
def laws_toByteS.f (k : Nat) (l0 : List Int) : Option (List Int) := if 0 ≤ (l0.length : Int) then (if ((l0.length : Int) : Int).toNat ≤ 281474976710656 then (laws_toByteS.l0 k l0 (List.replicate ((l0.length : Int) : Int).toNat 0) 0) else (none)) else (none)
theorem laws_toByteS.mono_l : ∀ k, (∀ y0 y1 y2, LeO (laws_toByteS.l0 k y0 y1 y2) (laws_toByteS.l0 (k + 1) y0 y1 y2))
 | 0 => fun _ _ _ r h => by simp [laws_toByteS.l0] at h
 | k + 1 => by
  have ih0 := laws_toByteS.mono_l k
  ·intro y0 y1 y2
   unfold laws_toByteS.l0
   repeat' first
   | (with_reducible exact ih0 _ _ _)
   | (with_reducible first | exact LeO.refl _ | exact LeO.none _ | refine LeO.ite ?_ ?_ | refine LeO.bind ?_ (fun _ => ?_))
   | exact ih0 _ _ _ | exact LeO.none _ | refine LeO.ite ?_ ?_ | refine LeO.bind ?_ (fun _ => ?_)
theorem laws_toByteS.mono : ∀ a0 k, LeO (laws_toByteS.f k a0) (laws_toByteS.f (k + 1) a0) := by
 intro a0 k
 have ih0 := laws_toByteS.mono_l k
 unfold laws_toByteS.f
 repeat' first
   | (with_reducible exact ih0 _ _ _)
   | (with_reducible first | exact LeO.refl _ | exact LeO.none _ | refine LeO.ite ?_ ?_ | refine LeO.bind ?_ (fun _ => ?_))
   | exact ih0 _ _ _ | exact LeO.none _ | refine LeO.ite ?_ ?_ | refine LeO.bind ?_ (fun _ => ?_)
set_option maxHeartbeats 8000000 in
set_option maxRecDepth 100000 in
theorem laws_toByteS.calls (k : Nat) (A0 : Option Addr) (c0 : Nat) (l0 : List Int) (r : List Int) (w : World) (hr0 : Kd.C (Kd.int .u8) w A0 l0.length l0) (hc0 : l0.length ≤ c0) (h : laws_toByteS.f k l0 = some r) :
  Calls Try.prog 5 #[.slice A0 l0.length c0] w fun e w' => ∃ v0_ : Value, e = .returned (v0_) ∧ Kd.R (Kd.int .u8) 5 w' w.heap.size (fun _ => True) v0_ r ∧ Below w.heap.size w w' := by
 have HR0 := Aside0.mk hr0
 have HC0 := Aside0.mk hc0
 clear hr0 hc0
 have HB := Aside0.mk (Below.refl w.heap.size w)
 have H : (if 0 ≤ (l0.length : Int) then (if ((l0.length : Int) : Int).toNat ≤ 281474976710656 then (laws_toByteS.l0 k l0 (List.replicate ((l0.length : Int) : Int).toNat 0) 0) else (none)) else (none)) = some r := h
 clear h
 by_cases c2 : 0 ≤ (l0.length : Int)
 ·rw [if_pos c2] at H
  have c2b0 := eq_true c2
  have c2b1 : decide (0 ≤ (l0.length : Int)) = true := decide_eq_true c2
  clear c2
  by_cases c3 : ((l0.length : Int) : Int).toNat ≤ 281474976710656
  ·rw [if_pos c3] at H
   have c3b0 := eq_true c3
   have c3b1 : decide (((l0.length : Int) : Int).toNat ≤ 281474976710656) = true := decide_eq_true c3
   clear c3
   obtain ⟨y109, hy109⟩ : ∃ y_ : List Int, y_ = (List.replicate ((l0.length : Int) : Int).toNat 0) := ⟨_, rfl⟩
   replace H : (laws_toByteS.l0 k l0 y109 0) = some r := by first | (rw [hy109]; with_reducible exact H) | (have H2_ := (Option.bind_some _ _).symm.trans H; rw [hy109]; with_reducible exact H2_) | (have H2_ := (Option.bind_some _ _).symm.trans H; with_reducible exact H2_) | with_reducible exact H | (rw [hy109]; exact H) | exact H
   have Ny109 := Aside0.mk hy109
   clear hy109
   have H' := Aside0.mk H
   clear H
   go_enter Try.func5, Try.ntmps5
   go_wp2_with (first | ((with_reducible refine gate_dst (N := 7) rfl ?_); refine Kd.R_make (Kd.int .u8) _ 5 rfl (N := 7) rfl 22 _ _ rfl (l0.length : Int) rfl rfl Try.underlying22 (.int .u8 0) 1 info5 rfl (by decide) (by omega) 0 (ok := fun _ => True) (okp := fun _ => True) rfl (fun _ hk => hk) trivial (of_decide_eq_true (by first | (with_reducible assumption) | assumption)) (Nat.le_trans (Nat.mul_le_mul_right _ (of_decide_eq_true (by first | (with_reducible assumption) | assumption) : (l0.length : Int).toNat ≤ 281474976710656)) (by omega)) (Below.refl _ _) (Nat.le_refl _) ?_; intro v110 w4 ho5 hb hg_ hnew_; clear hg_ hnew_; (first | rw [← Ny109.out] at ho5 | (simp only [Int.reduceToNat] at ho5; rw [← Ny109.out] at ho5)); have n0_ := Aside0.mk (Kd.R_lower ho5 (below_size (by repeat (first | (with_reducible first | exact HB.out | apply below_alloc | apply pw_below_drewN | apply below_drew1) | exact HB.out)))); have n1_ := Aside0.mk (below_step (by repeat (first | (with_reducible first | exact HB.out | apply below_alloc | apply pw_below_drewN | apply below_drew1) | exact HB.out)) hb); clear HB; have HO111 := n0_; have HB := n1_; clear n0_ n1_; clear hb ho5))
   (try simp only [Act.put, List.setIfInBounds_toArray, List.set_cons_zero, List.set_cons_succ])
   go_loopg [4] k (fun kq v4 w' => ∃ (x3_1 : List Int) (x4_1 : Int), v4 = .int .i64 x4_1 ∧ Aside0 (laws_toByteS.l0 kq l0 x3_1 x4_1 = some r) ∧ Aside0 (kq ≤ k) ∧ Aside0 (Kd.R (Kd.int .u8) 5 w' w.heap.size (fun _ => True) v110 x3_1) ∧ Aside0 (Below w.heap.size w w'))
   case atStart => exact ⟨(y109), (0), (by first | rfl | (simp; done) | (simp [*]; done) | exact not_isEmpty _ | exact (not_isEmpty _).symm | exact is_empty _ | exact (is_empty _).symm), H', ⟨Nat.le_refl _⟩, ⟨by (with_reducible repeat (first | apply Kd.R_alloc | apply Kd.R_drewN | apply Kd.R_drew)); exact HO111.out⟩, ⟨by repeat (first | (with_reducible first | exact HB.out | apply below_alloc | apply pw_below_drewN | apply below_drew1) | exact HB.out)⟩⟩
   case round =>
    clear H'
    try clear c2
    try clear c2b0
    try clear c2b1
    try clear p2
    try clear c3
    try clear c3b0
    try clear c3b1
    try clear c5
    obtain ⟨x3_1, x4_1, rfl, HA, HK1, HO_3, HB⟩ := hrel
    cases gk with
    | zero => exact absurd HA.out (by simp [laws_toByteS.l0])
    | succ k1 =>
     have H := HA.out
     clear HA
     simp only [laws_toByteS.l0] at H
     by_cases c6 : x4_1 < (l0.length : Int)
     ·rw [if_pos c6] at H
      have c6b0 : decide (x4_1 < (l0.length : Int)) = true := decide_eq_true c6
      clear c6
      by_cases c7 : 0 ≤ x4_1
      ·rw [if_pos c7] at H
       have c7b0 : decide (0 ≤ x4_1) = true := decide_eq_true c7
       clear c7
       by_cases c8 : x4_1 < (x3_1.length : Int)
       ·rw [if_pos c8] at H
        have c8b0 : decide (x4_1 < (x3_1.length : Int)) = true := decide_eq_true c8
        clear c8
        obtain ⟨y113, hy113⟩ : ∃ y_ : List Int, y_ = (x3_1.set (x4_1 : Int).toNat (rd l0 x4_1)) := ⟨_, rfl⟩
        replace H : (laws_toByteS.l0 k1 l0 y113 (wrap64 (x4_1 + 1))) = some r := by first | (rw [hy113]; with_reducible exact H) | (have H2_ := (Option.bind_some _ _).symm.trans H; rw [hy113]; with_reducible exact H2_) | (have H2_ := (Option.bind_some _ _).symm.trans H; with_reducible exact H2_) | with_reducible exact H | (rw [hy113]; exact H) | exact H
        have Ny113 := Aside0.mk hy113
        clear hy113
        have H' := Aside0.mk H
        clear H
        have p112 : 0 ≤ (x4_1 : Int) := of_decide_eq_true (by first | (with_reducible assumption) | assumption)
        have q112 : x4_1 < (l0.length : Int) := of_decide_eq_true (by first | (with_reducible assumption) | assumption)
        obtain ⟨ad112, e112, hx112_0⟩ := Kd.at_int HR0.out x4_1 p112 q112
        cases e112
        replace hx112_0 := (HB.out.cell (World.block_lt_of_cell? w _ hx112_0)).trans hx112_0
        replace p112 := eq_true p112
        replace q112 := eq_true q112
        have p9 : 0 ≤ (x4_1 : Int) := of_decide_eq_true (by first | (with_reducible assumption) | assumption)
        have q9 : (x4_1 : Int) < ((x3_1.length : Int) : Int) := of_decide_eq_true (by first | (with_reducible assumption) | assumption)
        obtain ⟨go9, co9, eo9, gb9, gl9, cl9, HG9⟩ := Kd.R_form HO_3.out (by omega)
        (first | cases eo9 | (injection eo9 with ea_ en_ ec_; (first | subst ea_ | (injection ea_ with ea_; subst ea_)); subst ec_; clear en_))
        have GB9 := Aside0.mk gb9
        have GG9 := Aside0.mk HG9
        clear gb9 gl9 HG9
        obtain ⟨hx9_0, hf9_0⟩ := Kd.R_celln 0 HO_3.out (x4_1 : Int) p9 q9
        replace p9 := eq_true p9
        replace q9 := eq_true q9
        have HP10 := Kd.R_putg HO_3.out (x4_1 : Int) (rd l0 x4_1)
        go_wp2_with (first | ((with_reducible refine gate_store (t := 5) (p := 20) rfl ?_); refine store_event (t := 5) (p := 20) (v := ?vo_w11) (w1 := (wr.setCell ⟨go9, (x4_1 : Int).toNat, none⟩ (.int .u8 (rd l0 x4_1)))) ?hg ?ho ?hn ?hr ?_; (case ho => rfl); (case hg => rfl); (case hn => rfl); (case hr => first | (go_simp; done) | (go_simp; rfl)); intro w11 hw; have hg : wr.grownBy w11 (some go9) := (by rw [hw]; exact HP10.2); have hp_ : Kd.R (Kd.int .u8) 5 w11 w.heap.size (fun _ => True) (.slice (some ⟨go9, 0, none⟩) x3_1.length co9) y113 := (by rw [hw, Ny113.out]; exact HP10.1); clear HP10; have n0_ := Aside0.mk (hp_); have n1_ := Aside0.mk ((by rw [hw]; exact below_set (HB.out) GB9.out : Below w.heap.size w w11)); clear HO_3; clear HB; have HO_3 := n0_; have HB := n1_; clear n0_ n1_; clear hg hw hp_))
        go_roundg k1
        case measure => have := HK1.out; omega
        case rel => exact ⟨(y113), (wrap64 (x4_1 + 1)), (by first | rfl | (simp; done) | (simp [*]; done) | exact not_isEmpty _ | exact (not_isEmpty _).symm | exact is_empty _ | exact (is_empty _).symm), H', ⟨by have := HK1.out; omega⟩, ⟨by (with_reducible repeat (first | apply Kd.R_alloc | apply Kd.R_drewN | apply Kd.R_drew)); exact HO_3.out⟩, ⟨by repeat (first | (with_reducible first | exact HB.out | apply below_alloc | apply pw_below_drewN | apply below_drew1) | exact HB.out)⟩⟩
       ·rw [if_neg c8] at H
        exact absurd H (by simp)
      ·rw [if_neg c7] at H
       exact absurd H (by simp)
     ·rw [if_neg c6] at H
      have c6b0 : decide (x4_1 < (l0.length : Int)) = false := decide_eq_false c6
      clear c6
      obtain rfl := Option.some.inj H
      go_wp2
      go_ret
      exact ⟨_, by first | rfl | (simp [errW_none, errW_some] <;> rfl) | (simp [*, errW_none, errW_some] <;> rfl), by (with_reducible repeat (first | apply Kd.R_alloc | apply Kd.R_drewN | apply Kd.R_drew)); exact HO_3.out, by repeat (first | (with_reducible first | exact HB.out | apply below_alloc | apply pw_below_drewN | apply below_drew1) | exact HB.out)⟩
  ·rw [if_neg c3] at H
   exact absurd H (by simp)
 ·rw [if_neg c2] at H
  exact absurd H (by simp)
def slices_Equal_byte_byte.l0 : Nat → List Int → List Int → Int → Int → Option (Bool)
 | 0, _, _, _, _ => none
 | k + 1, x0, x1, x12, x13 => if x13 < x12 then (if 0 ≤ x13 then (if x13 < (x0.length : Int) then (if x13 < (x1.length : Int) then (if (rd x0 x13) = (rd x1 x13) then (slices_Equal_byte_byte.l0 k x0 x1 x12 (wrap64 (x13 + 1))) else (some false)) else (none)) else (none)) else (none)) else (some true)
def slices_Equal_byte_byte.f (k : Nat) (l0 : List Int) (l1 : List Int) : Option (Bool) := if (l0.length : Int) = (l1.length : Int) then (slices_Equal_byte_byte.l0 k l0 l1 (l0.length : Int) 0) else (some false)
theorem slices_Equal_byte_byte.mono_l : ∀ k, (∀ y0 y1 y2 y3, LeO (slices_Equal_byte_byte.l0 k y0 y1 y2 y3) (slices_Equal_byte_byte.l0 (k + 1) y0 y1 y2 y3))
 | 0 => fun _ _ _ _ r h => by simp [slices_Equal_byte_byte.l0] at h
 | k + 1 => by
  have ih0 := slices_Equal_byte_byte.mono_l k
  ·intro y0 y1 y2 y3
   unfold slices_Equal_byte_byte.l0
   repeat' first
   | (with_reducible exact ih0 _ _ _ _)
   | (with_reducible first | exact LeO.refl _ | exact LeO.none _ | refine LeO.ite ?_ ?_ | refine LeO.bind ?_ (fun _ => ?_))
   | exact ih0 _ _ _ _ | exact LeO.none _ | refine LeO.ite ?_ ?_ | refine LeO.bind ?_ (fun _ => ?_)
theorem slices_Equal_byte_byte.mono : ∀ a0 a1 k, LeO (slices_Equal_byte_byte.f k a0 a1) (slices_Equal_byte_byte.f (k + 1) a0 a1) := by
 intro a0 a1 k
 have ih0 := slices_Equal_byte_byte.mono_l k
 unfold slices_Equal_byte_byte.f
 repeat' first
   | (with_reducible exact ih0 _ _ _ _)
   | (with_reducible first | exact LeO.refl _ | exact LeO.none _ | refine LeO.ite ?_ ?_ | refine LeO.bind ?_ (fun _ => ?_))
   | exact ih0 _ _ _ _ | exact LeO.none _ | refine LeO.ite ?_ ?_ | refine LeO.bind ?_ (fun _ => ?_)
set_option maxHeartbeats 8000000 in
set_option maxRecDepth 100000 in
theorem slices_Equal_byte_byte.calls (k : Nat) (A0 : Option Addr) (c0 : Nat) (l0 : List Int) (A1 : Option Addr) (c1 : Nat) (l1 : List Int) (r : Bool) (w : World) (hr0 : Kd.C (Kd.int .u8) w A0 l0.length l0) (hc0 : l0.length ≤ c0) (hr1 : Kd.C (Kd.int .u8) w A1 l1.length l1) (hc1 : l1.length ≤ c1) (h : slices_Equal_byte_byte.f k l0 l1 = some r) :
  Calls Try.prog 17 #[.slice A0 l0.length c0, .slice A1 l1.length c1] w fun e w' => e = .returned (.bool r) ∧ Drawn0 w w' := by
 have HR0 := Aside0.mk hr0
 have HC0 := Aside0.mk hc0
 clear hr0 hc0
 have HR1 := Aside0.mk hr1
 have HC1 := Aside0.mk hc1
 clear hr1 hc1
 have H : (if (l0.length : Int) = (l1.length : Int) then (slices_Equal_byte_byte.l0 k l0 l1 (l0.length : Int) 0) else (some false)) = some r := h
 clear h
 by_cases c3 : (l0.length : Int) = (l1.length : Int)
 ·rw [if_pos c3] at H
  have c3b0 : ((l0.length : Int) == (l1.length : Int)) = true := beq_iff_eq.mpr c3
  have c3b1 : ((l0.length : Int) != (l1.length : Int)) = false := bne_eq_false_iff_eq.mpr c3
  have c3b2 : (l0.length == l1.length) = true := by first | simpa using c3 | (simp at c3 ⊢; omega)
  clear c3
  have H' := Aside0.mk H
  clear H
  go_enter Try.func17, Try.ntmps17
  go_wp2
  repeat (go_quiet (fail); try go_wp2)
  go_loopg [13] k (fun kq v13 w' => ∃ (x13_1 : Int), v13 = .int .i64 x13_1 ∧ Aside0 (slices_Equal_byte_byte.l0 kq l0 l1 (l0.length : Int) x13_1 = some r) ∧ Aside0 (kq ≤ k) ∧ Drawn0 w w')
  case atStart => exact ⟨(0), (by first | rfl | (simp; done) | (simp [*]; done) | exact not_isEmpty _ | exact (not_isEmpty _).symm | exact is_empty _ | exact (is_empty _).symm), H', ⟨Nat.le_refl _⟩, by repeat (first | exact Drawn0.refl _ | apply Drawn0.step)⟩
  case round =>
   clear H'
   try clear c1
   try clear p2
   try clear c3
   try clear c3b0
   try clear c3b1
   try clear c3b2
   obtain ⟨x13_1, rfl, HA, HK1, ⟨m1, rfl⟩⟩ := hrel
   cases gk with
   | zero => exact absurd HA.out (by simp [slices_Equal_byte_byte.l0])
   | succ k1 =>
    have H := HA.out
    clear HA
    simp only [slices_Equal_byte_byte.l0] at H
    by_cases c4 : x13_1 < (l0.length : Int)
    ·rw [if_pos c4] at H
     have c4b0 : decide (x13_1 < (l0.length : Int)) = true := decide_eq_true c4
     clear c4
     by_cases c5 : 0 ≤ x13_1
     ·rw [if_pos c5] at H
      have c5b0 : decide (0 ≤ x13_1) = true := decide_eq_true c5
      clear c5
      by_cases c6 : x13_1 < (l0.length : Int)
      ·rw [if_pos c6] at H
       have c6b0 : decide (x13_1 < (l0.length : Int)) = true := decide_eq_true c6
       clear c6
       by_cases c7 : x13_1 < (l1.length : Int)
       ·rw [if_pos c7] at H
        have c7b0 : decide (x13_1 < (l1.length : Int)) = true := decide_eq_true c7
        clear c7
        by_cases c8 : (rd l0 x13_1) = (rd l1 x13_1)
        ·rw [if_pos c8] at H
         have c8b0 : ((rd l0 x13_1) == (rd l1 x13_1)) = true := beq_iff_eq.mpr c8
         have c8b1 : ((rd l0 x13_1) != (rd l1 x13_1)) = false := bne_eq_false_iff_eq.mpr c8
         clear c8
         have H' := Aside0.mk H
         clear H
         have p114 : 0 ≤ (x13_1 : Int) := of_decide_eq_true (by first | (with_reducible assumption) | assumption)
         have q114 : x13_1 < (l0.length : Int) := of_decide_eq_true (by first | (with_reducible assumption) | assumption)
         obtain ⟨ad114, e114, hx114_0⟩ := Kd.at_int HR0.out x13_1 p114 q114
         cases e114
         replace p114 := eq_true p114
         replace q114 := eq_true q114
         have p115 : 0 ≤ (x13_1 : Int) := of_decide_eq_true (by first | (with_reducible assumption) | assumption)
         have q115 : x13_1 < (l1.length : Int) := of_decide_eq_true (by first | (with_reducible assumption) | assumption)
         obtain ⟨ad115, e115, hx115_0⟩ := Kd.at_int HR1.out x13_1 p115 q115
         cases e115
         replace p115 := eq_true p115
         replace q115 := eq_true q115
         go_wp2
         repeat (go_quiet (fail); try go_wp2)
         go_roundg k1
         case measure => have := HK1.out; omega
         case rel => exact ⟨(wrap64 (x13_1 + 1)), (by first | rfl | (simp; done) | (simp [*]; done) | exact not_isEmpty _ | exact (not_isEmpty _).symm | exact is_empty _ | exact (is_empty _).symm), H', ⟨by have := HK1.out; omega⟩, by repeat (first | exact Drawn0.refl _ | apply Drawn0.step)⟩
        ·rw [if_neg c8] at H
         have c8b0 : ((rd l0 x13_1) == (rd l1 x13_1)) = false := beq_eq_false_iff_ne.mpr c8
         have c8b1 : ((rd l0 x13_1) != (rd l1 x13_1)) = true := bne_iff_ne.mpr c8
         obtain rfl := Option.some.inj H
         have p114 : 0 ≤ (x13_1 : Int) := of_decide_eq_true (by first | (with_reducible assumption) | assumption)
         have q114 : x13_1 < (l0.length : Int) := of_decide_eq_true (by first | (with_reducible assumption) | assumption)
         obtain ⟨ad114, e114, hx114_0⟩ := Kd.at_int HR0.out x13_1 p114 q114
         cases e114
         replace p114 := eq_true p114
         replace q114 := eq_true q114
         have p115 : 0 ≤ (x13_1 : Int) := of_decide_eq_true (by first | (with_reducible assumption) | assumption)
         have q115 : x13_1 < (l1.length : Int) := of_decide_eq_true (by first | (with_reducible assumption) | assumption)
         obtain ⟨ad115, e115, hx115_0⟩ := Kd.at_int HR1.out x13_1 p115 q115
         cases e115
         replace p115 := eq_true p115
         replace q115 := eq_true q115
         go_wp2
         repeat (go_quiet (fail); try go_wp2)
         go_ret
         exact ⟨by first | rfl | (simp; done) | (simp [*]; done) | exact not_isEmpty _ | exact (not_isEmpty _).symm | exact is_empty _ | exact (is_empty _).symm, by repeat (first | exact Drawn0.refl _ | apply Drawn0.step)⟩
       ·rw [if_neg c7] at H
        exact absurd H (by simp)
      ·rw [if_neg c6] at H
       exact absurd H (by simp)
     ·rw [if_neg c5] at H
      exact absurd H (by simp)
    ·rw [if_neg c4] at H
     have c4b0 : decide (x13_1 < (l0.length : Int)) = false := decide_eq_false c4
     clear c4
     obtain rfl := Option.some.inj H
     go_wp2
     repeat (go_quiet (fail); try go_wp2)
     go_ret
     exact ⟨by first | rfl | (simp; done) | (simp [*]; done) | exact not_isEmpty _ | exact (not_isEmpty _).symm | exact is_empty _ | exact (is_empty _).symm, by repeat (first | exact Drawn0.refl _ | apply Drawn0.step)⟩
 ·rw [if_neg c3] at H
  have c3b0 : ((l0.length : Int) == (l1.length : Int)) = false := beq_eq_false_iff_ne.mpr c3
  have c3b1 : ((l0.length : Int) != (l1.length : Int)) = true := bne_iff_ne.mpr c3
  have c3b2 : (l0.length == l1.length) = false := by first | simpa using c3 | (simp at c3 ⊢; omega)
  obtain rfl := Option.some.inj H
  go_enter Try.func17, Try.ntmps17
  go_wp2
  repeat (go_quiet (fail); try go_wp2)
  go_ret
  exact ⟨by first | rfl | (simp; done) | (simp [*]; done) | exact not_isEmpty _ | exact (not_isEmpty _).symm | exact is_empty _ | exact (is_empty _).symm, by repeat (first | exact Drawn0.refl _ | apply Drawn0.step)⟩
def impl_four.f (a0 : Int) : Option (List Int) := some (([(a0 / 16777216) % 256, (a0 / 65536) % 256, (a0 / 256) % 256, (a0) % 256] : List Int))
set_option maxHeartbeats 8000000 in
set_option maxRecDepth 100000 in
theorem impl_four.calls (a0 : Int) (r : List Int) (w : World) (h : impl_four.f a0 = some r) :
  Calls Try.prog 18 #[.int .u32 a0] w fun e w' => ∃ v0_ : Value, e = .returned (v0_) ∧ Kd.R (Kd.int .u8) 5 w' w.heap.size (fun _ => True) v0_ r ∧ Below w.heap.size w w' := by
 have HB := Aside0.mk (Below.refl w.heap.size w)
 have H : (some (([(a0 / 16777216) % 256, (a0 / 65536) % 256, (a0 / 256) % 256, (a0) % 256] : List Int))) = some r := h
 clear h
 obtain ⟨y116, hy116⟩ : ∃ y_ : List Int, y_ = (([(a0 / 16777216) % 256, (a0 / 65536) % 256, (a0 / 256) % 256, (a0) % 256] : List Int)) := ⟨_, rfl⟩
 replace H : (some y116) = some r := by first | (rw [hy116]; with_reducible exact H) | (have H2_ := (Option.bind_some _ _).symm.trans H; rw [hy116]; with_reducible exact H2_) | (have H2_ := (Option.bind_some _ _).symm.trans H; with_reducible exact H2_) | with_reducible exact H | (rw [hy116]; exact H) | exact H
 have Ny116 := Aside0.mk hy116
 clear hy116
 obtain rfl := Option.some.inj H
 go_enter Try.func18, Try.ntmps18
 go_wp2_with (first | ((with_reducible refine gate_dst (N := 14) rfl ?_); refine Kd.R_lit (Kd.int .u8) _ 5 ?hg (N := 14) ?hd (xs := ([(a0 / 16777216) % 256, (a0 / 65536) % 256, (a0 / 256) % 256, (a0) % 256] : List Int)) (inner := [.int .u8 ((a0 / 16777216) % 256), .int .u8 ((a0 / 65536) % 256), .int .u8 ((a0 / 256) % 256), .int .u8 ((a0) % 256)]) (ok := fun _ => True) (okp := fun _ => True) ?hr ?hp (fun _ hk => hk) trivial (Below.refl _ _) (Nat.le_refl _) (by simp) ?_; (case hd => rfl); (case hg => rfl); (case hr => first | (go_simp; done) | (go_simp; rfl)); (case hp => exact (Reps.one (show Kd.M (Kd.int .u8) _ _ _ ((a0 / 16777216) % 256) [.int .u8 ((a0 / 16777216) % 256)] from rfl) (Reps.one (show Kd.M (Kd.int .u8) _ _ _ ((a0 / 65536) % 256) [.int .u8 ((a0 / 65536) % 256)] from rfl) (Reps.one (show Kd.M (Kd.int .u8) _ _ _ ((a0 / 256) % 256) [.int .u8 ((a0 / 256) % 256)] from rfl) (Reps.one (show Kd.M (Kd.int .u8) _ _ _ ((a0) % 256) [.int .u8 ((a0) % 256)] from rfl) (Reps.none _ _)))))); intro v117 w2 ho3 hb hg_ hnew_; clear hg_ hnew_; (first | rw [← Ny116.out] at ho3 | (simp only [Int.reduceToNat] at ho3; rw [← Ny116.out] at ho3)); have n0_ := Aside0.mk (Kd.R_lower ho3 (below_size (by repeat (first | (with_reducible first | exact HB.out | apply below_alloc | apply pw_below_drewN | apply below_drew1) | exact HB.out)))); have n1_ := Aside0.mk (below_step (by repeat (first | (with_reducible first | exact HB.out | apply below_alloc | apply pw_below_drewN | apply below_drew1) | exact HB.out)) hb); clear HB; have HO118 := n0_; have HB := n1_; clear n0_ n1_; clear hb ho3))
 go_ret
 exact ⟨_, by first | rfl | (simp [errW_none, errW_some] <;> rfl) | (simp [*, errW_none, errW_some] <;> rfl), by (with_reducible repeat (first | apply Kd.R_alloc | apply Kd.R_drewN | apply Kd.R_drew)); exact HO118.out, by repeat (first | (with_reducible first | exact HB.out | apply below_alloc | apply pw_below_drewN | apply below_drew1) | exact HB.out)⟩
end Go.Proofs.Ytndgkdnbacoenaa.PFnExactReadSave
