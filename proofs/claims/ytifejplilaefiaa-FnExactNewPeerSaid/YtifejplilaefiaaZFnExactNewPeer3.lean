/- Texts of the row of the law FnExactNewPeer, laid together. -/
import Derived.Test.YtifejplilaefiaaZFnExactNewPeer0
import Derived.Deep.RegionLaw
import Derived.Lib.SliceRun
import Derived.Laws.Externs
import Derived.Lib.Bytealg
import Derived.Test.YtifejplilaefiaaZFnExactNewPeer1
import Derived.Test.YtifejplilaefiaaProg
import Derived.Below
import Derived.Deep.Draws
import Derived.Deep.AppendLies
import Derived.Maps.AppendAt
import Derived.OwnWalk
import Derived.Laws.BytesArg
import Derived.Laws.MakeOwn
import Derived.Laws.OwnMore
import Derived.Deep.OwnRows
import Derived.Tactics
import Derived.Lib.ConvBytes
import Derived.Laws.Slices
import Derived.WalkKit
import Derived.KernelRfl
import Derived.RowKit3
import Derived.Deep.LoopGhost
import Derived.Deep.QuietTactic
import Derived.BigQuiet
import Derived.WideLaws
import Derived.Deep.DeepCutAuto
import Derived.Deep.CutBlock
import Derived.Deep.RegionHeld3
import Derived.Laws.Rows
import Derived.Lib.AppendStr
import Derived.ArgAppend
import Derived.Laws.IdiomCopy
import Derived.OrdersHeld
import Derived.Laws.BitsLemmas
import Derived.RowKit
import Derived.Laws.Cover1
import Derived.Test.YtifejplilaefiaaZFnExactNewPeer2
namespace Go.Proofs.YtifejplilaefiaaW.PrintWords
open Go.RowKit
namespace Kd
section
variable {P : Program} {α : Type}
end
end Kd
end Go.Proofs.YtifejplilaefiaaW.PrintWords
namespace Go.Proofs.YtifejplilaefiaaW.PrintLast
open Go.RowKit Go.Proofs.YtifejplilaefiaaW.PrintWords
def bz (n m : Nat) : Array Bool := ((List.range n).map fun i => m.testBit i).toArray
section
variable {P : Program} {ops : Array Oper} {Q : Exit → Act → World → Prop} {md : Region.Mode} {S : World → Prop} {ds : List Nat}
theorem pureA (i : Nat) (N : Tmp) {oi : Oper} {v : Value} {fuel : Nat} {l : Array Bool} {a : Act} {w : World} (l' : Array Bool) {a' : Act} (hi : ops[i]? = some oi) (hN : oi.dst = some N) (hc : anyB md ops l l' i = true) (h : wpAnyLast P md ops Q S ds fuel l' a' w)
    (hQ : ∀ c a w, Q (.panic c) (a.put oi.dst v) w → Q (.panic c) a w := by exact fun _ _ _ h => h) (hw : Region.wanted oi (yielded ops a.tmps) = true := by rfl)
    (hy : ∀ w, (execOp a.eval oi).run P w = .ok (.value v) w := by intro w'; go_simp; with_reducible rfl) (ha : a.put (some N) v = a' := by simp only [Act.put, List.setIfInBounds_toArray, List.set_cons_zero, List.set_cons_succ, i64_w, i32_w]; rfl) : wpAnyLast P md ops Q S ds (fuel + 1) l a w :=
  pure_ l' hi hN hc hQ (Or.inl ⟨hw, hy⟩) ha h
theorem takeA (i : Nat) (N : Tmp) {oi : Oper} {v : Value} {fuel : Nat} {l : Array Bool} {a : Act} {w : World} (l' : Array Bool) {a' : Act} (hi : ops[i]? = some oi) (hN : oi.dst = some N) (hc : takeB md ops ds l l' i = true) (hS : S w) (hy : ∀ w, S w → (execOp a.eval oi).run P w = .ok (.value v) w) (h : wpAnyLast P md ops Q S ds fuel l' a' w)
    (hQ : ∀ c a w, Q (.panic c) (a.put oi.dst v) w → Q (.panic c) a w := by exact fun _ _ _ h => h) (hw : Region.wanted oi (yielded ops a.tmps) = true := by rfl)
    (ha : a.put (some N) v = a' := by simp only [Act.put, List.setIfInBounds_toArray, List.set_cons_zero, List.set_cons_succ, i64_w, i32_w]; rfl) : wpAnyLast P md ops Q S ds (fuel + 1) l a w :=
  take_ l' hi hN hc hQ (Or.inl ⟨hw, hy⟩) hS ha h
end
end Go.Proofs.YtifejplilaefiaaW.PrintLast
namespace Go.Proofs.YtifejplilaefiaaW.PrintWords
open Go.RowKit
end Go.Proofs.YtifejplilaefiaaW.PrintWords
namespace Go.Proofs.YtifejplilaefiaaW.PrintWords
open Go.RowKit
section
variable {P : Program} {ops : Array Oper} {o : Oper} {a : Act} {Q : Exit → Act → World → Prop} {Kc : Act → World → Prop}
end
end Go.Proofs.YtifejplilaefiaaW.PrintWords
namespace Go.Proofs.YtifejplilaefiaaW.PrintWords
open Go.RowKit
theorem grown_of_kept {B : Nat} {w0 W W2 : World} {row : Option Nat} (hB : Below B w0 W) (hb : Below B w0 W2) (hk : Kept W W2 (fun k => some k = row)) : W.grownBy W2 row :=
  ⟨hb.os.trans hB.os.symm, hb.tape.trans hB.tape.symm, hb.output.trans hB.output.symm, hk.1, fun k h hn => hk.2 k h hn⟩
theorem blk_notP {W : World} {g t : Nat} {cs : Array Value} {fr : Nat × Nat} {PS : Nat → Prop} {L : List Nat} (hb : W.heap[g]? = some (.cells cs t fr)) (hP : ∀ k, PS k → ∃ q, q ∈ L ∧ ∃ cells, W.heap[k]? = some (.cells cells q (0, 0))) (ht : t ∉ L) : ¬ PS g := by
  intro hp
  obtain ⟨q, hq, c, hc⟩ := hP g hp
  rw [hb] at hc
  injection hc with hc
  injection hc with _ h2
  exact ht (h2 ▸ hq)
namespace Kd
section
variable {α : Type} {d : Kd α} {e base : Nat} {ok : Nat → Prop} {W : World} {u : Value} {xs : List α} {PS : Nat → Prop} {L : List Nat}
theorem R_apartP (h : d.R e W base ok u xs) (hP : ∀ k, PS k → ∃ q, q ∈ L ∧ ∃ cells, W.heap[k]? = some (.cells cells q (0, 0))) (ht : ∀ q, q ∈ e :: d.E → q ∉ L) : d.R e W base (fun k => ok k ∧ ¬ PS k) u xs :=
  R_mono (R_bound h) (fun k hk => ⟨hk.1, fun hp => by
    obtain ⟨q, hq, c, hc⟩ := hP k hp
    obtain ⟨_, _, _, q2, hq2, c2, hc2⟩ := hk
    rw [hc] at hc2
    injection hc2 with hc2
    injection hc2 with _ h2
    exact ht q2 hq2 (h2 ▸ hq)⟩)
theorem S_apartP (h : Kd.S d e W base ok u xs) (hP : ∀ k, PS k → ∃ q, q ∈ L ∧ ∃ cells, W.heap[k]? = some (.cells cells q (0, 0))) (ht : ∀ q, q ∈ e :: d.E → q ∉ L) : Kd.S d e W base (fun k => ok k ∧ ¬ PS k) u xs :=
  S_mono (S_bound h) (fun k hk => ⟨hk.1, fun hp => by
    obtain ⟨q, hq, c, hc⟩ := hP k hp
    obtain ⟨_, _, _, q2, hq2, c2, hc2⟩ := hk
    rw [hc] at hc2
    injection hc2 with hc2
    injection hc2 with _ h2
    exact ht q2 hq2 (h2 ▸ hq)⟩)
end
end Kd
end Go.Proofs.YtifejplilaefiaaW.PrintWords
namespace Go.Proofs.YtifejplilaefiaaW.PrintWords
open Go.RowKit
end Go.Proofs.YtifejplilaefiaaW.PrintWords
namespace Go.Proofs.YtifejplilaefiaaW.PrintLast
section
variable {P : Program} {ops : Array Oper} {Q : Exit → Act → World → Prop} {md : Region.Mode} {S T : World → Prop} {ds : List Nat}
end
end Go.Proofs.YtifejplilaefiaaW.PrintLast
namespace Go.Proofs.Ytifejplilaefiaa.PFnExactNewPeer
open Go.RowKit Go.Proofs.YtifejplilaefiaaW.PrintWords Go.Proofs.YtifejplilaefiaaW.PrintLast Go.Proofs.YtifejplilaefiaaW.PrintMore
attribute [local go_sem] max2_int min2_int max_two min_two max_three min_three max_four min_four   -- for this text's walks alone
set_option linter.unusedVariables false
set_option linter.unusedSimpArgs false
def errW : Option Int → Value
 | none => .nilIface
 | some c => .iface 0 (.int .i64 c)
theorem errW_none : errW none = .nilIface := rfl
theorem errW_some (c : Int) : errW (some c) = .iface 0 (.int .i64 c) := rfl
theorem info3 : (Try.prog.info? 3).map (fun i => (i.zero, i.size, i.bytes)) = some (some (.int .i64 0), 1, 8) := by kernel_rfl
theorem info4 : (Try.prog.info? 4).map (fun i => (i.zero, i.size, i.bytes)) = some (some (.bool false), 1, 1) := by kernel_rfl
theorem info86 : (Try.prog.info? 86).map (fun i => (i.zero, i.size, i.bytes)) = some (some (.slice none 0 0), 1, 24) := by kernel_rfl
theorem info87 : (Try.prog.info? 87).map (fun i => (i.zero, i.size, i.bytes)) = some (some (.slice none 0 0), 1, 24) := by kernel_rfl
theorem info110 : (Try.prog.info? 110).map (fun i => (i.zero, i.size, i.bytes)) = some (some (.agg #[(.int .i64 0), (.int .i64 0), (.int .i64 0)]), 3, 24) := by kernel_rfl
structure S110 where
 f0 : Int
 f1 : Int
 f2 : Int
def z110 : S110 := ⟨(0 : Int), (0 : Int), (0 : Int)⟩
def k110 : Kd S110 := Kd.iso (Kd.pair (Kd.int .i64) (Kd.pair (Kd.int .i64) (Kd.int .i64))) (fun x : S110 => (x.f0, x.f1, x.f2))
theorem k110_open {w : World} {x : S110} {cs : List Value} (h : k110.K w x cs) : cs = [.int .i64 x.f0, .int .i64 x.f1, .int .i64 x.f2] := by
 obtain ⟨_, _, rfl, rfl, ⟨_, _, rfl, rfl, rfl⟩⟩ := h
 exact rfl
theorem k110_openM {w : World} {base : Nat} {ok : Nat → Prop} {x : S110} {cs : List Value} (h : k110.M w base ok x cs) : cs = [.int .i64 x.f0, .int .i64 x.f1, .int .i64 x.f2] := by
 obtain ⟨_, _, rfl, rfl, ⟨_, _, rfl, rfl, rfl⟩⟩ := h
 exact rfl
theorem k110_mkM (w : World) (base : Nat) (ok : Nat → Prop) (x : S110)  : k110.M w base ok x [.int .i64 x.f0, .int .i64 x.f1, .int .i64 x.f2] := ⟨[.int .i64 x.f0], [.int .i64 x.f1, .int .i64 x.f2], rfl, rfl, ⟨[.int .i64 x.f1], [.int .i64 x.f2], rfl, rfl, rfl⟩⟩
def rd_T110 (xs : List S110) (i : Int) : S110 := xs.getD i.toNat z110
theorem at_T110 {w : World} {A : Option Addr} {n : Nat} {xs : List S110} (h : Kd.C k110 w A n xs) (i : Int) (h0 : 0 ≤ i) (h1 : i < n) : ∃ ad , A = some ad ∧ w.cell? (ad.add (i.toNat * 3)) = some (.int .i64 (rd_T110 xs i).f0) ∧ w.cell? ⟨(ad.add (i.toNat * 3)).block, (ad.add (i.toNat * 3)).off + 1, none⟩ = some (.int .i64 (rd_T110 xs i).f1) ∧ w.cell? ⟨(ad.add (i.toNat * 3)).block, (ad.add (i.toNat * 3)).off + 2, none⟩ = some (.int .i64 (rd_T110 xs i).f2) := by
 obtain ⟨ad, c, e, _, hK, hc0⟩ := Kd.C_get h z110 i h0 h1
 have hc : ∀ j u, c[j]? = some u → w.cell? (ad.add (i.toNat * 3 + j)) = some u := hc0
 obtain rfl := k110_open hK
 exact ⟨ad, e, hc 0 _ rfl, by rw [← add_field _ _ 1 (by omega)]; exact hc 1 _ rfl, by rw [← add_field _ _ 2 (by omega)]; exact hc 2 _ rfl⟩
def rd_L2 (xs : List (List Int)) (i : Int) : (List Int) := xs.getD i.toNat ([] : List Int)
theorem at_L2 {w : World} {A : Option Addr} {n : Nat} {xs : List (List Int)} (h : Kd.C (Kd.slice 3 (Kd.int .i64)) w A n xs) (i : Int) (h0 : 0 ≤ i) (h1 : i < n) : ∃ ad A0 c0, A = some ad ∧ w.cell? (ad.add i.toNat) = some (.slice A0 (rd_L2 xs i).length c0) ∧ (rd_L2 xs i).length ≤ c0 ∧ (Kd.int .i64).C w A0 (rd_L2 xs i).length (rd_L2 xs i) := by
 obtain ⟨ad, c, e, _, hK, hc0⟩ := Kd.C_get h ([] : List Int) i h0 h1
 have hc : ∀ j u, c[j]? = some u → w.cell? (ad.add (i.toNat * 1 + j)) = some u := hc0
 obtain ⟨A0, c0, rfl, l0, g0⟩ := hK
 exact ⟨ad, A0, c0, e, by have hq := hc 0 _ rfl; rwa [Nat.mul_one, Nat.add_zero] at hq, l0, g0⟩
def rd_L4 (xs : List (List Bool)) (i : Int) : (List Bool) := xs.getD i.toNat ([] : List Bool)
theorem at_L4 {w : World} {A : Option Addr} {n : Nat} {xs : List (List Bool)} (h : Kd.C (Kd.slice 4 Kd.bool) w A n xs) (i : Int) (h0 : 0 ≤ i) (h1 : i < n) : ∃ ad A0 c0, A = some ad ∧ w.cell? (ad.add i.toNat) = some (.slice A0 (rd_L4 xs i).length c0) ∧ (rd_L4 xs i).length ≤ c0 ∧ Kd.bool.C w A0 (rd_L4 xs i).length (rd_L4 xs i) := by
 obtain ⟨ad, c, e, _, hK, hc0⟩ := Kd.C_get h ([] : List Bool) i h0 h1
 have hc : ∀ j u, c[j]? = some u → w.cell? (ad.add (i.toNat * 1 + j)) = some u := hc0
 obtain ⟨A0, c0, rfl, l0, g0⟩ := hK
 exact ⟨ad, A0, c0, e, by have hq := hc 0 _ rfl; rwa [Nat.mul_one, Nat.add_zero] at hq, l0, g0⟩
structure S48 where
 f0 : Int
 f1 : Int
 f2 : (List S110)
def z48 : S48 := ⟨(0 : Int), (0 : Int), ([] : List S110)⟩
def k48 : Kd S48 := Kd.iso (Kd.pair (Kd.int .i64) (Kd.pair (Kd.int .i64) (Kd.slice 110 k110))) (fun x : S48 => (x.f0, x.f1, x.f2))
theorem k48_open {w : World} {x : S48} {cs : List Value} (h : k48.K w x cs) : ∃ A2 c2, cs = [.int .i64 x.f0, .int .i64 x.f1, .slice A2 x.f2.length c2] ∧ x.f2.length ≤ c2 ∧ k110.C w A2 x.f2.length x.f2 := by
 obtain ⟨_, _, rfl, rfl, ⟨_, _, rfl, rfl, ⟨A2, c2, rfl, l2, g2⟩⟩⟩ := h
 exact ⟨A2, c2, rfl, l2, g2⟩
theorem k48_openM {w : World} {base : Nat} {ok : Nat → Prop} {x : S48} {cs : List Value} (h : k48.M w base ok x cs) : ∃ v2, cs = [.int .i64 x.f0, .int .i64 x.f1, v2] ∧ k110.R 110 w base ok v2 x.f2 := by
 obtain ⟨_, _, rfl, rfl, ⟨_, _, rfl, rfl, ⟨v2, rfl, g2⟩⟩⟩ := h
 exact ⟨v2, rfl, g2⟩
theorem k48_mkM (w : World) (base : Nat) (ok : Nat → Prop) (x : S48) {v2 : Value} (g2 : k110.R 110 w base ok v2 x.f2) : k48.M w base ok x [.int .i64 x.f0, .int .i64 x.f1, v2] := ⟨[.int .i64 x.f0], [.int .i64 x.f1, v2], rfl, rfl, ⟨[.int .i64 x.f1], [v2], rfl, rfl, ⟨v2, rfl, g2⟩⟩⟩
def rd_T48 (xs : List S48) (i : Int) : S48 := xs.getD i.toNat z48
theorem at_T48 {w : World} {A : Option Addr} {n : Nat} {xs : List S48} (h : Kd.C k48 w A n xs) (i : Int) (h0 : 0 ≤ i) (h1 : i < n) : ∃ ad A2 c2, A = some ad ∧ w.cell? (ad.add (i.toNat * 3)) = some (.int .i64 (rd_T48 xs i).f0) ∧ w.cell? ⟨(ad.add (i.toNat * 3)).block, (ad.add (i.toNat * 3)).off + 1, none⟩ = some (.int .i64 (rd_T48 xs i).f1) ∧ w.cell? ⟨(ad.add (i.toNat * 3)).block, (ad.add (i.toNat * 3)).off + 2, none⟩ = some (.slice A2 (rd_T48 xs i).f2.length c2) ∧ (rd_T48 xs i).f2.length ≤ c2 ∧ k110.C w A2 (rd_T48 xs i).f2.length (rd_T48 xs i).f2 := by
 obtain ⟨ad, c, e, _, hK, hc0⟩ := Kd.C_get h z48 i h0 h1
 have hc : ∀ j u, c[j]? = some u → w.cell? (ad.add (i.toNat * 3 + j)) = some u := hc0
 obtain ⟨A2, c2, rfl, l2, g2⟩ := k48_open hK
 exact ⟨ad, A2, c2, e, hc 0 _ rfl, by rw [← add_field _ _ 1 (by omega)]; exact hc 1 _ rfl, by rw [← add_field _ _ 2 (by omega)]; exact hc 2 _ rfl, l2, g2⟩
end Go.Proofs.Ytifejplilaefiaa.PFnExactNewPeer
namespace Go.Proofs.Ytifejplilaefiaa.PFnExactNewPeer
open Go.RowKit Go.Proofs.YtifejplilaefiaaW.PrintWords Go.Proofs.YtifejplilaefiaaW.PrintLast Go.Proofs.YtifejplilaefiaaW.PrintMore
attribute [local go_sem] max2_int min2_int max_two min_two max_three min_three max_four min_four   -- for this text's walks alone
set_option linter.unusedVariables false
set_option linter.unusedSimpArgs false
def spec_l1In.f (a0 : Int) (a1 : Int) (a2 : Int) : Option (Bool) := if a0 ≥ a1 then (some (decide (a0 ≤ a2))) else (some false)
set_option maxHeartbeats 8000000 in
set_option maxRecDepth 100000 in
theorem spec_l1In.calls (a0 : Int) (a1 : Int) (a2 : Int) (r : Bool) (w : World) (h : spec_l1In.f a0 a1 a2 = some r) :
  Calls Try.prog 44 #[.int .i64 a0, .int .i64 a1, .int .i64 a2] w fun e w' => e = .returned (.bool r) ∧ Drawn0 w w' := by
 have H : (if a0 ≥ a1 then (some (decide (a0 ≤ a2))) else (some false)) = some r := h
 clear h
 by_cases c4 : a0 ≥ a1
 ·rw [if_pos c4] at H
  have c4b0 : decide (a1 ≤ a0) = true := decide_eq_true c4
  clear c4
  obtain rfl := Option.some.inj H
  go_enter Try.func44, Try.ntmps44
  go_wp2
  go_ret
  exact ⟨by first | rfl | (simp; done) | (simp [*]; done) | exact not_isEmpty _ | exact (not_isEmpty _).symm | exact is_empty _ | exact (is_empty _).symm, by repeat (first | exact Drawn0.refl _ | apply Drawn0.step)⟩
 ·rw [if_neg c4] at H
  have c4b0 : decide (a1 ≤ a0) = false := decide_eq_false c4
  clear c4
  obtain rfl := Option.some.inj H
  go_enter Try.func44, Try.ntmps44
  go_wp2
  go_ret
  exact ⟨by first | rfl | (simp; done) | (simp [*]; done) | exact not_isEmpty _ | exact (not_isEmpty _).symm | exact is_empty _ | exact (is_empty _).symm, by repeat (first | exact Drawn0.refl _ | apply Drawn0.step)⟩
def spec_l1Seed.f (a0 : Int) : Option (Bool) := (spec_l1In.f a0 0 2147483647).bind fun t101 => (some t101)
set_option maxHeartbeats 8000000 in
set_option maxRecDepth 100000 in
theorem spec_l1Seed.calls (a0 : Int) (r : Bool) (w : World) (h : spec_l1Seed.f a0 = some r) :
  Calls Try.prog 86 #[.int .i64 a0] w fun e w' => e = .returned (.bool r) ∧ Drawn0 w w' := by
 have H : ((spec_l1In.f a0 0 2147483647).bind fun t101 => (some t101)) = some r := h
 clear h
 replace H := Option.bind_eq_some_iff.mp H
 obtain ⟨t101, A20, H⟩ := H
 replace H : (some t101) = some r := H
 have A2 := Aside0.mk A20
 clear A20
 obtain rfl := Option.some.inj H
 go_enter Try.func86, Try.ntmps86
 go_wp2_with (first | ((with_reducible refine gate_callee (f := 44) rfl ?_); refine goesL_ (some 4) rfl rfl Try.func44 (by kernel_rfl) rfl #[.int .i64 a0, .int .i64 0, .int .i64 2147483647] rfl aE ?_; (with_reducible refine (spec_l1In.calls a0 0 2147483647 t101 _ A2.out).mono ?_); rintro e w' ⟨rfl, ⟨nd, rfl⟩⟩; refine ⟨_, rfl, ?_⟩))
 go_ret
 exact ⟨by first | rfl | (simp; done) | (simp [*]; done) | exact not_isEmpty _ | exact (not_isEmpty _).symm | exact is_empty _ | exact (is_empty _).symm, by repeat (first | exact Drawn0.refl _ | apply Drawn0.step)⟩
mutual
def spec_StartGame.j0 : Nat → Int → Int → Bool → Option (Int × Int × (List (S110)) × Bool)
 | 0, _, _, _ => none
 | k + 1, x0, x1, x15 => if x15 = true then (some (0, 0, ([] : List (S110)), false)) else (spec_StartGame.l0 k x0 0 0 x1 ([] : List (S110)))
def spec_StartGame.l0 : Nat → Int → Int → Int → Int → List (S110) → Option (Int × Int × (List (S110)) × Bool)
 | 0, _, _, _, _, _ => none
 | k + 1, x0, x7, x106000, x106001, x106002 => if x7 < x0 then (if x106002.length < 5864062014805 then (spec_StartGame.l0 k x0 (wrap64 (x7 + 1)) x106000 x106001 (x106002 ++ [(⟨wrap64 (8 * x7), wrap64 (8 * x7), 9⟩ : S110)])) else (none)) else (some (x106000, x106001, x106002, true))
end
def spec_StartGame.f (k : Nat) (a0 : Int) (a1 : Int) : Option (Int × Int × (List (S110)) × Bool) := (spec_l1In.f a0 1 4).bind fun t103 => (if t103 = true then ((spec_l1Seed.f a1).bind fun t104 => (spec_StartGame.j0 k a0 a1 (!t104))) else (spec_StartGame.j0 k a0 a1 true))
theorem spec_StartGame.mono_l : ∀ k, (∀ y0 y1 y2, LeO (spec_StartGame.j0 k y0 y1 y2) (spec_StartGame.j0 (k + 1) y0 y1 y2)) ∧ (∀ y0 y1 y2 y3 y4, LeO (spec_StartGame.l0 k y0 y1 y2 y3 y4) (spec_StartGame.l0 (k + 1) y0 y1 y2 y3 y4))
 | 0 => ⟨fun _ _ _ r h => by simp [spec_StartGame.j0] at h, fun _ _ _ _ _ r h => by simp [spec_StartGame.l0] at h⟩
 | k + 1 => by
  obtain ⟨ih0, ih1⟩ := spec_StartGame.mono_l k
  refine ⟨?_, ?_⟩
  ·intro y0 y1 y2
   unfold spec_StartGame.j0
   repeat' first
   | (with_reducible exact ih0 _ _ _)
   | (with_reducible exact ih1 _ _ _ _ _)
   | (with_reducible exact LeO.refl _)
   | (with_reducible exact LeO.none _)
   | (with_reducible refine LeO.ite ?_ ?_)
   | (with_reducible refine LeO.bind ?_ (fun _ => ?_))
   | exact ih0 _ _ _
   | exact ih1 _ _ _ _ _
   | exact LeO.none _
   | refine LeO.ite ?_ ?_
   | refine LeO.bind ?_ (fun _ => ?_)
  ·intro y0 y1 y2 y3 y4
   unfold spec_StartGame.l0
   repeat' first
   | (with_reducible exact ih0 _ _ _)
   | (with_reducible exact ih1 _ _ _ _ _)
   | (with_reducible exact LeO.refl _)
   | (with_reducible exact LeO.none _)
   | (with_reducible refine LeO.ite ?_ ?_)
   | (with_reducible refine LeO.bind ?_ (fun _ => ?_))
   | exact ih0 _ _ _
   | exact ih1 _ _ _ _ _
   | exact LeO.none _
   | refine LeO.ite ?_ ?_
   | refine LeO.bind ?_ (fun _ => ?_)
theorem spec_StartGame.mono : ∀ a0 a1 k, LeO (spec_StartGame.f k a0 a1) (spec_StartGame.f (k + 1) a0 a1) := by
 intro a0 a1 k
 obtain ⟨ih0, ih1⟩ := spec_StartGame.mono_l k
 unfold spec_StartGame.f
 repeat' first
   | (with_reducible exact ih0 _ _ _)
   | (with_reducible exact ih1 _ _ _ _ _)
   | (with_reducible exact LeO.refl _)
   | (with_reducible exact LeO.none _)
   | (with_reducible refine LeO.ite ?_ ?_)
   | (with_reducible refine LeO.bind ?_ (fun _ => ?_))
   | exact ih0 _ _ _
   | exact ih1 _ _ _ _ _
   | exact LeO.none _
   | refine LeO.ite ?_ ?_
   | refine LeO.bind ?_ (fun _ => ?_)
set_option maxHeartbeats 8000000 in
set_option maxRecDepth 100000 in
theorem spec_StartGame.calls (k : Nat) (a0 : Int) (a1 : Int) (r1 : Int) (r2 : Int) (r3 : List (S110)) (r4 : Bool) (w : World) (h : spec_StartGame.f k a0 a1 = some (r1, r2, r3, r4)) :
  Calls Try.prog 52 #[.int .i64 a0, .int .i64 a1] w fun e w' => ∃ v2_ : Value, e = .returned (.tuple #[.agg #[.int .i64 r1, .int .i64 r2, v2_], .bool r4]) ∧ Kd.R k110 110 w' w.heap.size (fun _ => True) v2_ r3 ∧ Below w.heap.size w w' := by
 have hu48 := Try.underlying48
 have hu110 := Try.underlying110
 have HB := Aside0.mk (Below.refl w.heap.size w)
 have H : ((spec_l1In.f a0 1 4).bind fun t103 => (if t103 = true then ((spec_l1Seed.f a1).bind fun t104 => (spec_StartGame.j0 k a0 a1 (!t104))) else (spec_StartGame.j0 k a0 a1 true))) = some (r1, r2, r3, r4) := h
 clear h
 have HC3 := Aside0.mk H
 clear H
 go_enter Try.func52, Try.ntmps52
 go_upto_region 1 with (first | ((with_reducible refine gate_dst (N := 4) rfl ?_); refine box_event rfl (N := 4) rfl (cs := #[.int .i64 0, .int .i64 0, .slice none 0 0]) (t := 48) sE ?_; intro gb102 hg w4 hbox hb; have BK102 := Aside0.mk hbox; have GW102 := gS w hg (lU); have GE102 := gS w hg (lU); replace HB := bH (lU) hb; clear hb hbox hg))
 (try simp only [Act.put, List.setIfInBounds_toArray, List.set_cons_zero, List.set_cons_succ])
 go_cut [15] (fun v15 wc => ∃ (kq : Nat) (x15_2 : Bool), v15 = .bool x15_2 ∧ Aside0 (spec_StartGame.j0 kq a0 a1 x15_2 = some (r1, r2, r3, r4)) ∧ Aside0 (kq ≤ k) ∧ Aside0 (wc.heap[gb102]? = some (.cells #[.int .i64 0, .int .i64 0, (.slice none 0 0)] 48 (0, 0))) ∧ Aside0 (Below w.heap.size w wc))
 case first =>
  have H := HC3.out
  clear HC3
  replace H := Option.bind_eq_some_iff.mp H
  obtain ⟨t103, A50, H⟩ := H
  replace H : (if t103 = true then ((spec_l1Seed.f a1).bind fun t104 => (spec_StartGame.j0 k a0 a1 (!t104))) else (spec_StartGame.j0 k a0 a1 true)) = some (r1, r2, r3, r4) := H
  have A5 := Aside0.mk A50
  clear A50
  by_cases c6 : t103 = true
  ·subst c6
   have H1 : ((spec_l1Seed.f a1).bind fun t104 => (spec_StartGame.j0 k a0 a1 (!t104))) = some (r1, r2, r3, r4) := by rw [if_pos rfl] at H; exact H
   clear H
   have H := H1
   clear H1
   replace H := Option.bind_eq_some_iff.mp H
   obtain ⟨t104, A70, H⟩ := H
   replace H : (spec_StartGame.j0 k a0 a1 (!t104)) = some (r1, r2, r3, r4) := H
   have A7 := Aside0.mk A70
   clear A70
   have H' := Aside0.mk H
   clear H
   go_wp2_with (first | ((with_reducible refine gate_callee (f := 44) rfl ?_); refine goesL_ (some 9) rfl rfl Try.func44 (by kernel_rfl) rfl #[.int .i64 a0, .int .i64 1, .int .i64 4] rfl aE ?_; (with_reducible refine (spec_l1In.calls a0 1 4 true _ A5.out).mono ?_); rintro e w' ⟨rfl, ⟨nd, rfl⟩⟩; refine ⟨_, rfl, ?_⟩) | (go_at_call 86; (with_reducible refine (spec_l1Seed.calls a1 t104 _ A7.out).mono ?_); rintro e w' ⟨rfl, ⟨nd, rfl⟩⟩))
   go_meet
   case rel => exact ⟨_, (!t104), tE, H', ⟨by first | omega | exact Nat.le_refl _⟩, ⟨by refine bU ?_; exact BK102.out⟩, ⟨by repeat (first | (with_reducible first | exact HB.out | apply below_alloc | apply pw_below_drewN | apply below_drew1 | refine below_set ?_ GE102.out) | exact HB.out)⟩⟩
  ·replace c6 := Bool.eq_false_iff.mpr c6
   subst c6
   have H1 : (spec_StartGame.j0 k a0 a1 true) = some (r1, r2, r3, r4) := by rw [if_neg (show ¬ (false = true) by decide)] at H; exact H
   clear H
   have H := H1
   clear H1
   have H' := Aside0.mk H
   clear H
   go_wp2_with (first | ((with_reducible refine gate_callee (f := 44) rfl ?_); refine goesL_ (some 9) rfl rfl Try.func44 (by kernel_rfl) rfl #[.int .i64 a0, .int .i64 1, .int .i64 4] rfl aE ?_; (with_reducible refine (spec_l1In.calls a0 1 4 false _ A5.out).mono ?_); rintro e w' ⟨rfl, ⟨nd, rfl⟩⟩; refine ⟨_, rfl, ?_⟩))
   go_meet
   case rel => exact ⟨_, (true), tE, H', ⟨by first | omega | exact Nat.le_refl _⟩, ⟨by refine bU ?_; exact BK102.out⟩, ⟨by repeat (first | (with_reducible first | exact HB.out | apply below_alloc | apply pw_below_drewN | apply below_drew1 | refine below_set ?_ GE102.out) | exact HB.out)⟩⟩
 case rest =>
  clear HC3
  try clear p2
  try clear c4
  try clear c5
  try clear c6
  obtain ⟨kq, x15_2, rfl, HA, HJ2, BK102, HB⟩ := hcut
  cases kq with
  | zero => exact absurd HA.out (by simp [spec_StartGame.j0])
  | succ kj2 =>
   have H := HA.out
   clear HA
   simp only [spec_StartGame.j0] at H
   by_cases c8 : x15_2 = true
   ·subst c8
    have H1 : (some (0, 0, ([] : List (S110)), false)) = some (r1, r2, r3, r4) := by rw [if_pos rfl] at H; exact H
    clear H
    have H := H1
    clear H1
    simp only [Option.some.injEq, Prod.mk.injEq] at H
    obtain ⟨rfl, rfl, rfl, rfl⟩ := H
    have hcz9_0 := cz BK102 0 (.int .i64 0)
    have hcz9_1 := cz BK102 1 (.int .i64 0)
    have hcz9_2 := cz BK102 2 (.slice none 0 0)
    have hfz9_0 := fz BK102 0
    have hfz9_1 := fz BK102 1
    have hfz9_2 := fz BK102 2
    go_wp2_with (first | ((with_reducible refine gate_store (t := 48) (p := 4) rfl ?_); refine store_event (t := 48) (p := 4) (v := ?vo_w10) (w1 := (((wc.setCell ⟨gb102, 0, none⟩ (.int .i64 0)).setCell ⟨gb102, 1, none⟩ (.int .i64 0)).setCell ⟨gb102, 2, none⟩ (.slice none 0 0))) ?hg ?ho ?hn ?hr ?_; (case ho => rfl); (case hg => rfl); (case hn => rfl); (case hr => first | (go_simp; done) | (go_simp; rfl) | (have hq0_ := (blk_cell BK102.out 0).trans (show _ = some _ from rfl); have hf0_ := blk_frozen BK102.out 0; have hq1_ := (blk_cell BK102.out 1).trans (show _ = some _ from rfl); have hf1_ := blk_frozen BK102.out 1; have hq2_ := (blk_cell BK102.out 2).trans (show _ = some _ from rfl); have hf2_ := blk_frozen BK102.out 2; first | (go_simp; done) | (go_simp; rfl))); intro w10 hw; replace BK102 : Aside0 (w10.heap[gb102]? = some (.cells #[.int .i64 0, .int .i64 0, .slice none 0 0] 48 (0, 0))) := ⟨(by rw [hw]; exact (by refine bU ?_; refine blk_put (cs := #[.int .i64 0, .int .i64 0, .slice none 0 0]) ?_ 2 _ rfl; refine bU ?_; refine blk_put (cs := #[.int .i64 0, .int .i64 0, .slice none 0 0]) ?_ 1 _ rfl; refine bU ?_; refine blk_put (cs := #[.int .i64 0, .int .i64 0, .slice none 0 0]) ?_ 0 _ rfl; refine bU ?_; exact BK102.out))⟩; replace HB : Aside0 (Below w.heap.size w w10) := ⟨(by rw [hw]; exact (lV1 GE102))⟩; clear hw))
    refine bodyPost_ret (results_ct rfl _ _ gb102 48 #[.int .i64 0, .int .i64 0, .slice none 0 0] (0, 0) _ rfl (bV BK102) Try.underlying48 rfl (by kernel_rfl)) rfl ?_
    exact ⟨_, eE, by first | exact Kd.R_nil _ _ _ _ _ | exact Kd.N_nil _ _ _ _ _ | exact Kd.V_nil _ _ _ _ _ | exact Kd.Q_nil _ _ _ _ _ | exact Kd.S_nil _ _ _ _ _, lV1 GE102⟩
   ·replace c8 := Bool.eq_false_iff.mpr c8
    subst c8
    have H1 : (spec_StartGame.l0 kj2 a0 0 0 a1 ([] : List (S110))) = some (r1, r2, r3, r4) := by rw [if_neg (show ¬ (false = true) by decide)] at H; exact H
    clear H
    have H := H1
    clear H1
    have H' := Aside0.mk H
    clear H
    go_wp2_with (first | ((with_reducible refine gate_dst (N := 6) rfl ?_); refine box_event rfl (N := 6) rfl (cs := #[.int .i64 0, .int .i64 0, .slice none 0 0]) (t := 48) sE ?_; intro gb105 hg w11 hbox hb; have BK105 := Aside0.mk hbox; have GW105 := gS w hg (lV1 GE102); have GE105 := gS w hg (lV1 GE102); replace HB := bH (lV1 GE102) hb; have NB102_105 := nL hg (bV BK102); have NB105_102 := nG hg (bV BK102); replace BK102 := bB (bV BK102) hb; clear hb hbox hg; have hnb12 := NB105_102.out; have hnc12 := NB102_105.out; have hcz13_0 := cz BK105 0 (.int .i64 0); have hcz13_1 := cz BK105 1 (.int .i64 0); have hcz13_2 := cz BK105 2 (.slice none 0 0); have hfz13_0 := fz BK105 0; have hfz13_1 := fz BK105 1; have hfz13_2 := fz BK105 2) | ((with_reducible refine gate_store (t := 48) (p := 6) rfl ?_); refine store_event (t := 48) (p := 6) (v := ?vo_w14) (w1 := (((w11.setCell ⟨gb105, 0, none⟩ (.int .i64 0)).setCell ⟨gb105, 1, none⟩ (.int .i64 a1)).setCell ⟨gb105, 2, none⟩ (.slice none 0 0))) ?hg ?ho ?hn ?hr ?_; (case ho => rfl); (case hg => rfl); (case hn => rfl); (case hr => first | (go_simp; done) | (go_simp; rfl) | (have hq0_ := (blk_cell BK105.out 0).trans (show _ = some _ from rfl); have hf0_ := blk_frozen BK105.out 0; have hq1_ := (blk_cell BK105.out 1).trans (show _ = some _ from rfl); have hf1_ := blk_frozen BK105.out 1; have hq2_ := (blk_cell BK105.out 2).trans (show _ = some _ from rfl); have hf2_ := blk_frozen BK105.out 2; first | (go_simp; done) | (go_simp; rfl))); intro w14 hw; replace BK102 : Aside0 (w14.heap[gb102]? = some (.cells #[.int .i64 0, .int .i64 0, .slice none 0 0] 48 (0, 0))) := ⟨(by rw [hw]; exact (bG NB102_105 BK102))⟩; replace BK105 : Aside0 (w14.heap[gb105]? = some (.cells #[.int .i64 0, .int .i64 a1, .slice none 0 0] 48 (0, 0))) := ⟨(by rw [hw]; exact (by refine bU ?_; refine blk_put (cs := #[.int .i64 0, .int .i64 a1, .slice none 0 0]) ?_ 2 _ rfl; refine bU ?_; refine blk_put (cs := #[.int .i64 0, .int .i64 0, .slice none 0 0]) ?_ 1 _ rfl; refine bU ?_; refine blk_put (cs := #[.int .i64 0, .int .i64 0, .slice none 0 0]) ?_ 0 _ rfl; refine bU ?_; exact BK105.out))⟩; replace HB : Aside0 (Below w.heap.size w w14) := ⟨(by rw [hw]; exact (lV2 GE102 GE105))⟩; clear hw))
    (try simp only [Act.put, List.setIfInBounds_toArray, List.set_cons_zero, List.set_cons_succ])
    go_loopg [7] kj2 (fun kq v7 w' => ∃ (x7_2 : Int) (x106002_2 : List (S110)) (u106002 : Value), v7 = .int .i64 x7_2 ∧ Aside0 (spec_StartGame.l0 kq a0 x7_2 0 a1 x106002_2 = some (r1, r2, r3, r4)) ∧ Aside0 (kq ≤ kj2) ∧ Aside0 (Kd.R k110 110 w' w.heap.size (fun _ => True) u106002 x106002_2) ∧ Aside0 (w'.heap[gb102]? = some (.cells #[.int .i64 0, .int .i64 0, (.slice none 0 0)] 48 (0, 0))) ∧ Aside0 (w'.heap[gb105]? = some (.cells #[.int .i64 0, .int .i64 a1, u106002] 48 (0, 0))) ∧ Aside0 (Below w.heap.size w w'))
    case atStart => exact ⟨(0), (([] : List (S110))), (.slice none 0 0), tE, H', ⟨Nat.le_refl _⟩, ⟨by first | exact Kd.R_nil _ _ _ _ _ | exact Kd.N_nil _ _ _ _ _ | exact Kd.V_nil _ _ _ _ _ | exact Kd.Q_nil _ _ _ _ _ | exact Kd.S_nil _ _ _ _ _⟩, ⟨by refine bU ?_; exact BK102.out⟩, ⟨by refine bU ?_; exact BK105.out⟩, ⟨by repeat (first | (with_reducible first | exact HB.out | apply below_alloc | apply pw_below_drewN | apply below_drew1 | refine below_set ?_ GE102.out | refine below_set ?_ GE105.out) | exact HB.out)⟩⟩
    case round =>
     clear H'
     try clear c1
     try clear q1
     try clear p2
     try clear q2
     try clear hf2
     try clear c4
     try clear c5
     try clear c6
     try clear c8
     try clear c12
     try clear hcz13_0
     try clear hcz13_1
     try clear hcz13_2
     try clear hcz9_0
     try clear hcz9_1
     try clear hcz9_2
     try clear hfz13_0
     try clear hfz13_1
     try clear hfz13_2
     try clear hfz9_0
     try clear hfz9_1
     try clear hfz9_2
     try clear p2
     obtain ⟨x7_2, x106002_2, u106002, rfl, HA, HK2, HO_106002, BK102, BK105, HB⟩ := hrel
     cases gk with
     | zero => exact absurd HA.out (by simp [spec_StartGame.l0])
     | succ k2 =>
      have H := HA.out
      clear HA
      simp only [spec_StartGame.l0] at H
      by_cases c15 : x7_2 < a0
      ·rw [if_pos c15] at H
       have c15b0 : decide (x7_2 < a0) = true := decide_eq_true c15
       clear c15
       by_cases c16 : x106002_2.length < 5864062014805
       ·rw [if_pos c16] at H
        have LMc16 := Aside0.mk c16
        clear c16
        obtain ⟨y106, hy106⟩ : ∃ y_ : List (S110), y_ = (x106002_2 ++ [(⟨wrap64 (8 * x7_2), wrap64 (8 * x7_2), 9⟩ : S110)]) := ⟨_, rfl⟩
        replace H : (spec_StartGame.l0 k2 a0 (wrap64 (x7_2 + 1)) 0 a1 y106) = some (r1, r2, r3, r4) := by first | (rw [hy106]; with_reducible exact H) | (have H2_ := (Option.bind_some _ _).symm.trans H; rw [hy106]; with_reducible exact H2_) | (have H2_ := (Option.bind_some _ _).symm.trans H; with_reducible exact H2_) | with_reducible exact H | (rw [hy106]; exact H) | exact H
        have Ny106 := Aside0.mk hy106
        clear hy106
        have H' := Aside0.mk H
        clear H
        have hnb17 := NB105_102.out
        have hnc17 := NB102_105.out
        have hcz18_0 := cz BK105 0 (.int .i64 0)
        have hcz18_1 := cz BK105 1 (.int .i64 a1)
        have hcz18_2 := cz BK105 2 (u106002)
        have hfz18_0 := fz BK105 0
        have hfz18_1 := fz BK105 1
        have hfz18_2 := fz BK105 2
        go_wp2_with (first | ((with_reducible refine gate_builtin (b := .append) (xs := #[.tmp 25, .tmp 31]) rfl ?_); at_builtin; refine Kd.R_append k110 (w0 := w) w.heap.size rfl (.tmp 25) (.tmp 31) 46 110 (.agg #[(.int .i64 0), (.int .i64 0), (.int .i64 0)]) 24 rfl Try.underlying46 info110 rfl (by decide) (by omega) u106002 x106002_2 (⟨wrap64 (8 * x7_2), wrap64 (8 * x7_2), 9⟩ : S110) [.int .i64 (wrap64 (8 * x7_2)), .int .i64 (wrap64 (8 * x7_2)), .int .i64 9] (fun _ => True) (fun _ => False) rfl rfl ?aP (fun _ hk => hk.elim) ?aF ?aO ?aB ?aS ?aL ?_; (case aP => exact k110_mkM _ _ _ (⟨wrap64 (8 * x7_2), wrap64 (8 * x7_2), 9⟩ : S110)); (case aB => exact (lV2 GE102 GE105)); (case aF => exact (fun _ _ => trivial)); (case aO => exact (rU HO_106002.out)); (case aS => exact (below_size (lV2 GE102 GE105))); (case aL => have := LMc16.out; omega); intro v107 w19 ho hb hg hat; rw [← Ny106.out] at ho; replace BK102 := Aside0.mk (blk_grown (g := gb102) (o := .cells #[.int .i64 0, .int .i64 0, .slice none 0 0] 48 (0, 0)) (bV BK102) hg (Kd.R_ne HO_106002.out BK102.out (by decide))); replace BK105 := Aside0.mk (blk_grown (g := gb105) (o := .cells #[.int .i64 0, .int .i64 a1, u106002] 48 (0, 0)) (bV BK105) hg (Kd.R_ne HO_106002.out BK105.out (by decide))); replace HB := Aside0.mk hb; have HO108 := Aside0.mk ho; clear HO_106002; clear ho hb hg hat; obtain ⟨Ao20, co20, eo20⟩ := Kd.R_slice HO108.out; subst eo20; have hcz21_0 := cz BK105 0 (.int .i64 0); have hcz21_1 := cz BK105 1 (.int .i64 a1); have hcz21_2 := cz BK105 2 (u106002); have hfz21_0 := fz BK105 0; have hfz21_1 := fz BK105 1; have hfz21_2 := fz BK105 2) | ((with_reducible refine gate_store (t := 46) (p := 33) rfl ?_); refine store_event (t := 46) (p := 33) (v := ?vo_w22) (w1 := (w19.setCell ⟨gb105, 2, none⟩ (.slice Ao20 y106.length co20))) ?hg ?ho ?hn ?hr ?_; (case ho => rfl); (case hg => rfl); (case hn => rfl); (case hr => first | (go_simp; done) | (go_simp; rfl) | (have hq0_ := (blk_cell BK105.out 2).trans (show _ = some _ from rfl); have hf0_ := blk_frozen BK105.out 2; first | (go_simp; done) | (go_simp; rfl))); intro w22 hw; replace HO108 : Aside0 (Kd.R k110 110 w22 w.heap.size (fun _ => True) (.slice Ao20 y106.length co20) y106) := ⟨(by rw [hw]; exact (by (with_reducible repeat (first | apply Kd.R_alloc | apply Kd.R_drewN | apply Kd.R_drew)); exact Kd.R_mono (Kd.R_far (p := ⟨gb105, 2, none⟩) (Kd.R_types HO108.out BK105.out (by decide)) (fun _ hk => hk.2) (.slice Ao20 y106.length co20)) (fun _ hk => trivial)))⟩; replace BK102 : Aside0 (w22.heap[gb102]? = some (.cells #[.int .i64 0, .int .i64 0, .slice none 0 0] 48 (0, 0))) := ⟨(by rw [hw]; exact (bG NB102_105 BK102))⟩; replace BK105 : Aside0 (w22.heap[gb105]? = some (.cells #[.int .i64 0, .int .i64 a1, .slice Ao20 y106.length co20] 48 (0, 0))) := ⟨(by rw [hw]; exact (by refine bU ?_; refine blk_put (cs := #[.int .i64 0, .int .i64 a1, u106002]) ?_ 2 _ rfl; refine bU ?_; exact BK105.out))⟩; replace HB : Aside0 (Below w.heap.size w w22) := ⟨(by rw [hw]; exact (lV2 GE102 GE105))⟩; clear hw))
        go_roundg k2
        case measure => have := HJ2.out; have := HK2.out; omega
        case rel => exact ⟨(wrap64 (x7_2 + 1)), (y106), (.slice Ao20 y106.length co20), tE, H', ⟨by have := HJ2.out; have := HK2.out; omega⟩, ⟨by (with_reducible repeat (first | apply Kd.R_alloc | apply Kd.R_drewN | apply Kd.R_drew)); exact HO108.out⟩, ⟨by refine bU ?_; exact BK102.out⟩, ⟨by refine bU ?_; exact BK105.out⟩, ⟨by repeat (first | (with_reducible first | exact HB.out | apply below_alloc | apply pw_below_drewN | apply below_drew1 | refine below_set ?_ GE102.out | refine below_set ?_ GE105.out) | exact HB.out)⟩⟩
       ·rw [if_neg c16] at H
        exact absurd H (by simp)
      ·rw [if_neg c15] at H
       have c15b0 : decide (x7_2 < a0) = false := decide_eq_false c15
       clear c15
       simp only [Option.some.injEq, Prod.mk.injEq] at H
       obtain ⟨rfl, rfl, rfl, rfl⟩ := H
       have hnb23 := NB105_102.out
       have hnc23 := NB102_105.out
       have hcz24_0 := cz BK105 0 (.int .i64 0)
       have hcz24_1 := cz BK105 1 (.int .i64 a1)
       have hcz24_2 := cz BK105 2 (u106002)
       have hfz24_0 := fz BK105 0
       have hfz24_1 := fz BK105 1
       have hfz24_2 := fz BK105 2
       have hcz25_0 := cz BK102 0 (.int .i64 0)
       have hcz25_1 := cz BK102 1 (.int .i64 0)
       have hcz25_2 := cz BK102 2 (.slice none 0 0)
       have hfz25_0 := fz BK102 0
       have hfz25_1 := fz BK102 1
       have hfz25_2 := fz BK102 2
       obtain ⟨Ao26, co26, eo26⟩ := Kd.R_slice HO_106002.out
       subst eo26
       go_wp2_with (first | ((with_reducible refine gate_store (t := 48) (p := 4) rfl ?_); refine store_event (t := 48) (p := 4) (v := ?vo_w27) (w1 := (((wr.setCell ⟨gb102, 0, none⟩ (.int .i64 0)).setCell ⟨gb102, 1, none⟩ (.int .i64 a1)).setCell ⟨gb102, 2, none⟩ (.slice Ao26 x106002_2.length co26))) ?hg ?ho ?hn ?hr ?_; (case ho => rfl); (case hg => rfl); (case hn => rfl); (case hr => first | (go_simp; done) | (go_simp; rfl) | (have hq0_ := (blk_cell BK102.out 0).trans (show _ = some _ from rfl); have hf0_ := blk_frozen BK102.out 0; have hq1_ := (blk_cell BK102.out 1).trans (show _ = some _ from rfl); have hf1_ := blk_frozen BK102.out 1; have hq2_ := (blk_cell BK102.out 2).trans (show _ = some _ from rfl); have hf2_ := blk_frozen BK102.out 2; first | (go_simp; done) | (go_simp; rfl))); intro w27 hw; replace HO_106002 : Aside0 (Kd.R k110 110 w27 w.heap.size (fun _ => True) (.slice Ao26 x106002_2.length co26) x106002_2) := ⟨(by rw [hw]; exact (by (with_reducible repeat (first | apply Kd.R_alloc | apply Kd.R_drewN | apply Kd.R_drew)); exact Kd.R_mono (Kd.R_far (p := ⟨gb102, 2, none⟩) (Kd.R_far (p := ⟨gb102, 1, none⟩) (Kd.R_far (p := ⟨gb102, 0, none⟩) (Kd.R_types HO_106002.out BK102.out (by decide)) (fun _ hk => hk.2) (.int .i64 0)) (fun _ hk => hk.2) (.int .i64 a1)) (fun _ hk => hk.2) (.slice Ao26 x106002_2.length co26)) (fun _ hk => trivial)))⟩; replace BK102 : Aside0 (w27.heap[gb102]? = some (.cells #[.int .i64 0, .int .i64 a1, .slice Ao26 x106002_2.length co26] 48 (0, 0))) := ⟨(by rw [hw]; exact (by refine bU ?_; refine blk_put (cs := #[.int .i64 0, .int .i64 a1, .slice none 0 0]) ?_ 2 _ rfl; refine bU ?_; refine blk_put (cs := #[.int .i64 0, .int .i64 0, .slice none 0 0]) ?_ 1 _ rfl; refine bU ?_; refine blk_put (cs := #[.int .i64 0, .int .i64 0, .slice none 0 0]) ?_ 0 _ rfl; refine bU ?_; exact BK102.out))⟩; replace BK105 : Aside0 (w27.heap[gb105]? = some (.cells #[.int .i64 0, .int .i64 a1, .slice Ao26 x106002_2.length co26] 48 (0, 0))) := ⟨(by rw [hw]; exact (bG NB105_102 BK105))⟩; replace HB : Aside0 (Below w.heap.size w w27) := ⟨(by rw [hw]; exact (lV2 GE102 GE105))⟩; clear hw))
       refine bodyPost_ret (results_ct rfl _ _ gb102 48 #[.int .i64 0, .int .i64 a1, .slice Ao26 x106002_2.length co26] (0, 0) _ rfl (bV BK102) Try.underlying48 rfl (by kernel_rfl)) rfl ?_
       exact ⟨_, eE, by (with_reducible repeat (first | apply Kd.R_alloc | apply Kd.R_drewN | apply Kd.R_drew)); exact HO_106002.out, lV2 GE102 GE105⟩
def spec_NewPeer.l0 : Nat → Int → Int → Int → Int → List (S110) → List (List Int) → List (List Bool) → Option (Int × Int × (List (S110)) × (List (List Int)) × (List (List Bool)) × (List (S48)) × Bool)
 | 0, _, _, _, _, _, _, _ => none
 | k + 1, x0, x9, x118000, x118001, x118002, x118003, x118004 => if x9 < 60 then (if 0 ≤ x0 then (if (x0 : Int).toNat ≤ 35184372088832 then (if x118003.length < 5864062014805 then (if (x0 : Int).toNat ≤ 281474976710656 then (if x118004.length < 5864062014805 then (spec_NewPeer.l0 k x0 (wrap64 (x9 + 1)) x118000 x118001 x118002 (x118003 ++ [(List.replicate (x0 : Int).toNat 0)]) (x118004 ++ [(List.replicate (x0 : Int).toNat false)])) else (none)) else (none)) else (none)) else (none)) else (none)) else (some (x118000, x118001, x118002, x118003, x118004, ([] : List (S48)), true))
def spec_NewPeer.f (k : Nat) (a0 : Int) (a1 : Int) : Option (Int × Int × (List (S110)) × (List (List Int)) × (List (List Bool)) × (List (S48)) × Bool) := (spec_StartGame.f k a0 a1).bind fun bt110 => (if bt110.2.2.2 = true then (spec_NewPeer.l0 k a0 0 bt110.1 bt110.2.1 bt110.2.2.1 ([] : List (List Int)) ([] : List (List Bool))) else (some (0, 0, ([] : List (S110)), ([] : List (List Int)), ([] : List (List Bool)), ([] : List (S48)), false)))
theorem spec_NewPeer.mono_l : ∀ k, (∀ y0 y1 y2 y3 y4 y5 y6, LeO (spec_NewPeer.l0 k y0 y1 y2 y3 y4 y5 y6) (spec_NewPeer.l0 (k + 1) y0 y1 y2 y3 y4 y5 y6))
 | 0 => fun _ _ _ _ _ _ _ r h => by simp [spec_NewPeer.l0] at h
 | k + 1 => by
  have ih0 := spec_NewPeer.mono_l k
  ·intro y0 y1 y2 y3 y4 y5 y6
   unfold spec_NewPeer.l0
   repeat' first
   | (with_reducible exact ih0 _ _ _ _ _ _ _)
   | (with_reducible exact spec_StartGame.mono _ _ _)
   | (with_reducible exact LeO.refl _)
   | (with_reducible exact LeO.none _)
   | (with_reducible refine LeO.ite ?_ ?_)
   | (with_reducible refine LeO.bind ?_ (fun _ => ?_))
   | exact ih0 _ _ _ _ _ _ _
   | exact spec_StartGame.mono _ _ _
   | exact LeO.none _
   | refine LeO.ite ?_ ?_
   | refine LeO.bind ?_ (fun _ => ?_)
theorem spec_NewPeer.mono : ∀ a0 a1 k, LeO (spec_NewPeer.f k a0 a1) (spec_NewPeer.f (k + 1) a0 a1) := by
 intro a0 a1 k
 have ih0 := spec_NewPeer.mono_l k
 unfold spec_NewPeer.f
 repeat' first
   | (with_reducible exact ih0 _ _ _ _ _ _ _)
   | (with_reducible exact spec_StartGame.mono _ _ _)
   | (with_reducible exact LeO.refl _)
   | (with_reducible exact LeO.none _)
   | (with_reducible refine LeO.ite ?_ ?_)
   | (with_reducible refine LeO.bind ?_ (fun _ => ?_))
   | exact ih0 _ _ _ _ _ _ _
   | exact spec_StartGame.mono _ _ _
   | exact LeO.none _
   | refine LeO.ite ?_ ?_
   | refine LeO.bind ?_ (fun _ => ?_)
def spec_NewPeer.T8 : Bool × List (List Nat × List Nat) := (true, [([], []), ([0], [0]), ([], []), ([2, 2], [2]), ([3], [3]), ([1, 4], [1, 4]), ([0, 1, 2, 3, 4, 5], []), ([6, 5, 5, 0, 1, 2, 3, 4, 5], [5, 6])])
def spec_NewPeer.B8 : List Nat := [0, 1, 0, 4, 12, 31, 63, 127]
theorem spec_NewPeer.tab8 : rtab .any (opsOf Try.f23 8) = spec_NewPeer.T8 := by kernel_rfl
theorem spec_NewPeer.bits8 : waitsOk spec_NewPeer.T8.2 spec_NewPeer.B8 = true := by kernel_rfl
def spec_NewPeer.T9 : Bool × List (List Nat × List Nat) := (true, [([], []), ([0], [0]), ([], []), ([2, 2], [2]), ([3], [3]), ([1, 4], [1, 4]), ([0, 1, 2, 3, 4, 5], []), ([6, 5, 5, 0, 1, 2, 3, 4, 5], [5, 6])])
def spec_NewPeer.B9 : List Nat := [0, 1, 0, 4, 12, 31, 63, 127]
theorem spec_NewPeer.tab9 : rtab .any (opsOf Try.f23 9) = spec_NewPeer.T9 := by kernel_rfl
theorem spec_NewPeer.bits9 : waitsOk spec_NewPeer.T9.2 spec_NewPeer.B9 = true := by kernel_rfl
set_option maxHeartbeats 8000000 in
set_option maxRecDepth 100000 in
theorem spec_NewPeer.calls (k : Nat) (a0 : Int) (a1 : Int) (r1 : Int) (r2 : Int) (r3 : List (S110)) (r4 : List (List Int)) (r5 : List (List Bool)) (r6 : List (S48)) (r7 : Bool) (w : World) (h : spec_NewPeer.f k a0 a1 = some (r1, r2, r3, r4, r5, r6, r7)) :
  Calls Try.prog 23 #[.int .i64 a0, .int .i64 a1] w fun e w' => ∃ v2_ v3_ v4_ v5_ : Value, e = .returned (.tuple #[.agg #[.int .i64 r1, .int .i64 r2, v2_, v3_, v4_, v5_], .bool r7]) ∧ Kd.R k110 110 w' w.heap.size (fun _ => True) v2_ r3 ∧ Kd.S (Kd.slice 3 (Kd.int .i64)) 86 w' w.heap.size (fun _ => True) v3_ r4 ∧ Kd.S (Kd.slice 4 Kd.bool) 87 w' w.heap.size (fun _ => True) v4_ r5 ∧ Kd.S k48 48 w' w.heap.size (fun k_ => some k_ ≠ (v2_ : Value).ownBlock) v5_ r6 ∧ Below w.heap.size w w' := by
 have hu53 := Try.underlying53
 have hu48 := Try.underlying48
 have HB := Aside0.mk (Below.refl w.heap.size w)
 have H : ((spec_StartGame.f k a0 a1).bind fun bt110 => (if bt110.2.2.2 = true then (spec_NewPeer.l0 k a0 0 bt110.1 bt110.2.1 bt110.2.2.1 ([] : List (List Int)) ([] : List (List Bool))) else (some (0, 0, ([] : List (S110)), ([] : List (List Int)), ([] : List (List Bool)), ([] : List (S48)), false)))) = some (r1, r2, r3, r4, r5, r6, r7) := h
 clear h
 replace H := Option.bind_eq_some_iff.mp H
 obtain ⟨⟨t110, t111, t112, t115⟩, A30, H⟩ := H
 replace H : (if t115 = true then (spec_NewPeer.l0 k a0 0 t110 t111 t112 ([] : List (List Int)) ([] : List (List Bool))) else (some (0, 0, ([] : List (S110)), ([] : List (List Int)), ([] : List (List Bool)), ([] : List (S48)), false))) = some (r1, r2, r3, r4, r5, r6, r7) := H
 have A3 := Aside0.mk A30
 clear A30
 by_cases c4 : t115 = true
 ·subst c4
  have H1 : (spec_NewPeer.l0 k a0 0 t110 t111 t112 ([] : List (List Int)) ([] : List (List Bool))) = some (r1, r2, r3, r4, r5, r6, r7) := by rw [if_pos rfl] at H; exact H
  clear H
  have H := H1
  clear H1
  have H' := Aside0.mk H
  clear H
  go_enter Try.func23, Try.ntmps23
  go_wp2_with (first | ((with_reducible refine gate_dst (N := 4) rfl ?_); refine box_event rfl (N := 4) rfl (cs := #[.int .i64 0, .int .i64 0, .slice none 0 0, .slice none 0 0, .slice none 0 0, .slice none 0 0]) (t := 53) sE ?_; intro gb109 hg w5 hbox hb; have BK109 := Aside0.mk hbox; have GW109 := gS w hg (lU); have GE109 := gS w hg (lU); replace HB := bH (lU) hb; clear hb hbox hg) | ((with_reducible refine gate_callee (f := 52) rfl ?_); refine goesL_ (some 13) rfl rfl Try.func52 (by kernel_rfl) rfl #[.int .i64 a0, .int .i64 a1] rfl aE ?_; (with_reducible refine (spec_StartGame.calls k a0 a1 t110 t111 t112 true _ A3.out).mono ?_); rintro e w6 ⟨v113, rfl, ho0, hb⟩; refine ⟨_, rfl, ?_⟩; have HO114 := Aside0.mk (Kd.R_lower ho0 (below_size (lV1 GE109))); replace BK109 := bB (bV BK109) hb; replace HB := bH (lV1 GE109) hb; (try clear hb); (try clear ho0)) | ((with_reducible refine gate_dst (N := 6) rfl ?_); refine box_event rfl (N := 6) rfl (cs := #[.int .i64 0, .int .i64 0, .slice none 0 0]) (t := 48) sE ?_; intro gb116 hg w7 hbox hb; replace HO114 := Aside0.mk (Kd.R_below (rU HO114.out) hb); have BK116 := Aside0.mk hbox; have GW116 := gS w hg (lV1 GE109); have GE116 := gS w hg (lV1 GE109); replace HB := bH (lV1 GE109) hb; have NB109_116 := nL hg (bV BK109); have NB116_109 := nG hg (bV BK109); replace BK109 := bB (bV BK109) hb; clear hb hbox hg; have hnb8 := NB116_109.out; have hnc8 := NB109_116.out; have hcz9_0 := cz BK116 0 (.int .i64 0); have hcz9_1 := cz BK116 1 (.int .i64 0); have hcz9_2 := cz BK116 2 (.slice none 0 0); have hfz9_0 := fz BK116 0; have hfz9_1 := fz BK116 1; have hfz9_2 := fz BK116 2; obtain ⟨Ao10, co10, eo10⟩ := Kd.R_slice HO114.out; subst eo10) | ((with_reducible refine gate_store (t := 48) (p := 6) rfl ?_); refine store_event (t := 48) (p := 6) (v := ?vo_w11) (w1 := (((w7.setCell ⟨gb116, 0, none⟩ (.int .i64 t110)).setCell ⟨gb116, 1, none⟩ (.int .i64 t111)).setCell ⟨gb116, 2, none⟩ (.slice Ao10 t112.length co10))) ?hg ?ho ?hn ?hr ?_; (case ho => rfl); (case hg => rfl); (case hn => rfl); (case hr => first | (go_simp; done) | (go_simp; rfl) | (have hq0_ := (blk_cell BK116.out 0).trans (show _ = some _ from rfl); have hf0_ := blk_frozen BK116.out 0; have hq1_ := (blk_cell BK116.out 1).trans (show _ = some _ from rfl); have hf1_ := blk_frozen BK116.out 1; have hq2_ := (blk_cell BK116.out 2).trans (show _ = some _ from rfl); have hf2_ := blk_frozen BK116.out 2; first | (go_simp; done) | (go_simp; rfl))); intro w11 hw; replace HO114 : Aside0 (Kd.R k110 110 w11 w.heap.size (fun _ => True) (.slice Ao10 t112.length co10) t112) := ⟨(by rw [hw]; exact (by (with_reducible repeat (first | apply Kd.R_alloc | apply Kd.R_drewN | apply Kd.R_drew)); exact Kd.R_mono (Kd.R_far (p := ⟨gb116, 2, none⟩) (Kd.R_far (p := ⟨gb116, 1, none⟩) (Kd.R_far (p := ⟨gb116, 0, none⟩) (Kd.R_types HO114.out BK116.out (by decide)) (fun _ hk => hk.2) (.int .i64 t110)) (fun _ hk => hk.2) (.int .i64 t111)) (fun _ hk => hk.2) (.slice Ao10 t112.length co10)) (fun _ hk => trivial)))⟩; replace BK109 : Aside0 (w11.heap[gb109]? = some (.cells #[.int .i64 0, .int .i64 0, .slice none 0 0, .slice none 0 0, .slice none 0 0, .slice none 0 0] 53 (0, 0))) := ⟨(by rw [hw]; exact (bG NB109_116 BK109))⟩; replace BK116 : Aside0 (w11.heap[gb116]? = some (.cells #[.int .i64 t110, .int .i64 t111, .slice Ao10 t112.length co10] 48 (0, 0))) := ⟨(by rw [hw]; exact (by refine bU ?_; refine blk_put (cs := #[.int .i64 t110, .int .i64 t111, .slice none 0 0]) ?_ 2 _ rfl; refine bU ?_; refine blk_put (cs := #[.int .i64 t110, .int .i64 0, .slice none 0 0]) ?_ 1 _ rfl; refine bU ?_; refine blk_put (cs := #[.int .i64 0, .int .i64 0, .slice none 0 0]) ?_ 0 _ rfl; refine bU ?_; exact BK116.out))⟩; replace HB : Aside0 (Below w.heap.size w w11) := ⟨(by rw [hw]; exact (lV2 GE109 GE116))⟩; clear hw; have hcz12_0 := cz BK116 0 (.int .i64 t110); have hcz12_1 := cz BK116 1 (.int .i64 t111); have hcz12_2 := cz BK116 2 (.slice Ao10 t112.length co10); have hfz12_0 := fz BK116 0; have hfz12_1 := fz BK116 1; have hfz12_2 := fz BK116 2) | ((with_reducible refine gate_dst (N := 8) rfl ?_); refine box_event rfl (N := 8) rfl (cs := #[.int .i64 0, .int .i64 0, .slice none 0 0, .slice none 0 0, .slice none 0 0, .slice none 0 0]) (t := 53) sE ?_; intro gb117 hg w13 hbox hb; replace HO114 := Aside0.mk (Kd.R_below (rU HO114.out) hb); have BK117 := Aside0.mk hbox; have GW117 := gS w hg (lV2 GE109 GE116); have GE117 := gS w hg (lV2 GE109 GE116); replace HB := bH (lV2 GE109 GE116) hb; have NB109_117 := nL hg (bV BK109); have NB117_109 := nG hg (bV BK109); replace BK109 := bB (bV BK109) hb; have NB116_117 := nL hg (bV BK116); have NB117_116 := nG hg (bV BK116); replace BK116 := bB (bV BK116) hb; clear hb hbox hg; have hnb14 := NB117_109.out; have hnc14 := NB109_117.out; have hnb15 := NB117_116.out; have hnc15 := NB116_117.out; have hcz16_0 := cz BK117 0 (.int .i64 0); have hcz16_1 := cz BK117 1 (.int .i64 0); have hcz16_2 := cz BK117 2 (.slice none 0 0); have hcz16_3 := cz BK117 3 (.slice none 0 0); have hcz16_4 := cz BK117 4 (.slice none 0 0); have hcz16_5 := cz BK117 5 (.slice none 0 0); have hfz16_0 := fz BK117 0; have hfz16_1 := fz BK117 1; have hfz16_2 := fz BK117 2; have hfz16_3 := fz BK117 3; have hfz16_4 := fz BK117 4; have hfz16_5 := fz BK117 5) | ((with_reducible refine gate_store (t := 53) (p := 8) rfl ?_); refine store_event (t := 53) (p := 8) (v := ?vo_w17) (w1 := ((((((w13.setCell ⟨gb117, 0, none⟩ (.int .i64 t110)).setCell ⟨gb117, 1, none⟩ (.int .i64 t111)).setCell ⟨gb117, 2, none⟩ (.slice Ao10 t112.length co10)).setCell ⟨gb117, 3, none⟩ (.slice none 0 0)).setCell ⟨gb117, 4, none⟩ (.slice none 0 0)).setCell ⟨gb117, 5, none⟩ (.slice none 0 0))) ?hg ?ho ?hn ?hr ?_; (case ho => rfl); (case hg => rfl); (case hn => rfl); (case hr => first | (go_simp; done) | (go_simp; rfl) | (have hq0_ := (blk_cell BK117.out 0).trans (show _ = some _ from rfl); have hf0_ := blk_frozen BK117.out 0; have hq1_ := (blk_cell BK117.out 1).trans (show _ = some _ from rfl); have hf1_ := blk_frozen BK117.out 1; have hq2_ := (blk_cell BK117.out 2).trans (show _ = some _ from rfl); have hf2_ := blk_frozen BK117.out 2; have hq3_ := (blk_cell BK117.out 3).trans (show _ = some _ from rfl); have hf3_ := blk_frozen BK117.out 3; have hq4_ := (blk_cell BK117.out 4).trans (show _ = some _ from rfl); have hf4_ := blk_frozen BK117.out 4; have hq5_ := (blk_cell BK117.out 5).trans (show _ = some _ from rfl); have hf5_ := blk_frozen BK117.out 5; first | (go_simp; done) | (go_simp; rfl))); intro w17 hw; replace HO114 : Aside0 (Kd.R k110 110 w17 w.heap.size (fun _ => True) (.slice Ao10 t112.length co10) t112) := ⟨(by rw [hw]; exact (by (with_reducible repeat (first | apply Kd.R_alloc | apply Kd.R_drewN | apply Kd.R_drew)); exact Kd.R_mono (Kd.R_far (p := ⟨gb117, 5, none⟩) (Kd.R_far (p := ⟨gb117, 4, none⟩) (Kd.R_far (p := ⟨gb117, 3, none⟩) (Kd.R_far (p := ⟨gb117, 2, none⟩) (Kd.R_far (p := ⟨gb117, 1, none⟩) (Kd.R_far (p := ⟨gb117, 0, none⟩) (Kd.R_types HO114.out BK117.out (by decide)) (fun _ hk => hk.2) (.int .i64 t110)) (fun _ hk => hk.2) (.int .i64 t111)) (fun _ hk => hk.2) (.slice Ao10 t112.length co10)) (fun _ hk => hk.2) (.slice none 0 0)) (fun _ hk => hk.2) (.slice none 0 0)) (fun _ hk => hk.2) (.slice none 0 0)) (fun _ hk => trivial)))⟩; replace BK109 : Aside0 (w17.heap[gb109]? = some (.cells #[.int .i64 0, .int .i64 0, .slice none 0 0, .slice none 0 0, .slice none 0 0, .slice none 0 0] 53 (0, 0))) := ⟨(by rw [hw]; exact (bG NB109_117 BK109))⟩; replace BK116 : Aside0 (w17.heap[gb116]? = some (.cells #[.int .i64 t110, .int .i64 t111, .slice Ao10 t112.length co10] 48 (0, 0))) := ⟨(by rw [hw]; exact (bG NB116_117 BK116))⟩; replace BK117 : Aside0 (w17.heap[gb117]? = some (.cells #[.int .i64 t110, .int .i64 t111, .slice Ao10 t112.length co10, .slice none 0 0, .slice none 0 0, .slice none 0 0] 53 (0, 0))) := ⟨(by rw [hw]; exact (by refine bU ?_; refine blk_put (cs := #[.int .i64 t110, .int .i64 t111, .slice Ao10 t112.length co10, .slice none 0 0, .slice none 0 0, .slice none 0 0]) ?_ 5 _ rfl; refine bU ?_; refine blk_put (cs := #[.int .i64 t110, .int .i64 t111, .slice Ao10 t112.length co10, .slice none 0 0, .slice none 0 0, .slice none 0 0]) ?_ 4 _ rfl; refine bU ?_; refine blk_put (cs := #[.int .i64 t110, .int .i64 t111, .slice Ao10 t112.length co10, .slice none 0 0, .slice none 0 0, .slice none 0 0]) ?_ 3 _ rfl; refine bU ?_; refine blk_put (cs := #[.int .i64 t110, .int .i64 t111, .slice none 0 0, .slice none 0 0, .slice none 0 0, .slice none 0 0]) ?_ 2 _ rfl; refine bU ?_; refine blk_put (cs := #[.int .i64 t110, .int .i64 0, .slice none 0 0, .slice none 0 0, .slice none 0 0, .slice none 0 0]) ?_ 1 _ rfl; refine bU ?_; refine blk_put (cs := #[.int .i64 0, .int .i64 0, .slice none 0 0, .slice none 0 0, .slice none 0 0, .slice none 0 0]) ?_ 0 _ rfl; refine bU ?_; exact BK117.out))⟩; replace HB : Aside0 (Below w.heap.size w w17) := ⟨(by rw [hw]; exact (lV3 GE109 GE116 GE117))⟩; clear hw))
  (try simp only [Act.put, List.setIfInBounds_toArray, List.set_cons_zero, List.set_cons_succ])
  go_loopg [9] k (fun kq v9 w' => ∃ (x9_1 : Int) (x118003_1 : List (List Int)) (x118004_1 : List (List Bool)) (u118003 : Value) (u118004 : Value), v9 = .int .i64 x9_1 ∧ Aside0 (spec_NewPeer.l0 kq a0 x9_1 t110 t111 t112 x118003_1 x118004_1 = some (r1, r2, r3, r4, r5, r6, r7)) ∧ Aside0 (kq ≤ k) ∧ Aside0 (Kd.R k110 110 w' w.heap.size (fun _ => True) (.slice Ao10 t112.length co10) t112) ∧ Aside0 (Kd.R k110 110 w' w.heap.size (fun _ => True) (.slice Ao10 t112.length co10) t112) ∧ Aside0 (Kd.S (Kd.slice 3 (Kd.int .i64)) 86 w' w.heap.size (fun _ => True) u118003 x118003_1) ∧ Aside0 (Kd.S (Kd.slice 4 Kd.bool) 87 w' w.heap.size (fun _ => True) u118004 x118004_1) ∧ Aside0 (w'.heap[gb109]? = some (.cells #[.int .i64 0, .int .i64 0, (.slice none 0 0), (.slice none 0 0), (.slice none 0 0), (.slice none 0 0)] 53 (0, 0))) ∧ Aside0 (w'.heap[gb116]? = some (.cells #[.int .i64 t110, .int .i64 t111, (.slice Ao10 t112.length co10)] 48 (0, 0))) ∧ Aside0 (w'.heap[gb117]? = some (.cells #[.int .i64 t110, .int .i64 t111, (.slice Ao10 t112.length co10), u118003, u118004, (.slice none 0 0)] 53 (0, 0))) ∧ Aside0 (Below w.heap.size w w'))
  case atStart => exact ⟨(0), (([] : List (List Int))), (([] : List (List Bool))), (.slice none 0 0), (.slice none 0 0), tE, H', ⟨Nat.le_refl _⟩, ⟨by (with_reducible repeat (first | apply Kd.R_alloc | apply Kd.R_drewN | apply Kd.R_drew)); exact HO114.out⟩, ⟨by (with_reducible repeat (first | apply Kd.R_alloc | apply Kd.R_drewN | apply Kd.R_drew)); exact HO114.out⟩, ⟨by first | exact Kd.S_nil _ _ _ _ _ | exact Kd.N_nil _ _ _ _ _ | exact Kd.V_nil _ _ _ _ _ | exact Kd.Q_nil _ _ _ _ _ | exact Kd.R_nil _ _ _ _ _⟩, ⟨by first | exact Kd.S_nil _ _ _ _ _ | exact Kd.N_nil _ _ _ _ _ | exact Kd.V_nil _ _ _ _ _ | exact Kd.Q_nil _ _ _ _ _ | exact Kd.R_nil _ _ _ _ _⟩, ⟨by refine bU ?_; exact BK109.out⟩, ⟨by refine bU ?_; exact BK116.out⟩, ⟨by refine bU ?_; exact BK117.out⟩, ⟨by repeat (first | (with_reducible first | exact HB.out | apply below_alloc | apply pw_below_drewN | apply below_drew1 | refine below_set ?_ GE109.out | refine below_set ?_ GE116.out | refine below_set ?_ GE117.out) | exact HB.out)⟩⟩
  case round =>
   clear H'
   try clear c1
   try clear q1
   try clear c2
   try clear p2
   try clear q2
   try clear hf2
   try clear q3
   try clear hf3
   try clear c4
   try clear q4
   try clear hf4
   try clear c5
   try clear q5
   try clear hf5
   try clear c8
   try clear c14
   try clear c15
   try clear hcz12_0
   try clear hcz12_1
   try clear hcz12_2
   try clear hcz16_0
   try clear hcz16_1
   try clear hcz16_2
   try clear hcz16_3
   try clear hcz16_4
   try clear hcz16_5
   try clear hcz9_0
   try clear hcz9_1
   try clear hcz9_2
   try clear hfz12_0
   try clear hfz12_1
   try clear hfz12_2
   try clear hfz16_0
   try clear hfz16_1
   try clear hfz16_2
   try clear hfz16_3
   try clear hfz16_4
   try clear hfz16_5
   try clear hfz9_0
   try clear hfz9_1
   try clear hfz9_2
   obtain ⟨x9_1, x118003_1, x118004_1, u118003, u118004, rfl, HA, HK1, HO_117002, HO_118002, HO_118003, HO_118004, BK109, BK116, BK117, HB⟩ := hrel
   cases gk with
   | zero => exact absurd HA.out (by simp [spec_NewPeer.l0])
   | succ k1 =>
    have H := HA.out
    clear HA
    simp only [spec_NewPeer.l0] at H
    by_cases c18 : x9_1 < 60
    ·rw [if_pos c18] at H
     have c18b0 : decide (x9_1 < 60) = true := decide_eq_true c18
     clear c18
     by_cases c19 : 0 ≤ a0
     ·rw [if_pos c19] at H
      have c19b0 := eq_true c19
      have c19b1 : decide (0 ≤ a0) = true := decide_eq_true c19
      clear c19
      by_cases c20 : (a0 : Int).toNat ≤ 35184372088832
      ·rw [if_pos c20] at H
       have c20b0 := eq_true c20
       have c20b1 : decide ((a0 : Int).toNat ≤ 35184372088832) = true := decide_eq_true c20
       clear c20
       obtain ⟨y118, hy118⟩ : ∃ y_ : List Int, y_ = (List.replicate (a0 : Int).toNat 0) := ⟨_, rfl⟩
       replace H : (if x118003_1.length < 5864062014805 then (if (a0 : Int).toNat ≤ 281474976710656 then (if x118004_1.length < 5864062014805 then (spec_NewPeer.l0 k1 a0 (wrap64 (x9_1 + 1)) t110 t111 t112 (x118003_1 ++ [y118]) (x118004_1 ++ [(List.replicate (a0 : Int).toNat false)])) else (none)) else (none)) else (none)) = some (r1, r2, r3, r4, r5, r6, r7) := by first | (rw [hy118]; with_reducible exact H) | (have H2_ := (Option.bind_some _ _).symm.trans H; rw [hy118]; with_reducible exact H2_) | (have H2_ := (Option.bind_some _ _).symm.trans H; with_reducible exact H2_) | with_reducible exact H | (rw [hy118]; exact H) | exact H
       have Ny118 := Aside0.mk hy118
       clear hy118
       by_cases c21 : x118003_1.length < 5864062014805
       ·rw [if_pos c21] at H
        have LMc21 := Aside0.mk c21
        clear c21
        obtain ⟨y121, hy121⟩ : ∃ y_ : List (List Int), y_ = (x118003_1 ++ [y118]) := ⟨_, rfl⟩
        replace H : (if (a0 : Int).toNat ≤ 281474976710656 then (if x118004_1.length < 5864062014805 then (spec_NewPeer.l0 k1 a0 (wrap64 (x9_1 + 1)) t110 t111 t112 y121 (x118004_1 ++ [(List.replicate (a0 : Int).toNat false)])) else (none)) else (none)) = some (r1, r2, r3, r4, r5, r6, r7) := by first | (rw [hy121]; with_reducible exact H) | (have H2_ := (Option.bind_some _ _).symm.trans H; rw [hy121]; with_reducible exact H2_) | (have H2_ := (Option.bind_some _ _).symm.trans H; with_reducible exact H2_) | with_reducible exact H | (rw [hy121]; exact H) | exact H
        have Ny121 := Aside0.mk hy121
        clear hy121
        by_cases c22 : (a0 : Int).toNat ≤ 281474976710656
        ·rw [if_pos c22] at H
         have c22b0 := eq_true c22
         have c22b1 : decide ((a0 : Int).toNat ≤ 281474976710656) = true := decide_eq_true c22
         clear c22
         obtain ⟨y124, hy124⟩ : ∃ y_ : List Bool, y_ = (List.replicate (a0 : Int).toNat false) := ⟨_, rfl⟩
         replace H : (if x118004_1.length < 5864062014805 then (spec_NewPeer.l0 k1 a0 (wrap64 (x9_1 + 1)) t110 t111 t112 y121 (x118004_1 ++ [y124])) else (none)) = some (r1, r2, r3, r4, r5, r6, r7) := by first | (rw [hy124]; with_reducible exact H) | (have H2_ := (Option.bind_some _ _).symm.trans H; rw [hy124]; with_reducible exact H2_) | (have H2_ := (Option.bind_some _ _).symm.trans H; with_reducible exact H2_) | with_reducible exact H | (rw [hy124]; exact H) | exact H
         have Ny124 := Aside0.mk hy124
         clear hy124
         by_cases c23 : x118004_1.length < 5864062014805
         ·rw [if_pos c23] at H
          have LMc23 := Aside0.mk c23
          clear c23
          obtain ⟨y127, hy127⟩ : ∃ y_ : List (List Bool), y_ = (x118004_1 ++ [y124]) := ⟨_, rfl⟩
          replace H : (spec_NewPeer.l0 k1 a0 (wrap64 (x9_1 + 1)) t110 t111 t112 y121 y127) = some (r1, r2, r3, r4, r5, r6, r7) := by first | (rw [hy127]; with_reducible exact H) | (have H2_ := (Option.bind_some _ _).symm.trans H; rw [hy127]; with_reducible exact H2_) | (have H2_ := (Option.bind_some _ _).symm.trans H; with_reducible exact H2_) | with_reducible exact H | (rw [hy127]; exact H) | exact H
          have Ny127 := Aside0.mk hy127
          clear hy127
          have H' := Aside0.mk H
          clear H
          try go_wp2
          replace HO_117002 := Aside0.mk (Kd.R_drew HO_117002.out)
          replace HO_118002 := Aside0.mk (Kd.R_drew HO_118002.out)
          replace HO_118003 := Aside0.mk (Kd.S_drew HO_118003.out)
          replace HO_118004 := Aside0.mk (Kd.S_drew HO_118004.out)
          replace BK109 := Aside0.mk (blk_drew BK109.out)
          replace BK116 := Aside0.mk (blk_drew BK116.out)
          replace BK117 := Aside0.mk (blk_drew BK117.out)
          replace HB := Aside0.mk (below_drew1 HB.out)
          refine start_ (n := 8) (S := fun w' => w'.cell? ⟨gb117, 0, none⟩ = some (.int .i64 t110) ∧ w'.cell? ⟨gb117, 1, none⟩ = some (.int .i64 t111) ∧ w'.cell? ⟨gb117, 2, none⟩ = some (.slice Ao10 t112.length co10) ∧ w'.cell? ⟨gb117, 3, none⟩ = some (u118003) ∧ w'.cell? ⟨gb117, 4, none⟩ = some (u118004) ∧ w'.cell? ⟨gb117, 5, none⟩ = some (.slice none 0 0)) (ds := [7]) #[false, false, false, false, false, false, false, false] (by kernel_rfl) rfl rfl ⟨cz BK117 0 _, cz BK117 1 _, cz BK117 2 _, cz BK117 3 _, cz BK117 4 _, cz BK117 5 _⟩ (fun hHeld => ?_); refine with_tabW spec_NewPeer.tab8 spec_NewPeer.bits8 (fun HT_ HW_ => ?_)
          generalize wr.drew = w24 at HO_117002 HO_118002 HO_118003 HO_118004 BK109 BK116 BK117 HB hHeld ⊢
          refine pureA 0 25 (bz 8 1) rfl rfl (any_of HT_.out (by kernel_rfl)) ?_
          refine pureA 2 27 (bz 8 5) rfl rfl (any_of HT_.out (by kernel_rfl)) ?_
          refine takeA 1 26 (bz 8 7) rfl rfl (take_ofW HT_.out HW_.out (by kernel_rfl)) hHeld (by rintro w' ⟨s0, s1, s2, s3, s4, s5⟩; go_simp; with_reducible rfl) ?_
          refine one_ (i := 3) (N := some 28) (bz 8 15) rfl rfl (one_of HT_.out (by kernel_rfl)) (by decide) (fun K hK => ?_)
          refine Kd.R_make_step (Kd.int .i64) _ 3 (by rfl) (N := 28) rfl 86 _ _ rfl a0 rfl rfl Try.underlying86 (.int .i64 0) 8 info3 rfl (by decide) (by omega) 0 (ok := fun _ => True) (okp := fun _ => True) rfl (fun _ hk => hk) trivial (of_decide_eq_true hE) (Nat.le_trans (Nat.mul_le_mul_right _ (of_decide_eq_true hE : a0.toNat ≤ 35184372088832)) (by omega)) (Below.refl _ _) (Nat.le_refl _) ?_
          intro v119 w25 ho26 hb hg_ hnew_
          clear hg_ hnew_
          (first | rw [← Ny118.out] at ho26 | (simp only [Int.reduceToNat] at ho26; rw [← Ny118.out] at ho26))
          replace HO_117002 := Aside0.mk (Kd.R_below (rU HO_117002.out) hb)
          replace HO_118002 := Aside0.mk (Kd.R_below (rU HO_118002.out) hb)
          replace HO_118003 := Aside0.mk (Kd.S_elder' (by (with_reducible repeat (first | apply Kd.S_alloc | apply Kd.S_drewN | apply Kd.S_drew)); exact HO_118003.out) (Kd.R_base ho26) hb)
          replace HO_118004 := Aside0.mk (Kd.S_below (by (with_reducible repeat (first | apply Kd.S_alloc | apply Kd.S_drewN | apply Kd.S_drew)); exact HO_118004.out) hb)
          have HO120 := Aside0.mk (Kd.R_lower ho26 (below_size (lV3 GE109 GE116 GE117)))
          replace BK109 := bB (bV BK109) hb
          replace BK116 := bB (bV BK116) hb
          replace BK117 := bB (bV BK117) hb
          replace HB := bH (lV3 GE109 GE116 GE117) hb
          clear hb ho26
          obtain ⟨Ao28, co28, eo28⟩ := Kd.R_slice HO120.out
          (first | subst eo28 | (injection eo28 with f1_ f2_ f3_; have f4_ := f1_.symm; have f5_ := f3_.symm; clear f1_ f2_ f3_; subst f4_; subst f5_))
          refine hK.out _ _ ⟨cz BK117 0 _, cz BK117 1 _, cz BK117 2 _, cz BK117 3 _, cz BK117 4 _, cz BK117 5 _⟩ (fun hHeld => ?_)
          clear hK K
          refine norm_ (a' := ?_) ?_ ?_
          rotate_left
          ·show Act.put _ (some 28) _ = _
           simp only [Act.put, List.setIfInBounds_toArray, List.set_cons_zero, List.set_cons_succ, i64_w, i32_w]
           rfl
          refine one_ (i := 4) (N := some 29) (bz 8 31) rfl rfl (one_of HT_.out (by kernel_rfl)) (by decide) (fun K hK => ?_)
          refine value_ (w1 := ?_) (v := ?_) (by rfl) rfl ?_ ?_
          rotate_left 2
          ·go_simp
           constructor
           ·rfl
           ·rfl
          refine hK.out _ _ ⟨(blk_cell (blk_alloc BK117.out _) 0).trans rfl, (blk_cell (blk_alloc BK117.out _) 1).trans rfl, (blk_cell (blk_alloc BK117.out _) 2).trans rfl, (blk_cell (blk_alloc BK117.out _) 3).trans rfl, (blk_cell (blk_alloc BK117.out _) 4).trans rfl, (blk_cell (blk_alloc BK117.out _) 5).trans rfl⟩ (fun hHeld => ?_)
          clear hK K
          refine norm_ (a' := ?_) ?_ ?_
          rotate_left
          ·show Act.put _ (some 29) _ = _
           simp only [Act.put, List.setIfInBounds_toArray, List.set_cons_zero, List.set_cons_succ, i64_w, i32_w]
           rfl
          refine one_ (i := 5) (N := some 30) (bz 8 63) rfl rfl (one_of HT_.out (by kernel_rfl)) (by decide) (fun K hK => ?_)
          refine Kd.S_append_step (Kd.slice 3 (Kd.int .i64)) (w0 := w) w.heap.size (by rfl) (.tmp 26) (.tmp 29) 49 86 (.slice none 0 0) 24 rfl Try.underlying49 info86 rfl (by decide) (by omega) u118003 x118003_1 y118 [.slice Ao28 y118.length co28] (fun _ => True) (fun k_ => some k_ = (.slice Ao28 y118.length co28 : Value).ownBlock) rfl rfl ?aP (fun k_ hk_ => ((Kd.R_mono (ok' := fun k_ => ((fun _ => True)) k_ ∧ some k_ ≠ (u118003 : Value).ownBlock) (Kd.R_apart' (HO120.out) (Kd.S_typed HO_118003.out) (by decide)) (fun k_ hk => ⟨trivial, hk.2⟩))).1 k_ hk_.symm) ?aF ?aO ?aB ?aS ?aL ?_
          (case aP => exact Kd.M_row (Kd.R_mono (Kd.R_tight rfl (Kd.R_mono (ok' := fun k_ => ((fun _ => True)) k_ ∧ some k_ ≠ (u118003 : Value).ownBlock) (Kd.R_apart' (HO120.out) (Kd.S_typed HO_118003.out) (by decide)) (fun k_ hk => ⟨trivial, hk.2⟩))) (fun _ h_ => h_)))
          (case aB => exact (lV3 GE109 GE116 GE117))
          (case aF => exact (fun _ _ => trivial))
          (case aO => exact (by (with_reducible repeat (first | apply Kd.S_alloc | apply Kd.S_drewN | apply Kd.S_drew)); exact Kd.S_mono HO_118003.out (fun k_ hk => ⟨trivial, fun e_ => hk.2 e_⟩)))
          (case aS => exact (below_size (lV3 GE109 GE116 GE117)))
          (case aL => have := LMc21.out; omega)
          intro v122 w27 ho hb hg hat
          rw [← Ny121.out] at ho
          replace HO_117002 := Aside0.mk (Kd.R_over' (rU HO_117002.out) (Kd.S_typed (by (with_reducible repeat (first | apply Kd.S_alloc | apply Kd.S_drewN | apply Kd.S_drew)); exact HO_118003.out)) (by decide) hg)
          replace HO_118002 := Aside0.mk (Kd.R_over' (rU HO_118002.out) (Kd.S_typed (by (with_reducible repeat (first | apply Kd.S_alloc | apply Kd.S_drewN | apply Kd.S_drew)); exact HO_118003.out)) (by decide) hg)
          replace HO_118004 := Aside0.mk (Kd.S_over' (by (with_reducible repeat (first | apply Kd.S_alloc | apply Kd.S_drewN | apply Kd.S_drew)); exact HO_118004.out) (Kd.S_typed (by (with_reducible repeat (first | apply Kd.S_alloc | apply Kd.S_drewN | apply Kd.S_drew)); exact HO_118003.out)) (by decide) hg)
          replace BK109 := Aside0.mk (blk_grown (g := gb109) (o := .cells #[.int .i64 0, .int .i64 0, .slice none 0 0, .slice none 0 0, .slice none 0 0, .slice none 0 0] 53 (0, 0)) (bV BK109) hg (Kd.S_ne HO_118003.out BK109.out (by decide)))
          replace BK116 := Aside0.mk (blk_grown (g := gb116) (o := .cells #[.int .i64 t110, .int .i64 t111, .slice Ao10 t112.length co10] 48 (0, 0)) (bV BK116) hg (Kd.S_ne HO_118003.out BK116.out (by decide)))
          replace BK117 := Aside0.mk (blk_grown (g := gb117) (o := .cells #[.int .i64 t110, .int .i64 t111, .slice Ao10 t112.length co10, u118003, u118004, .slice none 0 0] 53 (0, 0)) (bV BK117) hg (Kd.S_ne HO_118003.out BK117.out (by decide)))
          replace HB := Aside0.mk hb
          have HO123 := Aside0.mk ho
          clear HO_118003 HO120
          clear ho hb hg hat
          obtain ⟨Ao29, co29, eo29⟩ := Kd.S_slice HO123.out
          (first | subst eo29 | (injection eo29 with f1_ f2_ f3_; have f4_ := f1_.symm; have f5_ := f3_.symm; clear f1_ f2_ f3_; subst f4_; subst f5_))
          refine hK.out _ _ ⟨cz BK117 0 _, cz BK117 1 _, cz BK117 2 _, cz BK117 3 _, cz BK117 4 _, cz BK117 5 _⟩ (fun hHeld => ?_)
          clear hK K
          refine norm_ (a' := ?_) ?_ ?_
          rotate_left
          ·show Act.put _ (some 30) _ = _
           simp only [Act.put, List.setIfInBounds_toArray, List.set_cons_zero, List.set_cons_succ, i64_w, i32_w]
           rfl
          refine pureA 6 31 (bz 8 127) rfl rfl (any_of HT_.out (by kernel_rfl)) ?_
          refine last_ (i := 7) (N := none) (bz 8 255) rfl rfl (one_of HT_.out (by kernel_rfl)) (by decide) (fun K hK => ?_)
          have hs30 : w27.cell? ⟨gb117, 3, none⟩ = some (u118003) := (blk_cell BK117.out 3).trans rfl
          have hfs30 := blk_frozen BK117.out 3
          have hns30_0 := NB109_117.out
          have hns30_1 := NB116_117.out
          have hms30_0 := NB117_109.out
          have hms30_1 := NB117_116.out
          refine skip_ (w1 := ?_) (by rfl) rfl ?_ ?_
          rotate_left
          ·go_simp
           rfl
          refine hK.out _ _ ?_
          clear hK K
          refine done_ (done_of HT_.out (by kernel_rfl)) ?_
          try go_wp2
          have n0_ : Aside0 (Kd.R k110 110 (w27.setCell ⟨gb117, 3, none⟩ (.slice Ao29 y121.length co29)) w.heap.size (fun _ => True) (.slice Ao10 t112.length co10) t112) := ⟨by (with_reducible repeat (first | apply Kd.R_alloc | apply Kd.R_drewN | apply Kd.R_drew)); exact Kd.R_mono (Kd.R_far (p := ⟨gb117, 3, none⟩) (Kd.R_types HO_117002.out BK117.out (by decide)) (fun _ hk => hk.2) (.slice Ao29 y121.length co29)) (fun _ hk => trivial)⟩
          have n1_ : Aside0 (Kd.R k110 110 (w27.setCell ⟨gb117, 3, none⟩ (.slice Ao29 y121.length co29)) w.heap.size (fun _ => True) (.slice Ao10 t112.length co10) t112) := ⟨by (with_reducible repeat (first | apply Kd.R_alloc | apply Kd.R_drewN | apply Kd.R_drew)); exact Kd.R_mono (Kd.R_far (p := ⟨gb117, 3, none⟩) (Kd.R_types HO_118002.out BK117.out (by decide)) (fun _ hk => hk.2) (.slice Ao29 y121.length co29)) (fun _ hk => trivial)⟩
          have n2_ : Aside0 (Kd.S (Kd.slice 4 Kd.bool) 87 (w27.setCell ⟨gb117, 3, none⟩ (.slice Ao29 y121.length co29)) w.heap.size (fun _ => True) u118004 x118004_1) := ⟨by (with_reducible repeat (first | apply Kd.S_alloc | apply Kd.S_drewN | apply Kd.S_drew)); exact Kd.S_mono (Kd.S_far (p := ⟨gb117, 3, none⟩) (Kd.S_types HO_118004.out BK117.out (by decide)) (fun _ hk => hk.2) (.slice Ao29 y121.length co29)) (fun _ hk => trivial)⟩
          have n3_ : Aside0 (Kd.S (Kd.slice 3 (Kd.int .i64)) 86 (w27.setCell ⟨gb117, 3, none⟩ (.slice Ao29 y121.length co29)) w.heap.size (fun _ => True) (.slice Ao29 y121.length co29) y121) := ⟨by (with_reducible repeat (first | apply Kd.S_alloc | apply Kd.S_drewN | apply Kd.S_drew)); exact Kd.S_mono (Kd.S_far (p := ⟨gb117, 3, none⟩) (Kd.S_types HO123.out BK117.out (by decide)) (fun _ hk => hk.2) (.slice Ao29 y121.length co29)) (fun _ hk => trivial)⟩
          have n4_ : Aside0 ((w27.setCell ⟨gb117, 3, none⟩ (.slice Ao29 y121.length co29)).heap[gb109]? = some (.cells #[.int .i64 0, .int .i64 0, .slice none 0 0, .slice none 0 0, .slice none 0 0, .slice none 0 0] 53 (0, 0))) := ⟨by refine bU ?_; refine blk_far ?_ NB109_117.out _; refine bU ?_; exact BK109.out⟩
          have n5_ : Aside0 ((w27.setCell ⟨gb117, 3, none⟩ (.slice Ao29 y121.length co29)).heap[gb116]? = some (.cells #[.int .i64 t110, .int .i64 t111, .slice Ao10 t112.length co10] 48 (0, 0))) := ⟨by refine bU ?_; refine blk_far ?_ NB116_117.out _; refine bU ?_; exact BK116.out⟩
          have n6_ : Aside0 ((w27.setCell ⟨gb117, 3, none⟩ (.slice Ao29 y121.length co29)).heap[gb117]? = some (.cells #[.int .i64 t110, .int .i64 t111, .slice Ao10 t112.length co10, .slice Ao29 y121.length co29, u118004, .slice none 0 0] 53 (0, 0))) := ⟨by refine bU ?_; refine blk_put (cs := #[.int .i64 t110, .int .i64 t111, .slice Ao10 t112.length co10, u118003, u118004, .slice none 0 0]) ?_ 3 _ rfl; refine bU ?_; exact BK117.out⟩
          have n7_ : Aside0 (Below w.heap.size w (w27.setCell ⟨gb117, 3, none⟩ (.slice Ao29 y121.length co29))) := ⟨by repeat (first | (with_reducible first | exact HB.out | apply below_alloc | apply pw_below_drewN | apply below_drew1 | refine below_set ?_ GE109.out | refine below_set ?_ GE116.out | refine below_set ?_ GE117.out) | exact HB.out)⟩
          (try clear HO_117002)
          (try clear HO_118002)
          (try clear HO_118004)
          (try clear HO123)
          (try clear BK109)
          (try clear BK116)
          (try clear BK117)
          (try clear HB)
          generalize (w27.setCell ⟨gb117, 3, none⟩ (.slice Ao29 y121.length co29)) = w31 at n0_ n1_ n2_ n3_ n4_ n5_ n6_ n7_ ⊢
          have HO_117002 := n0_
          have HO_118002 := n1_
          have HO_118004 := n2_
          have HO123 := n3_
          have BK109 := n4_
          have BK116 := n5_
          have BK117 := n6_
          have HB := n7_
          clear n0_ n1_ n2_ n3_ n4_ n5_ n6_ n7_
          replace HO_117002 := Aside0.mk (Kd.R_drew HO_117002.out)
          replace HO_118002 := Aside0.mk (Kd.R_drew HO_118002.out)
          replace HO_118004 := Aside0.mk (Kd.S_drew HO_118004.out)
          replace HO123 := Aside0.mk (Kd.S_drew HO123.out)
          replace BK109 := Aside0.mk (blk_drew BK109.out)
          replace BK116 := Aside0.mk (blk_drew BK116.out)
          replace BK117 := Aside0.mk (blk_drew BK117.out)
          replace HB := Aside0.mk (below_drew1 HB.out)
          refine start_ (n := 8) (S := fun w' => w'.cell? ⟨gb117, 0, none⟩ = some (.int .i64 t110) ∧ w'.cell? ⟨gb117, 1, none⟩ = some (.int .i64 t111) ∧ w'.cell? ⟨gb117, 2, none⟩ = some (.slice Ao10 t112.length co10) ∧ w'.cell? ⟨gb117, 3, none⟩ = some (.slice Ao29 y121.length co29) ∧ w'.cell? ⟨gb117, 4, none⟩ = some (u118004) ∧ w'.cell? ⟨gb117, 5, none⟩ = some (.slice none 0 0)) (ds := [7]) #[false, false, false, false, false, false, false, false] (by kernel_rfl) rfl rfl ⟨cz BK117 0 _, cz BK117 1 _, cz BK117 2 _, cz BK117 3 _, cz BK117 4 _, cz BK117 5 _⟩ (fun hHeld => ?_); refine with_tabW spec_NewPeer.tab9 spec_NewPeer.bits9 (fun HT_ HW_ => ?_)
          generalize w31.drew = w32 at HO_117002 HO_118002 HO_118004 HO123 BK109 BK116 BK117 HB hHeld ⊢
          refine pureA 0 32 (bz 8 1) rfl rfl (any_of HT_.out (by kernel_rfl)) ?_
          refine pureA 2 34 (bz 8 5) rfl rfl (any_of HT_.out (by kernel_rfl)) ?_
          refine takeA 1 33 (bz 8 7) rfl rfl (take_ofW HT_.out HW_.out (by kernel_rfl)) hHeld (by rintro w' ⟨s0, s1, s2, s3, s4, s5⟩; go_simp; with_reducible rfl) ?_
          refine one_ (i := 3) (N := some 35) (bz 8 15) rfl rfl (one_of HT_.out (by kernel_rfl)) (by decide) (fun K hK => ?_)
          refine Kd.R_make_step Kd.bool _ 4 (by rfl) (N := 35) rfl 87 _ _ rfl a0 rfl rfl Try.underlying87 (.bool false) 1 info4 rfl (by decide) (by omega) false (ok := fun _ => True) (okp := fun _ => True) rfl (fun _ hk => hk) trivial (of_decide_eq_true hE) (Nat.le_trans (Nat.mul_le_mul_right _ (of_decide_eq_true hE : a0.toNat ≤ 281474976710656)) (by omega)) (Below.refl _ _) (Nat.le_refl _) ?_
          intro v125 w33 ho34 hb hg_ hnew_
          clear hg_ hnew_
          (first | rw [← Ny124.out] at ho34 | (simp only [Int.reduceToNat] at ho34; rw [← Ny124.out] at ho34))
          replace HO_117002 := Aside0.mk (Kd.R_below (rU HO_117002.out) hb)
          replace HO_118002 := Aside0.mk (Kd.R_below (rU HO_118002.out) hb)
          replace HO_118004 := Aside0.mk (Kd.S_elder' (by (with_reducible repeat (first | apply Kd.S_alloc | apply Kd.S_drewN | apply Kd.S_drew)); exact HO_118004.out) (Kd.R_base ho34) hb)
          replace HO123 := Aside0.mk (Kd.S_below (by (with_reducible repeat (first | apply Kd.S_alloc | apply Kd.S_drewN | apply Kd.S_drew)); exact HO123.out) hb)
          have HO126 := Aside0.mk (Kd.R_lower ho34 (below_size (lV3 GE109 GE116 GE117)))
          replace BK109 := bB (bV BK109) hb
          replace BK116 := bB (bV BK116) hb
          replace BK117 := bB (bV BK117) hb
          replace HB := bH (lV3 GE109 GE116 GE117) hb
          clear hb ho34
          obtain ⟨Ao36, co36, eo36⟩ := Kd.R_slice HO126.out
          (first | subst eo36 | (injection eo36 with f1_ f2_ f3_; have f4_ := f1_.symm; have f5_ := f3_.symm; clear f1_ f2_ f3_; subst f4_; subst f5_))
          refine hK.out _ _ ⟨cz BK117 0 _, cz BK117 1 _, cz BK117 2 _, cz BK117 3 _, cz BK117 4 _, cz BK117 5 _⟩ (fun hHeld => ?_)
          clear hK K
          refine norm_ (a' := ?_) ?_ ?_
          rotate_left
          ·show Act.put _ (some 35) _ = _
           simp only [Act.put, List.setIfInBounds_toArray, List.set_cons_zero, List.set_cons_succ, i64_w, i32_w]
           rfl
          refine one_ (i := 4) (N := some 36) (bz 8 31) rfl rfl (one_of HT_.out (by kernel_rfl)) (by decide) (fun K hK => ?_)
          refine value_ (w1 := ?_) (v := ?_) (by rfl) rfl ?_ ?_
          rotate_left 2
          ·go_simp
           constructor
           ·rfl
           ·rfl
          refine hK.out _ _ ⟨(blk_cell (blk_alloc BK117.out _) 0).trans rfl, (blk_cell (blk_alloc BK117.out _) 1).trans rfl, (blk_cell (blk_alloc BK117.out _) 2).trans rfl, (blk_cell (blk_alloc BK117.out _) 3).trans rfl, (blk_cell (blk_alloc BK117.out _) 4).trans rfl, (blk_cell (blk_alloc BK117.out _) 5).trans rfl⟩ (fun hHeld => ?_)
          clear hK K
          refine norm_ (a' := ?_) ?_ ?_
          rotate_left
          ·show Act.put _ (some 36) _ = _
           simp only [Act.put, List.setIfInBounds_toArray, List.set_cons_zero, List.set_cons_succ, i64_w, i32_w]
           rfl
          refine one_ (i := 5) (N := some 37) (bz 8 63) rfl rfl (one_of HT_.out (by kernel_rfl)) (by decide) (fun K hK => ?_)
          refine Kd.S_append_step (Kd.slice 4 Kd.bool) (w0 := w) w.heap.size (by rfl) (.tmp 33) (.tmp 36) 50 87 (.slice none 0 0) 24 rfl Try.underlying50 info87 rfl (by decide) (by omega) u118004 x118004_1 y124 [.slice Ao36 y124.length co36] (fun _ => True) (fun k_ => some k_ = (.slice Ao36 y124.length co36 : Value).ownBlock) rfl rfl ?aP (fun k_ hk_ => ((Kd.R_mono (ok' := fun k_ => ((fun _ => True)) k_ ∧ some k_ ≠ (u118004 : Value).ownBlock) (Kd.R_apart' (HO126.out) (Kd.S_typed HO_118004.out) (by decide)) (fun k_ hk => ⟨trivial, hk.2⟩))).1 k_ hk_.symm) ?aF ?aO ?aB ?aS ?aL ?_
          (case aP => exact Kd.M_row (Kd.R_mono (Kd.R_tight rfl (Kd.R_mono (ok' := fun k_ => ((fun _ => True)) k_ ∧ some k_ ≠ (u118004 : Value).ownBlock) (Kd.R_apart' (HO126.out) (Kd.S_typed HO_118004.out) (by decide)) (fun k_ hk => ⟨trivial, hk.2⟩))) (fun _ h_ => h_)))
          (case aB => exact (lV3 GE109 GE116 GE117))
          (case aF => exact (fun _ _ => trivial))
          (case aO => exact (by (with_reducible repeat (first | apply Kd.S_alloc | apply Kd.S_drewN | apply Kd.S_drew)); exact Kd.S_mono HO_118004.out (fun k_ hk => ⟨trivial, fun e_ => hk.2 e_⟩)))
          (case aS => exact (below_size (lV3 GE109 GE116 GE117)))
          (case aL => have := LMc23.out; omega)
          intro v128 w35 ho hb hg hat
          rw [← Ny127.out] at ho
          replace HO_117002 := Aside0.mk (Kd.R_over' (rU HO_117002.out) (Kd.S_typed (by (with_reducible repeat (first | apply Kd.S_alloc | apply Kd.S_drewN | apply Kd.S_drew)); exact HO_118004.out)) (by decide) hg)
          replace HO_118002 := Aside0.mk (Kd.R_over' (rU HO_118002.out) (Kd.S_typed (by (with_reducible repeat (first | apply Kd.S_alloc | apply Kd.S_drewN | apply Kd.S_drew)); exact HO_118004.out)) (by decide) hg)
          replace BK109 := Aside0.mk (blk_grown (g := gb109) (o := .cells #[.int .i64 0, .int .i64 0, .slice none 0 0, .slice none 0 0, .slice none 0 0, .slice none 0 0] 53 (0, 0)) (bV BK109) hg (Kd.S_ne HO_118004.out BK109.out (by decide)))
          replace BK116 := Aside0.mk (blk_grown (g := gb116) (o := .cells #[.int .i64 t110, .int .i64 t111, .slice Ao10 t112.length co10] 48 (0, 0)) (bV BK116) hg (Kd.S_ne HO_118004.out BK116.out (by decide)))
          replace BK117 := Aside0.mk (blk_grown (g := gb117) (o := .cells #[.int .i64 t110, .int .i64 t111, .slice Ao10 t112.length co10, .slice Ao29 y121.length co29, u118004, .slice none 0 0] 53 (0, 0)) (bV BK117) hg (Kd.S_ne HO_118004.out BK117.out (by decide)))
          replace HO123 := Aside0.mk (Kd.S_over' (by (with_reducible repeat (first | apply Kd.S_alloc | apply Kd.S_drewN | apply Kd.S_drew)); exact HO123.out) (Kd.S_typed (by (with_reducible repeat (first | apply Kd.S_alloc | apply Kd.S_drewN | apply Kd.S_drew)); exact HO_118004.out)) (by decide) hg)
          replace HB := Aside0.mk hb
          have HO129 := Aside0.mk ho
          clear HO_118004 HO126
          clear ho hb hg hat
          obtain ⟨Ao37, co37, eo37⟩ := Kd.S_slice HO129.out
          (first | subst eo37 | (injection eo37 with f1_ f2_ f3_; have f4_ := f1_.symm; have f5_ := f3_.symm; clear f1_ f2_ f3_; subst f4_; subst f5_))
          refine hK.out _ _ ⟨cz BK117 0 _, cz BK117 1 _, cz BK117 2 _, cz BK117 3 _, cz BK117 4 _, cz BK117 5 _⟩ (fun hHeld => ?_)
          clear hK K
          refine norm_ (a' := ?_) ?_ ?_
          rotate_left
          ·show Act.put _ (some 37) _ = _
           simp only [Act.put, List.setIfInBounds_toArray, List.set_cons_zero, List.set_cons_succ, i64_w, i32_w]
           rfl
          refine pureA 6 38 (bz 8 127) rfl rfl (any_of HT_.out (by kernel_rfl)) ?_
          refine last_ (i := 7) (N := none) (bz 8 255) rfl rfl (one_of HT_.out (by kernel_rfl)) (by decide) (fun K hK => ?_)
          have hs38 : w35.cell? ⟨gb117, 4, none⟩ = some (u118004) := (blk_cell BK117.out 4).trans rfl
          have hfs38 := blk_frozen BK117.out 4
          have hns38_0 := NB109_117.out
          have hns38_1 := NB116_117.out
          have hms38_0 := NB117_109.out
          have hms38_1 := NB117_116.out
          refine skip_ (w1 := ?_) (by rfl) rfl ?_ ?_
          rotate_left
          ·go_simp
           rfl
          refine hK.out _ _ ?_
          clear hK K
          refine done_ (done_of HT_.out (by kernel_rfl)) ?_
          try go_wp2
          go_roundg k1
          case measure => have := HK1.out; omega
          case rel => exact ⟨(wrap64 (x9_1 + 1)), (y121), (y127), (.slice Ao29 y121.length co29), (.slice Ao37 y127.length co37), tE, H', ⟨by have := HK1.out; omega⟩, ⟨by (with_reducible repeat (first | apply Kd.R_alloc | apply Kd.R_drewN | apply Kd.R_drew)); exact Kd.R_mono (Kd.R_far (p := ⟨gb117, 4, none⟩) (Kd.R_types HO_117002.out BK117.out (by decide)) (fun _ hk => hk.2) (.slice Ao37 y127.length co37)) (fun _ hk => trivial)⟩, ⟨by (with_reducible repeat (first | apply Kd.R_alloc | apply Kd.R_drewN | apply Kd.R_drew)); exact Kd.R_mono (Kd.R_far (p := ⟨gb117, 4, none⟩) (Kd.R_types HO_118002.out BK117.out (by decide)) (fun _ hk => hk.2) (.slice Ao37 y127.length co37)) (fun _ hk => trivial)⟩, ⟨by (with_reducible repeat (first | apply Kd.S_alloc | apply Kd.S_drewN | apply Kd.S_drew)); exact Kd.S_mono (Kd.S_far (p := ⟨gb117, 4, none⟩) (Kd.S_types HO123.out BK117.out (by decide)) (fun _ hk => hk.2) (.slice Ao37 y127.length co37)) (fun _ hk => trivial)⟩, ⟨by (with_reducible repeat (first | apply Kd.S_alloc | apply Kd.S_drewN | apply Kd.S_drew)); exact Kd.S_mono (Kd.S_far (p := ⟨gb117, 4, none⟩) (Kd.S_types HO129.out BK117.out (by decide)) (fun _ hk => hk.2) (.slice Ao37 y127.length co37)) (fun _ hk => trivial)⟩, ⟨by refine bU ?_; refine blk_far ?_ NB109_117.out _; refine bU ?_; exact BK109.out⟩, ⟨by refine bU ?_; refine blk_far ?_ NB116_117.out _; refine bU ?_; exact BK116.out⟩, ⟨by refine bU ?_; refine blk_put (cs := #[.int .i64 t110, .int .i64 t111, .slice Ao10 t112.length co10, .slice Ao29 y121.length co29, u118004, .slice none 0 0]) ?_ 4 _ rfl; refine bU ?_; exact BK117.out⟩, ⟨by repeat (first | (with_reducible first | exact HB.out | apply below_alloc | apply pw_below_drewN | apply below_drew1 | refine below_set ?_ GE109.out | refine below_set ?_ GE116.out | refine below_set ?_ GE117.out) | exact HB.out)⟩⟩
         ·rw [if_neg c23] at H
          exact absurd H (by simp)
        ·rw [if_neg c22] at H
         exact absurd H (by simp)
       ·rw [if_neg c21] at H
        exact absurd H (by simp)
      ·rw [if_neg c20] at H
       exact absurd H (by simp)
     ·rw [if_neg c19] at H
      exact absurd H (by simp)
    ·rw [if_neg c18] at H
     have c18b0 : decide (x9_1 < 60) = false := decide_eq_false c18
     clear c18
     simp only [Option.some.injEq, Prod.mk.injEq] at H
     obtain ⟨rfl, rfl, rfl, rfl, rfl, rfl, rfl⟩ := H
     have hnb39 := NB117_109.out
     have hnc39 := NB109_117.out
     have hnb40 := NB117_116.out
     have hnc40 := NB116_117.out
     have hcz41_0 := cz BK117 0 (.int .i64 t110)
     have hcz41_1 := cz BK117 1 (.int .i64 t111)
     have hcz41_2 := cz BK117 2 (.slice Ao10 t112.length co10)
     have hcz41_3 := cz BK117 3 (u118003)
     have hcz41_4 := cz BK117 4 (u118004)
     have hcz41_5 := cz BK117 5 (.slice none 0 0)
     have hfz41_0 := fz BK117 0
     have hfz41_1 := fz BK117 1
     have hfz41_2 := fz BK117 2
     have hfz41_3 := fz BK117 3
     have hfz41_4 := fz BK117 4
     have hfz41_5 := fz BK117 5
     have hnb42 := NB109_116.out
     have hnc42 := NB116_109.out
     have hcz43_0 := cz BK109 0 (.int .i64 0)
     have hcz43_1 := cz BK109 1 (.int .i64 0)
     have hcz43_2 := cz BK109 2 (.slice none 0 0)
     have hcz43_3 := cz BK109 3 (.slice none 0 0)
     have hcz43_4 := cz BK109 4 (.slice none 0 0)
     have hcz43_5 := cz BK109 5 (.slice none 0 0)
     have hfz43_0 := fz BK109 0
     have hfz43_1 := fz BK109 1
     have hfz43_2 := fz BK109 2
     have hfz43_3 := fz BK109 3
     have hfz43_4 := fz BK109 4
     have hfz43_5 := fz BK109 5
     obtain ⟨Ao44, co44, eo44⟩ := Kd.S_slice HO_118003.out
     subst eo44
     obtain ⟨Ao45, co45, eo45⟩ := Kd.S_slice HO_118004.out
     subst eo45
     go_wp2_with (first | ((with_reducible refine gate_store (t := 53) (p := 4) rfl ?_); refine store_event (t := 53) (p := 4) (v := ?vo_w46) (w1 := ((((((wr.setCell ⟨gb109, 0, none⟩ (.int .i64 t110)).setCell ⟨gb109, 1, none⟩ (.int .i64 t111)).setCell ⟨gb109, 2, none⟩ (.slice Ao10 t112.length co10)).setCell ⟨gb109, 3, none⟩ (.slice Ao44 x118003_1.length co44)).setCell ⟨gb109, 4, none⟩ (.slice Ao45 x118004_1.length co45)).setCell ⟨gb109, 5, none⟩ (.slice none 0 0))) ?hg ?ho ?hn ?hr ?_; (case ho => rfl); (case hg => rfl); (case hn => rfl); (case hr => first | (go_simp; done) | (go_simp; rfl) | (have hq0_ := (blk_cell BK109.out 0).trans (show _ = some _ from rfl); have hf0_ := blk_frozen BK109.out 0; have hq1_ := (blk_cell BK109.out 1).trans (show _ = some _ from rfl); have hf1_ := blk_frozen BK109.out 1; have hq2_ := (blk_cell BK109.out 2).trans (show _ = some _ from rfl); have hf2_ := blk_frozen BK109.out 2; have hq3_ := (blk_cell BK109.out 3).trans (show _ = some _ from rfl); have hf3_ := blk_frozen BK109.out 3; have hq4_ := (blk_cell BK109.out 4).trans (show _ = some _ from rfl); have hf4_ := blk_frozen BK109.out 4; have hq5_ := (blk_cell BK109.out 5).trans (show _ = some _ from rfl); have hf5_ := blk_frozen BK109.out 5; first | (go_simp; done) | (go_simp; rfl))); intro w46 hw; replace HO_117002 : Aside0 (Kd.R k110 110 w46 w.heap.size (fun _ => True) (.slice Ao10 t112.length co10) t112) := ⟨(by rw [hw]; exact (by (with_reducible repeat (first | apply Kd.R_alloc | apply Kd.R_drewN | apply Kd.R_drew)); exact Kd.R_mono (Kd.R_far (p := ⟨gb109, 5, none⟩) (Kd.R_far (p := ⟨gb109, 4, none⟩) (Kd.R_far (p := ⟨gb109, 3, none⟩) (Kd.R_far (p := ⟨gb109, 2, none⟩) (Kd.R_far (p := ⟨gb109, 1, none⟩) (Kd.R_far (p := ⟨gb109, 0, none⟩) (Kd.R_types HO_117002.out BK109.out (by decide)) (fun _ hk => hk.2) (.int .i64 t110)) (fun _ hk => hk.2) (.int .i64 t111)) (fun _ hk => hk.2) (.slice Ao10 t112.length co10)) (fun _ hk => hk.2) (.slice Ao44 x118003_1.length co44)) (fun _ hk => hk.2) (.slice Ao45 x118004_1.length co45)) (fun _ hk => hk.2) (.slice none 0 0)) (fun _ hk => trivial)))⟩; replace HO_118002 : Aside0 (Kd.R k110 110 w46 w.heap.size (fun _ => True) (.slice Ao10 t112.length co10) t112) := ⟨(by rw [hw]; exact (by (with_reducible repeat (first | apply Kd.R_alloc | apply Kd.R_drewN | apply Kd.R_drew)); exact Kd.R_mono (Kd.R_far (p := ⟨gb109, 5, none⟩) (Kd.R_far (p := ⟨gb109, 4, none⟩) (Kd.R_far (p := ⟨gb109, 3, none⟩) (Kd.R_far (p := ⟨gb109, 2, none⟩) (Kd.R_far (p := ⟨gb109, 1, none⟩) (Kd.R_far (p := ⟨gb109, 0, none⟩) (Kd.R_types HO_118002.out BK109.out (by decide)) (fun _ hk => hk.2) (.int .i64 t110)) (fun _ hk => hk.2) (.int .i64 t111)) (fun _ hk => hk.2) (.slice Ao10 t112.length co10)) (fun _ hk => hk.2) (.slice Ao44 x118003_1.length co44)) (fun _ hk => hk.2) (.slice Ao45 x118004_1.length co45)) (fun _ hk => hk.2) (.slice none 0 0)) (fun _ hk => trivial)))⟩; replace HO_118003 : Aside0 (Kd.S (Kd.slice 3 (Kd.int .i64)) 86 w46 w.heap.size (fun _ => True) (.slice Ao44 x118003_1.length co44) x118003_1) := ⟨(by rw [hw]; exact (by (with_reducible repeat (first | apply Kd.S_alloc | apply Kd.S_drewN | apply Kd.S_drew)); exact Kd.S_mono (Kd.S_far (p := ⟨gb109, 5, none⟩) (Kd.S_far (p := ⟨gb109, 4, none⟩) (Kd.S_far (p := ⟨gb109, 3, none⟩) (Kd.S_far (p := ⟨gb109, 2, none⟩) (Kd.S_far (p := ⟨gb109, 1, none⟩) (Kd.S_far (p := ⟨gb109, 0, none⟩) (Kd.S_types HO_118003.out BK109.out (by decide)) (fun _ hk => hk.2) (.int .i64 t110)) (fun _ hk => hk.2) (.int .i64 t111)) (fun _ hk => hk.2) (.slice Ao10 t112.length co10)) (fun _ hk => hk.2) (.slice Ao44 x118003_1.length co44)) (fun _ hk => hk.2) (.slice Ao45 x118004_1.length co45)) (fun _ hk => hk.2) (.slice none 0 0)) (fun _ hk => trivial)))⟩; replace HO_118004 : Aside0 (Kd.S (Kd.slice 4 Kd.bool) 87 w46 w.heap.size (fun _ => True) (.slice Ao45 x118004_1.length co45) x118004_1) := ⟨(by rw [hw]; exact (by (with_reducible repeat (first | apply Kd.S_alloc | apply Kd.S_drewN | apply Kd.S_drew)); exact Kd.S_mono (Kd.S_far (p := ⟨gb109, 5, none⟩) (Kd.S_far (p := ⟨gb109, 4, none⟩) (Kd.S_far (p := ⟨gb109, 3, none⟩) (Kd.S_far (p := ⟨gb109, 2, none⟩) (Kd.S_far (p := ⟨gb109, 1, none⟩) (Kd.S_far (p := ⟨gb109, 0, none⟩) (Kd.S_types HO_118004.out BK109.out (by decide)) (fun _ hk => hk.2) (.int .i64 t110)) (fun _ hk => hk.2) (.int .i64 t111)) (fun _ hk => hk.2) (.slice Ao10 t112.length co10)) (fun _ hk => hk.2) (.slice Ao44 x118003_1.length co44)) (fun _ hk => hk.2) (.slice Ao45 x118004_1.length co45)) (fun _ hk => hk.2) (.slice none 0 0)) (fun _ hk => trivial)))⟩; replace BK109 : Aside0 (w46.heap[gb109]? = some (.cells #[.int .i64 t110, .int .i64 t111, .slice Ao10 t112.length co10, .slice Ao44 x118003_1.length co44, .slice Ao45 x118004_1.length co45, .slice none 0 0] 53 (0, 0))) := ⟨(by rw [hw]; exact (by refine bU ?_; refine blk_put (cs := #[.int .i64 t110, .int .i64 t111, .slice Ao10 t112.length co10, .slice Ao44 x118003_1.length co44, .slice Ao45 x118004_1.length co45, .slice none 0 0]) ?_ 5 _ rfl; refine bU ?_; refine blk_put (cs := #[.int .i64 t110, .int .i64 t111, .slice Ao10 t112.length co10, .slice Ao44 x118003_1.length co44, .slice none 0 0, .slice none 0 0]) ?_ 4 _ rfl; refine bU ?_; refine blk_put (cs := #[.int .i64 t110, .int .i64 t111, .slice Ao10 t112.length co10, .slice none 0 0, .slice none 0 0, .slice none 0 0]) ?_ 3 _ rfl; refine bU ?_; refine blk_put (cs := #[.int .i64 t110, .int .i64 t111, .slice none 0 0, .slice none 0 0, .slice none 0 0, .slice none 0 0]) ?_ 2 _ rfl; refine bU ?_; refine blk_put (cs := #[.int .i64 t110, .int .i64 0, .slice none 0 0, .slice none 0 0, .slice none 0 0, .slice none 0 0]) ?_ 1 _ rfl; refine bU ?_; refine blk_put (cs := #[.int .i64 0, .int .i64 0, .slice none 0 0, .slice none 0 0, .slice none 0 0, .slice none 0 0]) ?_ 0 _ rfl; refine bU ?_; exact BK109.out))⟩; replace BK116 : Aside0 (w46.heap[gb116]? = some (.cells #[.int .i64 t110, .int .i64 t111, .slice Ao10 t112.length co10] 48 (0, 0))) := ⟨(by rw [hw]; exact (bG NB116_109 BK116))⟩; replace BK117 : Aside0 (w46.heap[gb117]? = some (.cells #[.int .i64 t110, .int .i64 t111, .slice Ao10 t112.length co10, .slice Ao44 x118003_1.length co44, .slice Ao45 x118004_1.length co45, .slice none 0 0] 53 (0, 0))) := ⟨(by rw [hw]; exact (bG NB117_109 BK117))⟩; replace HB : Aside0 (Below w.heap.size w w46) := ⟨(by rw [hw]; exact (lV3 GE109 GE116 GE117))⟩; clear hw))
     refine bodyPost_ret (results_ct rfl _ _ gb109 53 #[.int .i64 t110, .int .i64 t111, .slice Ao10 t112.length co10, .slice Ao44 x118003_1.length co44, .slice Ao45 x118004_1.length co45, .slice none 0 0] (0, 0) _ rfl (bV BK109) Try.underlying53 rfl (by kernel_rfl)) rfl ?_
     exact ⟨_, _, _, _, eE, by (with_reducible repeat (first | apply Kd.R_alloc | apply Kd.R_drewN | apply Kd.R_drew)); exact HO_118002.out, by (with_reducible repeat (first | apply Kd.S_alloc | apply Kd.S_drewN | apply Kd.S_drew)); exact HO_118003.out, by (with_reducible repeat (first | apply Kd.S_alloc | apply Kd.S_drewN | apply Kd.S_drew)); exact HO_118004.out, by first | exact Kd.S_nil _ _ _ _ _ | exact Kd.N_nil _ _ _ _ _ | exact Kd.V_nil _ _ _ _ _ | exact Kd.Q_nil _ _ _ _ _ | exact Kd.R_nil _ _ _ _ _, lV3 GE109 GE116 GE117⟩
 ·replace c4 := Bool.eq_false_iff.mpr c4
  subst c4
  have H1 : (some (0, 0, ([] : List (S110)), ([] : List (List Int)), ([] : List (List Bool)), ([] : List (S48)), false)) = some (r1, r2, r3, r4, r5, r6, r7) := by rw [if_neg (show ¬ (false = true) by decide)] at H; exact H
  clear H
  have H := H1
  clear H1
  simp only [Option.some.injEq, Prod.mk.injEq] at H
  obtain ⟨rfl, rfl, rfl, rfl, rfl, rfl, rfl⟩ := H
  go_enter Try.func23, Try.ntmps23
  go_wp2_with (first | ((with_reducible refine gate_dst (N := 4) rfl ?_); refine box_event rfl (N := 4) rfl (cs := #[.int .i64 0, .int .i64 0, .slice none 0 0, .slice none 0 0, .slice none 0 0, .slice none 0 0]) (t := 53) sE ?_; intro gb109 hg w47 hbox hb; have BK109 := Aside0.mk hbox; have GW109 := gS w hg (lU); have GE109 := gS w hg (lU); replace HB := bH (lU) hb; clear hb hbox hg) | ((with_reducible refine gate_callee (f := 52) rfl ?_); refine goesL_ (some 13) rfl rfl Try.func52 (by kernel_rfl) rfl #[.int .i64 a0, .int .i64 a1] rfl aE ?_; (with_reducible refine (spec_StartGame.calls k a0 a1 t110 t111 t112 false _ A3.out).mono ?_); rintro e w48 ⟨v113, rfl, ho0, hb⟩; refine ⟨_, rfl, ?_⟩; have HO114 := Aside0.mk (Kd.R_lower ho0 (below_size (lV1 GE109))); replace BK109 := bB (bV BK109) hb; replace HB := bH (lV1 GE109) hb; (try clear hb); (try clear ho0)) | ((with_reducible refine gate_dst (N := 6) rfl ?_); refine box_event rfl (N := 6) rfl (cs := #[.int .i64 0, .int .i64 0, .slice none 0 0]) (t := 48) sE ?_; intro gb116 hg w49 hbox hb; replace HO114 := Aside0.mk (Kd.R_below (rU HO114.out) hb); have BK116 := Aside0.mk hbox; have GW116 := gS w hg (lV1 GE109); have GE116 := gS w hg (lV1 GE109); replace HB := bH (lV1 GE109) hb; have NB109_116 := nL hg (bV BK109); have NB116_109 := nG hg (bV BK109); replace BK109 := bB (bV BK109) hb; clear hb hbox hg; have hnb50 := NB116_109.out; have hnc50 := NB109_116.out; have hcz51_0 := cz BK116 0 (.int .i64 0); have hcz51_1 := cz BK116 1 (.int .i64 0); have hcz51_2 := cz BK116 2 (.slice none 0 0); have hfz51_0 := fz BK116 0; have hfz51_1 := fz BK116 1; have hfz51_2 := fz BK116 2; obtain ⟨Ao52, co52, eo52⟩ := Kd.R_slice HO114.out; subst eo52) | ((with_reducible refine gate_store (t := 48) (p := 6) rfl ?_); refine store_event (t := 48) (p := 6) (v := ?vo_w53) (w1 := (((w49.setCell ⟨gb116, 0, none⟩ (.int .i64 t110)).setCell ⟨gb116, 1, none⟩ (.int .i64 t111)).setCell ⟨gb116, 2, none⟩ (.slice Ao52 t112.length co52))) ?hg ?ho ?hn ?hr ?_; (case ho => rfl); (case hg => rfl); (case hn => rfl); (case hr => first | (go_simp; done) | (go_simp; rfl) | (have hq0_ := (blk_cell BK116.out 0).trans (show _ = some _ from rfl); have hf0_ := blk_frozen BK116.out 0; have hq1_ := (blk_cell BK116.out 1).trans (show _ = some _ from rfl); have hf1_ := blk_frozen BK116.out 1; have hq2_ := (blk_cell BK116.out 2).trans (show _ = some _ from rfl); have hf2_ := blk_frozen BK116.out 2; first | (go_simp; done) | (go_simp; rfl))); intro w53 hw; replace HO114 : Aside0 (Kd.R k110 110 w53 w.heap.size (fun _ => True) (.slice Ao52 t112.length co52) t112) := ⟨(by rw [hw]; exact (by (with_reducible repeat (first | apply Kd.R_alloc | apply Kd.R_drewN | apply Kd.R_drew)); exact Kd.R_mono (Kd.R_far (p := ⟨gb116, 2, none⟩) (Kd.R_far (p := ⟨gb116, 1, none⟩) (Kd.R_far (p := ⟨gb116, 0, none⟩) (Kd.R_types HO114.out BK116.out (by decide)) (fun _ hk => hk.2) (.int .i64 t110)) (fun _ hk => hk.2) (.int .i64 t111)) (fun _ hk => hk.2) (.slice Ao52 t112.length co52)) (fun _ hk => trivial)))⟩; replace BK109 : Aside0 (w53.heap[gb109]? = some (.cells #[.int .i64 0, .int .i64 0, .slice none 0 0, .slice none 0 0, .slice none 0 0, .slice none 0 0] 53 (0, 0))) := ⟨(by rw [hw]; exact (bG NB109_116 BK109))⟩; replace BK116 : Aside0 (w53.heap[gb116]? = some (.cells #[.int .i64 t110, .int .i64 t111, .slice Ao52 t112.length co52] 48 (0, 0))) := ⟨(by rw [hw]; exact (by refine bU ?_; refine blk_put (cs := #[.int .i64 t110, .int .i64 t111, .slice none 0 0]) ?_ 2 _ rfl; refine bU ?_; refine blk_put (cs := #[.int .i64 t110, .int .i64 0, .slice none 0 0]) ?_ 1 _ rfl; refine bU ?_; refine blk_put (cs := #[.int .i64 0, .int .i64 0, .slice none 0 0]) ?_ 0 _ rfl; refine bU ?_; exact BK116.out))⟩; replace HB : Aside0 (Below w.heap.size w w53) := ⟨(by rw [hw]; exact (lV2 GE109 GE116))⟩; clear hw; have hcz54_0 := cz BK109 0 (.int .i64 0); have hcz54_1 := cz BK109 1 (.int .i64 0); have hcz54_2 := cz BK109 2 (.slice none 0 0); have hcz54_3 := cz BK109 3 (.slice none 0 0); have hcz54_4 := cz BK109 4 (.slice none 0 0); have hcz54_5 := cz BK109 5 (.slice none 0 0); have hfz54_0 := fz BK109 0; have hfz54_1 := fz BK109 1; have hfz54_2 := fz BK109 2; have hfz54_3 := fz BK109 3; have hfz54_4 := fz BK109 4; have hfz54_5 := fz BK109 5) | ((with_reducible refine gate_store (t := 53) (p := 4) rfl ?_); refine store_event (t := 53) (p := 4) (v := ?vo_w55) (w1 := ((((((w53.setCell ⟨gb109, 0, none⟩ (.int .i64 0)).setCell ⟨gb109, 1, none⟩ (.int .i64 0)).setCell ⟨gb109, 2, none⟩ (.slice none 0 0)).setCell ⟨gb109, 3, none⟩ (.slice none 0 0)).setCell ⟨gb109, 4, none⟩ (.slice none 0 0)).setCell ⟨gb109, 5, none⟩ (.slice none 0 0))) ?hg ?ho ?hn ?hr ?_; (case ho => rfl); (case hg => rfl); (case hn => rfl); (case hr => first | (go_simp; done) | (go_simp; rfl) | (have hq0_ := (blk_cell BK109.out 0).trans (show _ = some _ from rfl); have hf0_ := blk_frozen BK109.out 0; have hq1_ := (blk_cell BK109.out 1).trans (show _ = some _ from rfl); have hf1_ := blk_frozen BK109.out 1; have hq2_ := (blk_cell BK109.out 2).trans (show _ = some _ from rfl); have hf2_ := blk_frozen BK109.out 2; have hq3_ := (blk_cell BK109.out 3).trans (show _ = some _ from rfl); have hf3_ := blk_frozen BK109.out 3; have hq4_ := (blk_cell BK109.out 4).trans (show _ = some _ from rfl); have hf4_ := blk_frozen BK109.out 4; have hq5_ := (blk_cell BK109.out 5).trans (show _ = some _ from rfl); have hf5_ := blk_frozen BK109.out 5; first | (go_simp; done) | (go_simp; rfl))); intro w55 hw; replace HO114 : Aside0 (Kd.R k110 110 w55 w.heap.size (fun _ => True) (.slice Ao52 t112.length co52) t112) := ⟨(by rw [hw]; exact (by (with_reducible repeat (first | apply Kd.R_alloc | apply Kd.R_drewN | apply Kd.R_drew)); exact Kd.R_mono (Kd.R_far (p := ⟨gb109, 5, none⟩) (Kd.R_far (p := ⟨gb109, 4, none⟩) (Kd.R_far (p := ⟨gb109, 3, none⟩) (Kd.R_far (p := ⟨gb109, 2, none⟩) (Kd.R_far (p := ⟨gb109, 1, none⟩) (Kd.R_far (p := ⟨gb109, 0, none⟩) (Kd.R_types HO114.out BK109.out (by decide)) (fun _ hk => hk.2) (.int .i64 0)) (fun _ hk => hk.2) (.int .i64 0)) (fun _ hk => hk.2) (.slice none 0 0)) (fun _ hk => hk.2) (.slice none 0 0)) (fun _ hk => hk.2) (.slice none 0 0)) (fun _ hk => hk.2) (.slice none 0 0)) (fun _ hk => trivial)))⟩; replace BK109 : Aside0 (w55.heap[gb109]? = some (.cells #[.int .i64 0, .int .i64 0, .slice none 0 0, .slice none 0 0, .slice none 0 0, .slice none 0 0] 53 (0, 0))) := ⟨(by rw [hw]; exact (by refine bU ?_; refine blk_put (cs := #[.int .i64 0, .int .i64 0, .slice none 0 0, .slice none 0 0, .slice none 0 0, .slice none 0 0]) ?_ 5 _ rfl; refine bU ?_; refine blk_put (cs := #[.int .i64 0, .int .i64 0, .slice none 0 0, .slice none 0 0, .slice none 0 0, .slice none 0 0]) ?_ 4 _ rfl; refine bU ?_; refine blk_put (cs := #[.int .i64 0, .int .i64 0, .slice none 0 0, .slice none 0 0, .slice none 0 0, .slice none 0 0]) ?_ 3 _ rfl; refine bU ?_; refine blk_put (cs := #[.int .i64 0, .int .i64 0, .slice none 0 0, .slice none 0 0, .slice none 0 0, .slice none 0 0]) ?_ 2 _ rfl; refine bU ?_; refine blk_put (cs := #[.int .i64 0, .int .i64 0, .slice none 0 0, .slice none 0 0, .slice none 0 0, .slice none 0 0]) ?_ 1 _ rfl; refine bU ?_; refine blk_put (cs := #[.int .i64 0, .int .i64 0, .slice none 0 0, .slice none 0 0, .slice none 0 0, .slice none 0 0]) ?_ 0 _ rfl; refine bU ?_; exact BK109.out))⟩; replace BK116 : Aside0 (w55.heap[gb116]? = some (.cells #[.int .i64 t110, .int .i64 t111, .slice Ao52 t112.length co52] 48 (0, 0))) := ⟨(by rw [hw]; exact (bG NB116_109 BK116))⟩; replace HB : Aside0 (Below w.heap.size w w55) := ⟨(by rw [hw]; exact (lV2 GE109 GE116))⟩; clear hw))
  refine bodyPost_ret (results_ct rfl _ _ gb109 53 #[.int .i64 0, .int .i64 0, .slice none 0 0, .slice none 0 0, .slice none 0 0, .slice none 0 0] (0, 0) _ rfl (bV BK109) Try.underlying53 rfl (by kernel_rfl)) rfl ?_
  exact ⟨_, _, _, _, eE, by first | exact Kd.R_nil _ _ _ _ _ | exact Kd.N_nil _ _ _ _ _ | exact Kd.V_nil _ _ _ _ _ | exact Kd.Q_nil _ _ _ _ _ | exact Kd.S_nil _ _ _ _ _, by first | exact Kd.S_nil _ _ _ _ _ | exact Kd.N_nil _ _ _ _ _ | exact Kd.V_nil _ _ _ _ _ | exact Kd.Q_nil _ _ _ _ _ | exact Kd.R_nil _ _ _ _ _, by first | exact Kd.S_nil _ _ _ _ _ | exact Kd.N_nil _ _ _ _ _ | exact Kd.V_nil _ _ _ _ _ | exact Kd.Q_nil _ _ _ _ _ | exact Kd.R_nil _ _ _ _ _, by first | exact Kd.S_nil _ _ _ _ _ | exact Kd.N_nil _ _ _ _ _ | exact Kd.V_nil _ _ _ _ _ | exact Kd.Q_nil _ _ _ _ _ | exact Kd.R_nil _ _ _ _ _, lV2 GE109 GE116⟩
end Go.Proofs.Ytifejplilaefiaa.PFnExactNewPeer
namespace Go.Proofs.Ytifejplilaefiaa.PFnExactNewPeer
open Go.RowKit Go.Proofs.YtifejplilaefiaaW.PrintWords Go.Proofs.YtifejplilaefiaaW.PrintLast Go.Proofs.YtifejplilaefiaaW.PrintMore
attribute [local go_sem] max2_int min2_int max_two min_two max_three min_three max_four min_four   -- for this text's walks alone
set_option linter.unusedVariables false
set_option linter.unusedSimpArgs false
def impl_inRange.f (a0 : Int) (a1 : Int) (a2 : Int) : Option (Bool) := if a1 ≤ a0 then (some (decide (a0 ≤ a2))) else (some false)
set_option maxHeartbeats 8000000 in
set_option maxRecDepth 100000 in
theorem impl_inRange.calls (a0 : Int) (a1 : Int) (a2 : Int) (r : Bool) (w : World) (h : impl_inRange.f a0 a1 a2 = some r) :
  Calls Try.prog 47 #[.int .i64 a0, .int .i64 a1, .int .i64 a2] w fun e w' => e = .returned (.bool r) ∧ Drawn0 w w' := by
 have H : (if a1 ≤ a0 then (some (decide (a0 ≤ a2))) else (some false)) = some r := h
 clear h
 by_cases c4 : a1 ≤ a0
 ·rw [if_pos c4] at H
  have c4b0 : decide (a1 ≤ a0) = true := decide_eq_true c4
  clear c4
  obtain rfl := Option.some.inj H
  go_enter Try.func47, Try.ntmps47
  go_wp2
  go_ret
  exact ⟨by first | rfl | (simp; done) | (simp [*]; done) | exact not_isEmpty _ | exact (not_isEmpty _).symm | exact is_empty _ | exact (is_empty _).symm, by repeat (first | exact Drawn0.refl _ | apply Drawn0.step)⟩
 ·rw [if_neg c4] at H
  have c4b0 : decide (a1 ≤ a0) = false := decide_eq_false c4
  clear c4
  obtain rfl := Option.some.inj H
  go_enter Try.func47, Try.ntmps47
  go_wp2
  go_ret
  exact ⟨by first | rfl | (simp; done) | (simp [*]; done) | exact not_isEmpty _ | exact (not_isEmpty _).symm | exact is_empty _ | exact (is_empty _).symm, by repeat (first | exact Drawn0.refl _ | apply Drawn0.step)⟩
def impl_isSeed.f (a0 : Int) : Option (Bool) := (impl_inRange.f a0 0 2147483647).bind fun t130 => (some t130)
set_option maxHeartbeats 8000000 in
set_option maxRecDepth 100000 in
theorem impl_isSeed.calls (a0 : Int) (r : Bool) (w : World) (h : impl_isSeed.f a0 = some r) :
  Calls Try.prog 87 #[.int .i64 a0] w fun e w' => e = .returned (.bool r) ∧ Drawn0 w w' := by
 have H : ((impl_inRange.f a0 0 2147483647).bind fun t130 => (some t130)) = some r := h
 clear h
 replace H := Option.bind_eq_some_iff.mp H
 obtain ⟨t130, A20, H⟩ := H
 replace H : (some t130) = some r := H
 have A2 := Aside0.mk A20
 clear A20
 obtain rfl := Option.some.inj H
 go_enter Try.func87, Try.ntmps87
 go_wp2_with (first | ((with_reducible refine gate_callee (f := 47) rfl ?_); refine goesL_ (some 4) rfl rfl Try.func47 (by kernel_rfl) rfl #[.int .i64 a0, .int .i64 0, .int .i64 2147483647] rfl aE ?_; (with_reducible refine (impl_inRange.calls a0 0 2147483647 t130 _ A2.out).mono ?_); rintro e w' ⟨rfl, ⟨nd, rfl⟩⟩; refine ⟨_, rfl, ?_⟩))
 go_ret
 exact ⟨by first | rfl | (simp; done) | (simp [*]; done) | exact not_isEmpty _ | exact (not_isEmpty _).symm | exact is_empty _ | exact (is_empty _).symm, by repeat (first | exact Drawn0.refl _ | apply Drawn0.step)⟩
mutual
def impl_StartGame.j0 : Nat → Int → Int → Bool → Option (Int × Int × (List (S110)) × Bool)
 | 0, _, _, _ => none
 | k + 1, x0, x1, x15 => if x15 = true then (some (0, 0, ([] : List (S110)), false)) else (impl_StartGame.l0 k x0 0 0 x1 ([] : List (S110)))
def impl_StartGame.l0 : Nat → Int → Int → Int → Int → List (S110) → Option (Int × Int × (List (S110)) × Bool)
 | 0, _, _, _, _, _ => none
 | k + 1, x19, x20, x135000, x135001, x135002 => if x20 < x19 then (if x135002.length < 5864062014805 then (impl_StartGame.l0 k x19 (wrap64 (x20 + 1)) x135000 x135001 (x135002 ++ [(⟨wrap64 (8 * x20), wrap64 (8 * x20), 9⟩ : S110)])) else (none)) else (some (x135000, x135001, x135002, true))
end
def impl_StartGame.f (k : Nat) (a0 : Int) (a1 : Int) : Option (Int × Int × (List (S110)) × Bool) := (impl_inRange.f a0 1 4).bind fun t132 => (if t132 = true then ((impl_isSeed.f a1).bind fun t133 => (impl_StartGame.j0 k a0 a1 (!t133))) else (impl_StartGame.j0 k a0 a1 true))
theorem impl_StartGame.mono_l : ∀ k, (∀ y0 y1 y2, LeO (impl_StartGame.j0 k y0 y1 y2) (impl_StartGame.j0 (k + 1) y0 y1 y2)) ∧ (∀ y0 y1 y2 y3 y4, LeO (impl_StartGame.l0 k y0 y1 y2 y3 y4) (impl_StartGame.l0 (k + 1) y0 y1 y2 y3 y4))
 | 0 => ⟨fun _ _ _ r h => by simp [impl_StartGame.j0] at h, fun _ _ _ _ _ r h => by simp [impl_StartGame.l0] at h⟩
 | k + 1 => by
  obtain ⟨ih0, ih1⟩ := impl_StartGame.mono_l k
  refine ⟨?_, ?_⟩
  ·intro y0 y1 y2
   unfold impl_StartGame.j0
   repeat' first
   | (with_reducible exact ih0 _ _ _)
   | (with_reducible exact ih1 _ _ _ _ _)
   | (with_reducible exact LeO.refl _)
   | (with_reducible exact LeO.none _)
   | (with_reducible refine LeO.ite ?_ ?_)
   | (with_reducible refine LeO.bind ?_ (fun _ => ?_))
   | exact ih0 _ _ _
   | exact ih1 _ _ _ _ _
   | exact LeO.none _
   | refine LeO.ite ?_ ?_
   | refine LeO.bind ?_ (fun _ => ?_)
  ·intro y0 y1 y2 y3 y4
   unfold impl_StartGame.l0
   repeat' first
   | (with_reducible exact ih0 _ _ _)
   | (with_reducible exact ih1 _ _ _ _ _)
   | (with_reducible exact LeO.refl _)
   | (with_reducible exact LeO.none _)
   | (with_reducible refine LeO.ite ?_ ?_)
   | (with_reducible refine LeO.bind ?_ (fun _ => ?_))
   | exact ih0 _ _ _
   | exact ih1 _ _ _ _ _
   | exact LeO.none _
   | refine LeO.ite ?_ ?_
   | refine LeO.bind ?_ (fun _ => ?_)
theorem impl_StartGame.mono : ∀ a0 a1 k, LeO (impl_StartGame.f k a0 a1) (impl_StartGame.f (k + 1) a0 a1) := by
 intro a0 a1 k
 obtain ⟨ih0, ih1⟩ := impl_StartGame.mono_l k
 unfold impl_StartGame.f
 repeat' first
   | (with_reducible exact ih0 _ _ _)
   | (with_reducible exact ih1 _ _ _ _ _)
   | (with_reducible exact LeO.refl _)
   | (with_reducible exact LeO.none _)
   | (with_reducible refine LeO.ite ?_ ?_)
   | (with_reducible refine LeO.bind ?_ (fun _ => ?_))
   | exact ih0 _ _ _
   | exact ih1 _ _ _ _ _
   | exact LeO.none _
   | refine LeO.ite ?_ ?_
   | refine LeO.bind ?_ (fun _ => ?_)
set_option maxHeartbeats 8000000 in
set_option maxRecDepth 100000 in
theorem impl_StartGame.calls (k : Nat) (a0 : Int) (a1 : Int) (r1 : Int) (r2 : Int) (r3 : List (S110)) (r4 : Bool) (w : World) (h : impl_StartGame.f k a0 a1 = some (r1, r2, r3, r4)) :
  Calls Try.prog 53 #[.int .i64 a0, .int .i64 a1] w fun e w' => ∃ v2_ : Value, e = .returned (.tuple #[.agg #[.int .i64 r1, .int .i64 r2, v2_], .bool r4]) ∧ Kd.R k110 110 w' w.heap.size (fun _ => True) v2_ r3 ∧ Below w.heap.size w w' := by
 have hu48 := Try.underlying48
 have hu110 := Try.underlying110
 have HB := Aside0.mk (Below.refl w.heap.size w)
 have H : ((impl_inRange.f a0 1 4).bind fun t132 => (if t132 = true then ((impl_isSeed.f a1).bind fun t133 => (impl_StartGame.j0 k a0 a1 (!t133))) else (impl_StartGame.j0 k a0 a1 true))) = some (r1, r2, r3, r4) := h
 clear h
 have HC3 := Aside0.mk H
 clear H
 go_enter Try.func53, Try.ntmps53
 go_upto_region 1 with (first | ((with_reducible refine gate_dst (N := 4) rfl ?_); refine box_event rfl (N := 4) rfl (cs := #[.int .i64 0, .int .i64 0, .slice none 0 0]) (t := 48) sE ?_; intro gb131 hg w4 hbox hb; have BK131 := Aside0.mk hbox; have GW131 := gS w hg (lU); have GE131 := gS w hg (lU); replace HB := bH (lU) hb; clear hb hbox hg))
 (try simp only [Act.put, List.setIfInBounds_toArray, List.set_cons_zero, List.set_cons_succ])
 go_cut [15] (fun v15 wc => ∃ (kq : Nat) (x15_2 : Bool), v15 = .bool x15_2 ∧ Aside0 (impl_StartGame.j0 kq a0 a1 x15_2 = some (r1, r2, r3, r4)) ∧ Aside0 (kq ≤ k) ∧ Aside0 (wc.heap[gb131]? = some (.cells #[.int .i64 0, .int .i64 0, (.slice none 0 0)] 48 (0, 0))) ∧ Aside0 (Below w.heap.size w wc))
 case first =>
  have H := HC3.out
  clear HC3
  replace H := Option.bind_eq_some_iff.mp H
  obtain ⟨t132, A50, H⟩ := H
  replace H : (if t132 = true then ((impl_isSeed.f a1).bind fun t133 => (impl_StartGame.j0 k a0 a1 (!t133))) else (impl_StartGame.j0 k a0 a1 true)) = some (r1, r2, r3, r4) := H
  have A5 := Aside0.mk A50
  clear A50
  by_cases c6 : t132 = true
  ·subst c6
   have H1 : ((impl_isSeed.f a1).bind fun t133 => (impl_StartGame.j0 k a0 a1 (!t133))) = some (r1, r2, r3, r4) := by rw [if_pos rfl] at H; exact H
   clear H
   have H := H1
   clear H1
   replace H := Option.bind_eq_some_iff.mp H
   obtain ⟨t133, A70, H⟩ := H
   replace H : (impl_StartGame.j0 k a0 a1 (!t133)) = some (r1, r2, r3, r4) := H
   have A7 := Aside0.mk A70
   clear A70
   have H' := Aside0.mk H
   clear H
   go_wp2_with (first | ((with_reducible refine gate_callee (f := 47) rfl ?_); refine goesL_ (some 9) rfl rfl Try.func47 (by kernel_rfl) rfl #[.int .i64 a0, .int .i64 1, .int .i64 4] rfl aE ?_; (with_reducible refine (impl_inRange.calls a0 1 4 true _ A5.out).mono ?_); rintro e w' ⟨rfl, ⟨nd, rfl⟩⟩; refine ⟨_, rfl, ?_⟩) | (go_at_call 87; (with_reducible refine (impl_isSeed.calls a1 t133 _ A7.out).mono ?_); rintro e w' ⟨rfl, ⟨nd, rfl⟩⟩))
   go_meet
   case rel => exact ⟨_, (!t133), tE, H', ⟨by first | omega | exact Nat.le_refl _⟩, ⟨by refine bU ?_; exact BK131.out⟩, ⟨by repeat (first | (with_reducible first | exact HB.out | apply below_alloc | apply pw_below_drewN | apply below_drew1 | refine below_set ?_ GE131.out) | exact HB.out)⟩⟩
  ·replace c6 := Bool.eq_false_iff.mpr c6
   subst c6
   have H1 : (impl_StartGame.j0 k a0 a1 true) = some (r1, r2, r3, r4) := by rw [if_neg (show ¬ (false = true) by decide)] at H; exact H
   clear H
   have H := H1
   clear H1
   have H' := Aside0.mk H
   clear H
   go_wp2_with (first | ((with_reducible refine gate_callee (f := 47) rfl ?_); refine goesL_ (some 9) rfl rfl Try.func47 (by kernel_rfl) rfl #[.int .i64 a0, .int .i64 1, .int .i64 4] rfl aE ?_; (with_reducible refine (impl_inRange.calls a0 1 4 false _ A5.out).mono ?_); rintro e w' ⟨rfl, ⟨nd, rfl⟩⟩; refine ⟨_, rfl, ?_⟩))
   go_meet
   case rel => exact ⟨_, (true), tE, H', ⟨by first | omega | exact Nat.le_refl _⟩, ⟨by refine bU ?_; exact BK131.out⟩, ⟨by repeat (first | (with_reducible first | exact HB.out | apply below_alloc | apply pw_below_drewN | apply below_drew1 | refine below_set ?_ GE131.out) | exact HB.out)⟩⟩
 case rest =>
  clear HC3
  try clear p2
  try clear c4
  try clear c5
  try clear c6
  obtain ⟨kq, x15_2, rfl, HA, HJ2, BK131, HB⟩ := hcut
  cases kq with
  | zero => exact absurd HA.out (by simp [impl_StartGame.j0])
  | succ kj2 =>
   have H := HA.out
   clear HA
   simp only [impl_StartGame.j0] at H
   by_cases c8 : x15_2 = true
   ·subst c8
    have H1 : (some (0, 0, ([] : List (S110)), false)) = some (r1, r2, r3, r4) := by rw [if_pos rfl] at H; exact H
    clear H
    have H := H1
    clear H1
    simp only [Option.some.injEq, Prod.mk.injEq] at H
    obtain ⟨rfl, rfl, rfl, rfl⟩ := H
    have hcz9_0 := cz BK131 0 (.int .i64 0)
    have hcz9_1 := cz BK131 1 (.int .i64 0)
    have hcz9_2 := cz BK131 2 (.slice none 0 0)
    have hfz9_0 := fz BK131 0
    have hfz9_1 := fz BK131 1
    have hfz9_2 := fz BK131 2
    go_wp2_with (first | ((with_reducible refine gate_store (t := 48) (p := 4) rfl ?_); refine store_event (t := 48) (p := 4) (v := ?vo_w10) (w1 := (((wc.setCell ⟨gb131, 0, none⟩ (.int .i64 0)).setCell ⟨gb131, 1, none⟩ (.int .i64 0)).setCell ⟨gb131, 2, none⟩ (.slice none 0 0))) ?hg ?ho ?hn ?hr ?_; (case ho => rfl); (case hg => rfl); (case hn => rfl); (case hr => first | (go_simp; done) | (go_simp; rfl) | (have hq0_ := (blk_cell BK131.out 0).trans (show _ = some _ from rfl); have hf0_ := blk_frozen BK131.out 0; have hq1_ := (blk_cell BK131.out 1).trans (show _ = some _ from rfl); have hf1_ := blk_frozen BK131.out 1; have hq2_ := (blk_cell BK131.out 2).trans (show _ = some _ from rfl); have hf2_ := blk_frozen BK131.out 2; first | (go_simp; done) | (go_simp; rfl))); intro w10 hw; replace BK131 : Aside0 (w10.heap[gb131]? = some (.cells #[.int .i64 0, .int .i64 0, .slice none 0 0] 48 (0, 0))) := ⟨(by rw [hw]; exact (by refine bU ?_; refine blk_put (cs := #[.int .i64 0, .int .i64 0, .slice none 0 0]) ?_ 2 _ rfl; refine bU ?_; refine blk_put (cs := #[.int .i64 0, .int .i64 0, .slice none 0 0]) ?_ 1 _ rfl; refine bU ?_; refine blk_put (cs := #[.int .i64 0, .int .i64 0, .slice none 0 0]) ?_ 0 _ rfl; refine bU ?_; exact BK131.out))⟩; replace HB : Aside0 (Below w.heap.size w w10) := ⟨(by rw [hw]; exact (lV1 GE131))⟩; clear hw))
    refine bodyPost_ret (results_ct rfl _ _ gb131 48 #[.int .i64 0, .int .i64 0, .slice none 0 0] (0, 0) _ rfl (bV BK131) Try.underlying48 rfl (by kernel_rfl)) rfl ?_
    exact ⟨_, eE, by first | exact Kd.R_nil _ _ _ _ _ | exact Kd.N_nil _ _ _ _ _ | exact Kd.V_nil _ _ _ _ _ | exact Kd.Q_nil _ _ _ _ _ | exact Kd.S_nil _ _ _ _ _, lV1 GE131⟩
   ·replace c8 := Bool.eq_false_iff.mpr c8
    subst c8
    have H1 : (impl_StartGame.l0 kj2 a0 0 0 a1 ([] : List (S110))) = some (r1, r2, r3, r4) := by rw [if_neg (show ¬ (false = true) by decide)] at H; exact H
    clear H
    have H := H1
    clear H1
    have H' := Aside0.mk H
    clear H
    go_wp2_with (first | ((with_reducible refine gate_dst (N := 6) rfl ?_); refine box_event rfl (N := 6) rfl (cs := #[.int .i64 0, .int .i64 0, .slice none 0 0]) (t := 48) sE ?_; intro gb134 hg w11 hbox hb; have BK134 := Aside0.mk hbox; have GW134 := gS w hg (lV1 GE131); have GE134 := gS w hg (lV1 GE131); replace HB := bH (lV1 GE131) hb; have NB131_134 := nL hg (bV BK131); have NB134_131 := nG hg (bV BK131); replace BK131 := bB (bV BK131) hb; clear hb hbox hg; have hnb12 := NB134_131.out; have hnc12 := NB131_134.out; have hcz13_0 := cz BK134 0 (.int .i64 0); have hcz13_1 := cz BK134 1 (.int .i64 0); have hcz13_2 := cz BK134 2 (.slice none 0 0); have hfz13_0 := fz BK134 0; have hfz13_1 := fz BK134 1; have hfz13_2 := fz BK134 2) | ((with_reducible refine gate_store (t := 48) (p := 6) rfl ?_); refine store_event (t := 48) (p := 6) (v := ?vo_w14) (w1 := (((w11.setCell ⟨gb134, 0, none⟩ (.int .i64 0)).setCell ⟨gb134, 1, none⟩ (.int .i64 a1)).setCell ⟨gb134, 2, none⟩ (.slice none 0 0))) ?hg ?ho ?hn ?hr ?_; (case ho => rfl); (case hg => rfl); (case hn => rfl); (case hr => first | (go_simp; done) | (go_simp; rfl) | (have hq0_ := (blk_cell BK134.out 0).trans (show _ = some _ from rfl); have hf0_ := blk_frozen BK134.out 0; have hq1_ := (blk_cell BK134.out 1).trans (show _ = some _ from rfl); have hf1_ := blk_frozen BK134.out 1; have hq2_ := (blk_cell BK134.out 2).trans (show _ = some _ from rfl); have hf2_ := blk_frozen BK134.out 2; first | (go_simp; done) | (go_simp; rfl))); intro w14 hw; replace BK131 : Aside0 (w14.heap[gb131]? = some (.cells #[.int .i64 0, .int .i64 0, .slice none 0 0] 48 (0, 0))) := ⟨(by rw [hw]; exact (bG NB131_134 BK131))⟩; replace BK134 : Aside0 (w14.heap[gb134]? = some (.cells #[.int .i64 0, .int .i64 a1, .slice none 0 0] 48 (0, 0))) := ⟨(by rw [hw]; exact (by refine bU ?_; refine blk_put (cs := #[.int .i64 0, .int .i64 a1, .slice none 0 0]) ?_ 2 _ rfl; refine bU ?_; refine blk_put (cs := #[.int .i64 0, .int .i64 0, .slice none 0 0]) ?_ 1 _ rfl; refine bU ?_; refine blk_put (cs := #[.int .i64 0, .int .i64 0, .slice none 0 0]) ?_ 0 _ rfl; refine bU ?_; exact BK134.out))⟩; replace HB : Aside0 (Below w.heap.size w w14) := ⟨(by rw [hw]; exact (lV2 GE131 GE134))⟩; clear hw))
    (try simp only [Act.put, List.setIfInBounds_toArray, List.set_cons_zero, List.set_cons_succ])
    go_loopg [20] kj2 (fun kq v20 w' => ∃ (x20_2 : Int) (x135002_2 : List (S110)) (u135002 : Value), v20 = .int .i64 x20_2 ∧ Aside0 (impl_StartGame.l0 kq a0 x20_2 0 a1 x135002_2 = some (r1, r2, r3, r4)) ∧ Aside0 (kq ≤ kj2) ∧ Aside0 (Kd.R k110 110 w' w.heap.size (fun _ => True) u135002 x135002_2) ∧ Aside0 (w'.heap[gb131]? = some (.cells #[.int .i64 0, .int .i64 0, (.slice none 0 0)] 48 (0, 0))) ∧ Aside0 (w'.heap[gb134]? = some (.cells #[.int .i64 0, .int .i64 a1, u135002] 48 (0, 0))) ∧ Aside0 (Below w.heap.size w w'))
    case atStart => exact ⟨(0), (([] : List (S110))), (.slice none 0 0), tE, H', ⟨Nat.le_refl _⟩, ⟨by first | exact Kd.R_nil _ _ _ _ _ | exact Kd.N_nil _ _ _ _ _ | exact Kd.V_nil _ _ _ _ _ | exact Kd.Q_nil _ _ _ _ _ | exact Kd.S_nil _ _ _ _ _⟩, ⟨by refine bU ?_; exact BK131.out⟩, ⟨by refine bU ?_; exact BK134.out⟩, ⟨by repeat (first | (with_reducible first | exact HB.out | apply below_alloc | apply pw_below_drewN | apply below_drew1 | refine below_set ?_ GE131.out | refine below_set ?_ GE134.out) | exact HB.out)⟩⟩
    case round =>
     clear H'
     try clear c1
     try clear q1
     try clear p2
     try clear q2
     try clear hf2
     try clear c4
     try clear c5
     try clear c6
     try clear c8
     try clear c12
     try clear hcz13_0
     try clear hcz13_1
     try clear hcz13_2
     try clear hcz9_0
     try clear hcz9_1
     try clear hcz9_2
     try clear hfz13_0
     try clear hfz13_1
     try clear hfz13_2
     try clear hfz9_0
     try clear hfz9_1
     try clear hfz9_2
     try clear p2
     obtain ⟨x20_2, x135002_2, u135002, rfl, HA, HK2, HO_135002, BK131, BK134, HB⟩ := hrel
     cases gk with
     | zero => exact absurd HA.out (by simp [impl_StartGame.l0])
     | succ k2 =>
      have H := HA.out
      clear HA
      simp only [impl_StartGame.l0] at H
      by_cases c15 : x20_2 < a0
      ·rw [if_pos c15] at H
       have c15b0 : decide (x20_2 < a0) = true := decide_eq_true c15
       clear c15
       by_cases c16 : x135002_2.length < 5864062014805
       ·rw [if_pos c16] at H
        have LMc16 := Aside0.mk c16
        clear c16
        obtain ⟨y135, hy135⟩ : ∃ y_ : List (S110), y_ = (x135002_2 ++ [(⟨wrap64 (8 * x20_2), wrap64 (8 * x20_2), 9⟩ : S110)]) := ⟨_, rfl⟩
        replace H : (impl_StartGame.l0 k2 a0 (wrap64 (x20_2 + 1)) 0 a1 y135) = some (r1, r2, r3, r4) := by first | (rw [hy135]; with_reducible exact H) | (have H2_ := (Option.bind_some _ _).symm.trans H; rw [hy135]; with_reducible exact H2_) | (have H2_ := (Option.bind_some _ _).symm.trans H; with_reducible exact H2_) | with_reducible exact H | (rw [hy135]; exact H) | exact H
        have Ny135 := Aside0.mk hy135
        clear hy135
        have H' := Aside0.mk H
        clear H
        have hnb17 := NB134_131.out
        have hnc17 := NB131_134.out
        have hcz18_0 := cz BK134 0 (.int .i64 0)
        have hcz18_1 := cz BK134 1 (.int .i64 a1)
        have hcz18_2 := cz BK134 2 (u135002)
        have hfz18_0 := fz BK134 0
        have hfz18_1 := fz BK134 1
        have hfz18_2 := fz BK134 2
        go_wp2_with (first | ((with_reducible refine gate_builtin (b := .append) (xs := #[.tmp 24, .tmp 30]) rfl ?_); at_builtin; refine Kd.R_append k110 (w0 := w) w.heap.size rfl (.tmp 24) (.tmp 30) 46 110 (.agg #[(.int .i64 0), (.int .i64 0), (.int .i64 0)]) 24 rfl Try.underlying46 info110 rfl (by decide) (by omega) u135002 x135002_2 (⟨wrap64 (8 * x20_2), wrap64 (8 * x20_2), 9⟩ : S110) [.int .i64 (wrap64 (8 * x20_2)), .int .i64 (wrap64 (8 * x20_2)), .int .i64 9] (fun _ => True) (fun _ => False) rfl rfl ?aP (fun _ hk => hk.elim) ?aF ?aO ?aB ?aS ?aL ?_; (case aP => exact k110_mkM _ _ _ (⟨wrap64 (8 * x20_2), wrap64 (8 * x20_2), 9⟩ : S110)); (case aB => exact (lV2 GE131 GE134)); (case aF => exact (fun _ _ => trivial)); (case aO => exact (rU HO_135002.out)); (case aS => exact (below_size (lV2 GE131 GE134))); (case aL => have := LMc16.out; omega); intro v136 w19 ho hb hg hat; rw [← Ny135.out] at ho; replace BK131 := Aside0.mk (blk_grown (g := gb131) (o := .cells #[.int .i64 0, .int .i64 0, .slice none 0 0] 48 (0, 0)) (bV BK131) hg (Kd.R_ne HO_135002.out BK131.out (by decide))); replace BK134 := Aside0.mk (blk_grown (g := gb134) (o := .cells #[.int .i64 0, .int .i64 a1, u135002] 48 (0, 0)) (bV BK134) hg (Kd.R_ne HO_135002.out BK134.out (by decide))); replace HB := Aside0.mk hb; have HO137 := Aside0.mk ho; clear HO_135002; clear ho hb hg hat; obtain ⟨Ao20, co20, eo20⟩ := Kd.R_slice HO137.out; subst eo20; have hcz21_0 := cz BK134 0 (.int .i64 0); have hcz21_1 := cz BK134 1 (.int .i64 a1); have hcz21_2 := cz BK134 2 (u135002); have hfz21_0 := fz BK134 0; have hfz21_1 := fz BK134 1; have hfz21_2 := fz BK134 2) | ((with_reducible refine gate_store (t := 46) (p := 32) rfl ?_); refine store_event (t := 46) (p := 32) (v := ?vo_w22) (w1 := (w19.setCell ⟨gb134, 2, none⟩ (.slice Ao20 y135.length co20))) ?hg ?ho ?hn ?hr ?_; (case ho => rfl); (case hg => rfl); (case hn => rfl); (case hr => first | (go_simp; done) | (go_simp; rfl) | (have hq0_ := (blk_cell BK134.out 2).trans (show _ = some _ from rfl); have hf0_ := blk_frozen BK134.out 2; first | (go_simp; done) | (go_simp; rfl))); intro w22 hw; replace HO137 : Aside0 (Kd.R k110 110 w22 w.heap.size (fun _ => True) (.slice Ao20 y135.length co20) y135) := ⟨(by rw [hw]; exact (by (with_reducible repeat (first | apply Kd.R_alloc | apply Kd.R_drewN | apply Kd.R_drew)); exact Kd.R_mono (Kd.R_far (p := ⟨gb134, 2, none⟩) (Kd.R_types HO137.out BK134.out (by decide)) (fun _ hk => hk.2) (.slice Ao20 y135.length co20)) (fun _ hk => trivial)))⟩; replace BK131 : Aside0 (w22.heap[gb131]? = some (.cells #[.int .i64 0, .int .i64 0, .slice none 0 0] 48 (0, 0))) := ⟨(by rw [hw]; exact (bG NB131_134 BK131))⟩; replace BK134 : Aside0 (w22.heap[gb134]? = some (.cells #[.int .i64 0, .int .i64 a1, .slice Ao20 y135.length co20] 48 (0, 0))) := ⟨(by rw [hw]; exact (by refine bU ?_; refine blk_put (cs := #[.int .i64 0, .int .i64 a1, u135002]) ?_ 2 _ rfl; refine bU ?_; exact BK134.out))⟩; replace HB : Aside0 (Below w.heap.size w w22) := ⟨(by rw [hw]; exact (lV2 GE131 GE134))⟩; clear hw))
        go_roundg k2
        case measure => have := HJ2.out; have := HK2.out; omega
        case rel => exact ⟨(wrap64 (x20_2 + 1)), (y135), (.slice Ao20 y135.length co20), tE, H', ⟨by have := HJ2.out; have := HK2.out; omega⟩, ⟨by (with_reducible repeat (first | apply Kd.R_alloc | apply Kd.R_drewN | apply Kd.R_drew)); exact HO137.out⟩, ⟨by refine bU ?_; exact BK131.out⟩, ⟨by refine bU ?_; exact BK134.out⟩, ⟨by repeat (first | (with_reducible first | exact HB.out | apply below_alloc | apply pw_below_drewN | apply below_drew1 | refine below_set ?_ GE131.out | refine below_set ?_ GE134.out) | exact HB.out)⟩⟩
       ·rw [if_neg c16] at H
        exact absurd H (by simp)
      ·rw [if_neg c15] at H
       have c15b0 : decide (x20_2 < a0) = false := decide_eq_false c15
       clear c15
       simp only [Option.some.injEq, Prod.mk.injEq] at H
       obtain ⟨rfl, rfl, rfl, rfl⟩ := H
       have hnb23 := NB134_131.out
       have hnc23 := NB131_134.out
       have hcz24_0 := cz BK134 0 (.int .i64 0)
       have hcz24_1 := cz BK134 1 (.int .i64 a1)
       have hcz24_2 := cz BK134 2 (u135002)
       have hfz24_0 := fz BK134 0
       have hfz24_1 := fz BK134 1
       have hfz24_2 := fz BK134 2
       have hcz25_0 := cz BK131 0 (.int .i64 0)
       have hcz25_1 := cz BK131 1 (.int .i64 0)
       have hcz25_2 := cz BK131 2 (.slice none 0 0)
       have hfz25_0 := fz BK131 0
       have hfz25_1 := fz BK131 1
       have hfz25_2 := fz BK131 2
       obtain ⟨Ao26, co26, eo26⟩ := Kd.R_slice HO_135002.out
       subst eo26
       go_wp2_with (first | ((with_reducible refine gate_store (t := 48) (p := 4) rfl ?_); refine store_event (t := 48) (p := 4) (v := ?vo_w27) (w1 := (((wr.setCell ⟨gb131, 0, none⟩ (.int .i64 0)).setCell ⟨gb131, 1, none⟩ (.int .i64 a1)).setCell ⟨gb131, 2, none⟩ (.slice Ao26 x135002_2.length co26))) ?hg ?ho ?hn ?hr ?_; (case ho => rfl); (case hg => rfl); (case hn => rfl); (case hr => first | (go_simp; done) | (go_simp; rfl) | (have hq0_ := (blk_cell BK131.out 0).trans (show _ = some _ from rfl); have hf0_ := blk_frozen BK131.out 0; have hq1_ := (blk_cell BK131.out 1).trans (show _ = some _ from rfl); have hf1_ := blk_frozen BK131.out 1; have hq2_ := (blk_cell BK131.out 2).trans (show _ = some _ from rfl); have hf2_ := blk_frozen BK131.out 2; first | (go_simp; done) | (go_simp; rfl))); intro w27 hw; replace HO_135002 : Aside0 (Kd.R k110 110 w27 w.heap.size (fun _ => True) (.slice Ao26 x135002_2.length co26) x135002_2) := ⟨(by rw [hw]; exact (by (with_reducible repeat (first | apply Kd.R_alloc | apply Kd.R_drewN | apply Kd.R_drew)); exact Kd.R_mono (Kd.R_far (p := ⟨gb131, 2, none⟩) (Kd.R_far (p := ⟨gb131, 1, none⟩) (Kd.R_far (p := ⟨gb131, 0, none⟩) (Kd.R_types HO_135002.out BK131.out (by decide)) (fun _ hk => hk.2) (.int .i64 0)) (fun _ hk => hk.2) (.int .i64 a1)) (fun _ hk => hk.2) (.slice Ao26 x135002_2.length co26)) (fun _ hk => trivial)))⟩; replace BK131 : Aside0 (w27.heap[gb131]? = some (.cells #[.int .i64 0, .int .i64 a1, .slice Ao26 x135002_2.length co26] 48 (0, 0))) := ⟨(by rw [hw]; exact (by refine bU ?_; refine blk_put (cs := #[.int .i64 0, .int .i64 a1, .slice none 0 0]) ?_ 2 _ rfl; refine bU ?_; refine blk_put (cs := #[.int .i64 0, .int .i64 0, .slice none 0 0]) ?_ 1 _ rfl; refine bU ?_; refine blk_put (cs := #[.int .i64 0, .int .i64 0, .slice none 0 0]) ?_ 0 _ rfl; refine bU ?_; exact BK131.out))⟩; replace BK134 : Aside0 (w27.heap[gb134]? = some (.cells #[.int .i64 0, .int .i64 a1, .slice Ao26 x135002_2.length co26] 48 (0, 0))) := ⟨(by rw [hw]; exact (bG NB134_131 BK134))⟩; replace HB : Aside0 (Below w.heap.size w w27) := ⟨(by rw [hw]; exact (lV2 GE131 GE134))⟩; clear hw))
       refine bodyPost_ret (results_ct rfl _ _ gb131 48 #[.int .i64 0, .int .i64 a1, .slice Ao26 x135002_2.length co26] (0, 0) _ rfl (bV BK131) Try.underlying48 rfl (by kernel_rfl)) rfl ?_
       exact ⟨_, eE, by (with_reducible repeat (first | apply Kd.R_alloc | apply Kd.R_drewN | apply Kd.R_drew)); exact HO_135002.out, lV2 GE131 GE134⟩
def impl_NewPeer.l0 : Nat → Int → Int → Int → Int → List (S110) → List (List Int) → List (List Bool) → Option (Int × Int × (List (S110)) × (List (List Int)) × (List (List Bool)) × (List (S48)) × Bool)
 | 0, _, _, _, _, _, _, _ => none
 | k + 1, x0, x20, x147000, x147001, x147002, x147003, x147004 => if x20 < 60 then (if 0 ≤ x0 then (if (x0 : Int).toNat ≤ 35184372088832 then (if x147003.length < 5864062014805 then (if (x0 : Int).toNat ≤ 281474976710656 then (if x147004.length < 5864062014805 then (impl_NewPeer.l0 k x0 (wrap64 (x20 + 1)) x147000 x147001 x147002 (x147003 ++ [(List.replicate (x0 : Int).toNat 0)]) (x147004 ++ [(List.replicate (x0 : Int).toNat false)])) else (none)) else (none)) else (none)) else (none)) else (none)) else (some (x147000, x147001, x147002, x147003, x147004, ([] : List (S48)), true))
def impl_NewPeer.f (k : Nat) (a0 : Int) (a1 : Int) : Option (Int × Int × (List (S110)) × (List (List Int)) × (List (List Bool)) × (List (S48)) × Bool) := (impl_StartGame.f k a0 a1).bind fun bt139 => (if bt139.2.2.2 = true then (impl_NewPeer.l0 k a0 0 bt139.1 bt139.2.1 bt139.2.2.1 ([] : List (List Int)) ([] : List (List Bool))) else (some (0, 0, ([] : List (S110)), ([] : List (List Int)), ([] : List (List Bool)), ([] : List (S48)), false)))
theorem impl_NewPeer.mono_l : ∀ k, (∀ y0 y1 y2 y3 y4 y5 y6, LeO (impl_NewPeer.l0 k y0 y1 y2 y3 y4 y5 y6) (impl_NewPeer.l0 (k + 1) y0 y1 y2 y3 y4 y5 y6))
 | 0 => fun _ _ _ _ _ _ _ r h => by simp [impl_NewPeer.l0] at h
 | k + 1 => by
  have ih0 := impl_NewPeer.mono_l k
  ·intro y0 y1 y2 y3 y4 y5 y6
   unfold impl_NewPeer.l0
   repeat' first
   | (with_reducible exact ih0 _ _ _ _ _ _ _)
   | (with_reducible exact impl_StartGame.mono _ _ _)
   | (with_reducible exact LeO.refl _)
   | (with_reducible exact LeO.none _)
   | (with_reducible refine LeO.ite ?_ ?_)
   | (with_reducible refine LeO.bind ?_ (fun _ => ?_))
   | exact ih0 _ _ _ _ _ _ _
   | exact impl_StartGame.mono _ _ _
   | exact LeO.none _
   | refine LeO.ite ?_ ?_
   | refine LeO.bind ?_ (fun _ => ?_)
theorem impl_NewPeer.mono : ∀ a0 a1 k, LeO (impl_NewPeer.f k a0 a1) (impl_NewPeer.f (k + 1) a0 a1) := by
 intro a0 a1 k
 have ih0 := impl_NewPeer.mono_l k
 unfold impl_NewPeer.f
 repeat' first
   | (with_reducible exact ih0 _ _ _ _ _ _ _)
   | (with_reducible exact impl_StartGame.mono _ _ _)
   | (with_reducible exact LeO.refl _)
   | (with_reducible exact LeO.none _)
   | (with_reducible refine LeO.ite ?_ ?_)
   | (with_reducible refine LeO.bind ?_ (fun _ => ?_))
   | exact ih0 _ _ _ _ _ _ _
   | exact impl_StartGame.mono _ _ _
   | exact LeO.none _
   | refine LeO.ite ?_ ?_
   | refine LeO.bind ?_ (fun _ => ?_)
def impl_NewPeer.T7 : Bool × List (List Nat × List Nat) := (true, [([], []), ([0], [0]), ([], []), ([2, 2], [2]), ([3], [3]), ([1, 4], [1, 4]), ([0, 1, 2, 3, 4, 5], []), ([6, 5, 5, 0, 1, 2, 3, 4, 5], [5, 6])])
def impl_NewPeer.B7 : List Nat := [0, 1, 0, 4, 12, 31, 63, 127]
theorem impl_NewPeer.tab7 : rtab .any (opsOf Try.f24 7) = impl_NewPeer.T7 := by kernel_rfl
theorem impl_NewPeer.bits7 : waitsOk impl_NewPeer.T7.2 impl_NewPeer.B7 = true := by kernel_rfl
def impl_NewPeer.T8 : Bool × List (List Nat × List Nat) := (true, [([], []), ([0], [0]), ([], []), ([2, 2], [2]), ([3], [3]), ([1, 4], [1, 4]), ([0, 1, 2, 3, 4, 5], []), ([6, 5, 5, 0, 1, 2, 3, 4, 5], [5, 6])])
def impl_NewPeer.B8 : List Nat := [0, 1, 0, 4, 12, 31, 63, 127]
theorem impl_NewPeer.tab8 : rtab .any (opsOf Try.f24 8) = impl_NewPeer.T8 := by kernel_rfl
theorem impl_NewPeer.bits8 : waitsOk impl_NewPeer.T8.2 impl_NewPeer.B8 = true := by kernel_rfl
set_option maxHeartbeats 8000000 in
set_option maxRecDepth 100000 in
theorem impl_NewPeer.calls (k : Nat) (a0 : Int) (a1 : Int) (r1 : Int) (r2 : Int) (r3 : List (S110)) (r4 : List (List Int)) (r5 : List (List Bool)) (r6 : List (S48)) (r7 : Bool) (w : World) (h : impl_NewPeer.f k a0 a1 = some (r1, r2, r3, r4, r5, r6, r7)) :
  Calls Try.prog 24 #[.int .i64 a0, .int .i64 a1] w fun e w' => ∃ v2_ v3_ v4_ v5_ : Value, e = .returned (.tuple #[.agg #[.int .i64 r1, .int .i64 r2, v2_, v3_, v4_, v5_], .bool r7]) ∧ Kd.R k110 110 w' w.heap.size (fun _ => True) v2_ r3 ∧ Kd.S (Kd.slice 3 (Kd.int .i64)) 86 w' w.heap.size (fun _ => True) v3_ r4 ∧ Kd.S (Kd.slice 4 Kd.bool) 87 w' w.heap.size (fun _ => True) v4_ r5 ∧ Kd.S k48 48 w' w.heap.size (fun k_ => some k_ ≠ (v2_ : Value).ownBlock) v5_ r6 ∧ Below w.heap.size w w' := by
 have hu53 := Try.underlying53
 have hu48 := Try.underlying48
 have HB := Aside0.mk (Below.refl w.heap.size w)
 have H : ((impl_StartGame.f k a0 a1).bind fun bt139 => (if bt139.2.2.2 = true then (impl_NewPeer.l0 k a0 0 bt139.1 bt139.2.1 bt139.2.2.1 ([] : List (List Int)) ([] : List (List Bool))) else (some (0, 0, ([] : List (S110)), ([] : List (List Int)), ([] : List (List Bool)), ([] : List (S48)), false)))) = some (r1, r2, r3, r4, r5, r6, r7) := h
 clear h
 replace H := Option.bind_eq_some_iff.mp H
 obtain ⟨⟨t139, t140, t141, t144⟩, A30, H⟩ := H
 replace H : (if t144 = true then (impl_NewPeer.l0 k a0 0 t139 t140 t141 ([] : List (List Int)) ([] : List (List Bool))) else (some (0, 0, ([] : List (S110)), ([] : List (List Int)), ([] : List (List Bool)), ([] : List (S48)), false))) = some (r1, r2, r3, r4, r5, r6, r7) := H
 have A3 := Aside0.mk A30
 clear A30
 by_cases c4 : t144 = true
 ·subst c4
  have H1 : (impl_NewPeer.l0 k a0 0 t139 t140 t141 ([] : List (List Int)) ([] : List (List Bool))) = some (r1, r2, r3, r4, r5, r6, r7) := by rw [if_pos rfl] at H; exact H
  clear H
  have H := H1
  clear H1
  have H' := Aside0.mk H
  clear H
  go_enter Try.func24, Try.ntmps24
  go_wp2_with (first | ((with_reducible refine gate_dst (N := 4) rfl ?_); refine box_event rfl (N := 4) rfl (cs := #[.int .i64 0, .int .i64 0, .slice none 0 0, .slice none 0 0, .slice none 0 0, .slice none 0 0]) (t := 53) sE ?_; intro gb138 hg w5 hbox hb; have BK138 := Aside0.mk hbox; have GW138 := gS w hg (lU); have GE138 := gS w hg (lU); replace HB := bH (lU) hb; clear hb hbox hg) | ((with_reducible refine gate_callee (f := 53) rfl ?_); refine goesL_ (some 12) rfl rfl Try.func53 (by kernel_rfl) rfl #[.int .i64 a0, .int .i64 a1] rfl aE ?_; (with_reducible refine (impl_StartGame.calls k a0 a1 t139 t140 t141 true _ A3.out).mono ?_); rintro e w6 ⟨v142, rfl, ho0, hb⟩; refine ⟨_, rfl, ?_⟩; have HO143 := Aside0.mk (Kd.R_lower ho0 (below_size (lV1 GE138))); replace BK138 := bB (bV BK138) hb; replace HB := bH (lV1 GE138) hb; (try clear hb); (try clear ho0)) | ((with_reducible refine gate_dst (N := 6) rfl ?_); refine box_event rfl (N := 6) rfl (cs := #[.int .i64 0, .int .i64 0, .slice none 0 0]) (t := 48) sE ?_; intro gb145 hg w7 hbox hb; replace HO143 := Aside0.mk (Kd.R_below (rU HO143.out) hb); have BK145 := Aside0.mk hbox; have GW145 := gS w hg (lV1 GE138); have GE145 := gS w hg (lV1 GE138); replace HB := bH (lV1 GE138) hb; have NB138_145 := nL hg (bV BK138); have NB145_138 := nG hg (bV BK138); replace BK138 := bB (bV BK138) hb; clear hb hbox hg; have hnb8 := NB145_138.out; have hnc8 := NB138_145.out; have hcz9_0 := cz BK145 0 (.int .i64 0); have hcz9_1 := cz BK145 1 (.int .i64 0); have hcz9_2 := cz BK145 2 (.slice none 0 0); have hfz9_0 := fz BK145 0; have hfz9_1 := fz BK145 1; have hfz9_2 := fz BK145 2; obtain ⟨Ao10, co10, eo10⟩ := Kd.R_slice HO143.out; subst eo10) | ((with_reducible refine gate_store (t := 48) (p := 6) rfl ?_); refine store_event (t := 48) (p := 6) (v := ?vo_w11) (w1 := (((w7.setCell ⟨gb145, 0, none⟩ (.int .i64 t139)).setCell ⟨gb145, 1, none⟩ (.int .i64 t140)).setCell ⟨gb145, 2, none⟩ (.slice Ao10 t141.length co10))) ?hg ?ho ?hn ?hr ?_; (case ho => rfl); (case hg => rfl); (case hn => rfl); (case hr => first | (go_simp; done) | (go_simp; rfl) | (have hq0_ := (blk_cell BK145.out 0).trans (show _ = some _ from rfl); have hf0_ := blk_frozen BK145.out 0; have hq1_ := (blk_cell BK145.out 1).trans (show _ = some _ from rfl); have hf1_ := blk_frozen BK145.out 1; have hq2_ := (blk_cell BK145.out 2).trans (show _ = some _ from rfl); have hf2_ := blk_frozen BK145.out 2; first | (go_simp; done) | (go_simp; rfl))); intro w11 hw; replace HO143 : Aside0 (Kd.R k110 110 w11 w.heap.size (fun _ => True) (.slice Ao10 t141.length co10) t141) := ⟨(by rw [hw]; exact (by (with_reducible repeat (first | apply Kd.R_alloc | apply Kd.R_drewN | apply Kd.R_drew)); exact Kd.R_mono (Kd.R_far (p := ⟨gb145, 2, none⟩) (Kd.R_far (p := ⟨gb145, 1, none⟩) (Kd.R_far (p := ⟨gb145, 0, none⟩) (Kd.R_types HO143.out BK145.out (by decide)) (fun _ hk => hk.2) (.int .i64 t139)) (fun _ hk => hk.2) (.int .i64 t140)) (fun _ hk => hk.2) (.slice Ao10 t141.length co10)) (fun _ hk => trivial)))⟩; replace BK138 : Aside0 (w11.heap[gb138]? = some (.cells #[.int .i64 0, .int .i64 0, .slice none 0 0, .slice none 0 0, .slice none 0 0, .slice none 0 0] 53 (0, 0))) := ⟨(by rw [hw]; exact (bG NB138_145 BK138))⟩; replace BK145 : Aside0 (w11.heap[gb145]? = some (.cells #[.int .i64 t139, .int .i64 t140, .slice Ao10 t141.length co10] 48 (0, 0))) := ⟨(by rw [hw]; exact (by refine bU ?_; refine blk_put (cs := #[.int .i64 t139, .int .i64 t140, .slice none 0 0]) ?_ 2 _ rfl; refine bU ?_; refine blk_put (cs := #[.int .i64 t139, .int .i64 0, .slice none 0 0]) ?_ 1 _ rfl; refine bU ?_; refine blk_put (cs := #[.int .i64 0, .int .i64 0, .slice none 0 0]) ?_ 0 _ rfl; refine bU ?_; exact BK145.out))⟩; replace HB : Aside0 (Below w.heap.size w w11) := ⟨(by rw [hw]; exact (lV2 GE138 GE145))⟩; clear hw; have hcz12_0 := cz BK145 0 (.int .i64 t139); have hcz12_1 := cz BK145 1 (.int .i64 t140); have hcz12_2 := cz BK145 2 (.slice Ao10 t141.length co10); have hfz12_0 := fz BK145 0; have hfz12_1 := fz BK145 1; have hfz12_2 := fz BK145 2) | ((with_reducible refine gate_dst (N := 8) rfl ?_); refine box_event rfl (N := 8) rfl (cs := #[.int .i64 0, .int .i64 0, .slice none 0 0, .slice none 0 0, .slice none 0 0, .slice none 0 0]) (t := 53) sE ?_; intro gb146 hg w13 hbox hb; replace HO143 := Aside0.mk (Kd.R_below (rU HO143.out) hb); have BK146 := Aside0.mk hbox; have GW146 := gS w hg (lV2 GE138 GE145); have GE146 := gS w hg (lV2 GE138 GE145); replace HB := bH (lV2 GE138 GE145) hb; have NB138_146 := nL hg (bV BK138); have NB146_138 := nG hg (bV BK138); replace BK138 := bB (bV BK138) hb; have NB145_146 := nL hg (bV BK145); have NB146_145 := nG hg (bV BK145); replace BK145 := bB (bV BK145) hb; clear hb hbox hg; have hnb14 := NB146_138.out; have hnc14 := NB138_146.out; have hnb15 := NB146_145.out; have hnc15 := NB145_146.out; have hcz16_0 := cz BK146 0 (.int .i64 0); have hcz16_1 := cz BK146 1 (.int .i64 0); have hcz16_2 := cz BK146 2 (.slice none 0 0); have hcz16_3 := cz BK146 3 (.slice none 0 0); have hcz16_4 := cz BK146 4 (.slice none 0 0); have hcz16_5 := cz BK146 5 (.slice none 0 0); have hfz16_0 := fz BK146 0; have hfz16_1 := fz BK146 1; have hfz16_2 := fz BK146 2; have hfz16_3 := fz BK146 3; have hfz16_4 := fz BK146 4; have hfz16_5 := fz BK146 5) | ((with_reducible refine gate_store (t := 53) (p := 8) rfl ?_); refine store_event (t := 53) (p := 8) (v := ?vo_w17) (w1 := ((((((w13.setCell ⟨gb146, 0, none⟩ (.int .i64 t139)).setCell ⟨gb146, 1, none⟩ (.int .i64 t140)).setCell ⟨gb146, 2, none⟩ (.slice Ao10 t141.length co10)).setCell ⟨gb146, 3, none⟩ (.slice none 0 0)).setCell ⟨gb146, 4, none⟩ (.slice none 0 0)).setCell ⟨gb146, 5, none⟩ (.slice none 0 0))) ?hg ?ho ?hn ?hr ?_; (case ho => rfl); (case hg => rfl); (case hn => rfl); (case hr => first | (go_simp; done) | (go_simp; rfl) | (have hq0_ := (blk_cell BK146.out 0).trans (show _ = some _ from rfl); have hf0_ := blk_frozen BK146.out 0; have hq1_ := (blk_cell BK146.out 1).trans (show _ = some _ from rfl); have hf1_ := blk_frozen BK146.out 1; have hq2_ := (blk_cell BK146.out 2).trans (show _ = some _ from rfl); have hf2_ := blk_frozen BK146.out 2; have hq3_ := (blk_cell BK146.out 3).trans (show _ = some _ from rfl); have hf3_ := blk_frozen BK146.out 3; have hq4_ := (blk_cell BK146.out 4).trans (show _ = some _ from rfl); have hf4_ := blk_frozen BK146.out 4; have hq5_ := (blk_cell BK146.out 5).trans (show _ = some _ from rfl); have hf5_ := blk_frozen BK146.out 5; first | (go_simp; done) | (go_simp; rfl))); intro w17 hw; replace HO143 : Aside0 (Kd.R k110 110 w17 w.heap.size (fun _ => True) (.slice Ao10 t141.length co10) t141) := ⟨(by rw [hw]; exact (by (with_reducible repeat (first | apply Kd.R_alloc | apply Kd.R_drewN | apply Kd.R_drew)); exact Kd.R_mono (Kd.R_far (p := ⟨gb146, 5, none⟩) (Kd.R_far (p := ⟨gb146, 4, none⟩) (Kd.R_far (p := ⟨gb146, 3, none⟩) (Kd.R_far (p := ⟨gb146, 2, none⟩) (Kd.R_far (p := ⟨gb146, 1, none⟩) (Kd.R_far (p := ⟨gb146, 0, none⟩) (Kd.R_types HO143.out BK146.out (by decide)) (fun _ hk => hk.2) (.int .i64 t139)) (fun _ hk => hk.2) (.int .i64 t140)) (fun _ hk => hk.2) (.slice Ao10 t141.length co10)) (fun _ hk => hk.2) (.slice none 0 0)) (fun _ hk => hk.2) (.slice none 0 0)) (fun _ hk => hk.2) (.slice none 0 0)) (fun _ hk => trivial)))⟩; replace BK138 : Aside0 (w17.heap[gb138]? = some (.cells #[.int .i64 0, .int .i64 0, .slice none 0 0, .slice none 0 0, .slice none 0 0, .slice none 0 0] 53 (0, 0))) := ⟨(by rw [hw]; exact (bG NB138_146 BK138))⟩; replace BK145 : Aside0 (w17.heap[gb145]? = some (.cells #[.int .i64 t139, .int .i64 t140, .slice Ao10 t141.length co10] 48 (0, 0))) := ⟨(by rw [hw]; exact (bG NB145_146 BK145))⟩; replace BK146 : Aside0 (w17.heap[gb146]? = some (.cells #[.int .i64 t139, .int .i64 t140, .slice Ao10 t141.length co10, .slice none 0 0, .slice none 0 0, .slice none 0 0] 53 (0, 0))) := ⟨(by rw [hw]; exact (by refine bU ?_; refine blk_put (cs := #[.int .i64 t139, .int .i64 t140, .slice Ao10 t141.length co10, .slice none 0 0, .slice none 0 0, .slice none 0 0]) ?_ 5 _ rfl; refine bU ?_; refine blk_put (cs := #[.int .i64 t139, .int .i64 t140, .slice Ao10 t141.length co10, .slice none 0 0, .slice none 0 0, .slice none 0 0]) ?_ 4 _ rfl; refine bU ?_; refine blk_put (cs := #[.int .i64 t139, .int .i64 t140, .slice Ao10 t141.length co10, .slice none 0 0, .slice none 0 0, .slice none 0 0]) ?_ 3 _ rfl; refine bU ?_; refine blk_put (cs := #[.int .i64 t139, .int .i64 t140, .slice none 0 0, .slice none 0 0, .slice none 0 0, .slice none 0 0]) ?_ 2 _ rfl; refine bU ?_; refine blk_put (cs := #[.int .i64 t139, .int .i64 0, .slice none 0 0, .slice none 0 0, .slice none 0 0, .slice none 0 0]) ?_ 1 _ rfl; refine bU ?_; refine blk_put (cs := #[.int .i64 0, .int .i64 0, .slice none 0 0, .slice none 0 0, .slice none 0 0, .slice none 0 0]) ?_ 0 _ rfl; refine bU ?_; exact BK146.out))⟩; replace HB : Aside0 (Below w.heap.size w w17) := ⟨(by rw [hw]; exact (lV3 GE138 GE145 GE146))⟩; clear hw))
  (try simp only [Act.put, List.setIfInBounds_toArray, List.set_cons_zero, List.set_cons_succ])
  go_loopg [20] k (fun kq v20 w' => ∃ (x20_1 : Int) (x147003_1 : List (List Int)) (x147004_1 : List (List Bool)) (u147003 : Value) (u147004 : Value), v20 = .int .i64 x20_1 ∧ Aside0 (impl_NewPeer.l0 kq a0 x20_1 t139 t140 t141 x147003_1 x147004_1 = some (r1, r2, r3, r4, r5, r6, r7)) ∧ Aside0 (kq ≤ k) ∧ Aside0 (Kd.R k110 110 w' w.heap.size (fun _ => True) (.slice Ao10 t141.length co10) t141) ∧ Aside0 (Kd.R k110 110 w' w.heap.size (fun _ => True) (.slice Ao10 t141.length co10) t141) ∧ Aside0 (Kd.S (Kd.slice 3 (Kd.int .i64)) 86 w' w.heap.size (fun _ => True) u147003 x147003_1) ∧ Aside0 (Kd.S (Kd.slice 4 Kd.bool) 87 w' w.heap.size (fun _ => True) u147004 x147004_1) ∧ Aside0 (w'.heap[gb138]? = some (.cells #[.int .i64 0, .int .i64 0, (.slice none 0 0), (.slice none 0 0), (.slice none 0 0), (.slice none 0 0)] 53 (0, 0))) ∧ Aside0 (w'.heap[gb145]? = some (.cells #[.int .i64 t139, .int .i64 t140, (.slice Ao10 t141.length co10)] 48 (0, 0))) ∧ Aside0 (w'.heap[gb146]? = some (.cells #[.int .i64 t139, .int .i64 t140, (.slice Ao10 t141.length co10), u147003, u147004, (.slice none 0 0)] 53 (0, 0))) ∧ Aside0 (Below w.heap.size w w'))
  case atStart => exact ⟨(0), (([] : List (List Int))), (([] : List (List Bool))), (.slice none 0 0), (.slice none 0 0), tE, H', ⟨Nat.le_refl _⟩, ⟨by (with_reducible repeat (first | apply Kd.R_alloc | apply Kd.R_drewN | apply Kd.R_drew)); exact HO143.out⟩, ⟨by (with_reducible repeat (first | apply Kd.R_alloc | apply Kd.R_drewN | apply Kd.R_drew)); exact HO143.out⟩, ⟨by first | exact Kd.S_nil _ _ _ _ _ | exact Kd.N_nil _ _ _ _ _ | exact Kd.V_nil _ _ _ _ _ | exact Kd.Q_nil _ _ _ _ _ | exact Kd.R_nil _ _ _ _ _⟩, ⟨by first | exact Kd.S_nil _ _ _ _ _ | exact Kd.N_nil _ _ _ _ _ | exact Kd.V_nil _ _ _ _ _ | exact Kd.Q_nil _ _ _ _ _ | exact Kd.R_nil _ _ _ _ _⟩, ⟨by refine bU ?_; exact BK138.out⟩, ⟨by refine bU ?_; exact BK145.out⟩, ⟨by refine bU ?_; exact BK146.out⟩, ⟨by repeat (first | (with_reducible first | exact HB.out | apply below_alloc | apply pw_below_drewN | apply below_drew1 | refine below_set ?_ GE138.out | refine below_set ?_ GE145.out | refine below_set ?_ GE146.out) | exact HB.out)⟩⟩
  case round =>
   clear H'
   try clear c1
   try clear q1
   try clear c2
   try clear p2
   try clear q2
   try clear hf2
   try clear q3
   try clear hf3
   try clear c4
   try clear q4
   try clear hf4
   try clear c5
   try clear q5
   try clear hf5
   try clear c8
   try clear c14
   try clear c15
   try clear hcz12_0
   try clear hcz12_1
   try clear hcz12_2
   try clear hcz16_0
   try clear hcz16_1
   try clear hcz16_2
   try clear hcz16_3
   try clear hcz16_4
   try clear hcz16_5
   try clear hcz9_0
   try clear hcz9_1
   try clear hcz9_2
   try clear hfz12_0
   try clear hfz12_1
   try clear hfz12_2
   try clear hfz16_0
   try clear hfz16_1
   try clear hfz16_2
   try clear hfz16_3
   try clear hfz16_4
   try clear hfz16_5
   try clear hfz9_0
   try clear hfz9_1
   try clear hfz9_2
   obtain ⟨x20_1, x147003_1, x147004_1, u147003, u147004, rfl, HA, HK1, HO_146002, HO_147002, HO_147003, HO_147004, BK138, BK145, BK146, HB⟩ := hrel
   cases gk with
   | zero => exact absurd HA.out (by simp [impl_NewPeer.l0])
   | succ k1 =>
    have H := HA.out
    clear HA
    simp only [impl_NewPeer.l0] at H
    by_cases c18 : x20_1 < 60
    ·rw [if_pos c18] at H
     have c18b0 : decide (x20_1 < 60) = true := decide_eq_true c18
     clear c18
     by_cases c19 : 0 ≤ a0
     ·rw [if_pos c19] at H
      have c19b0 := eq_true c19
      have c19b1 : decide (0 ≤ a0) = true := decide_eq_true c19
      clear c19
      by_cases c20 : (a0 : Int).toNat ≤ 35184372088832
      ·rw [if_pos c20] at H
       have c20b0 := eq_true c20
       have c20b1 : decide ((a0 : Int).toNat ≤ 35184372088832) = true := decide_eq_true c20
       clear c20
       obtain ⟨y147, hy147⟩ : ∃ y_ : List Int, y_ = (List.replicate (a0 : Int).toNat 0) := ⟨_, rfl⟩
       replace H : (if x147003_1.length < 5864062014805 then (if (a0 : Int).toNat ≤ 281474976710656 then (if x147004_1.length < 5864062014805 then (impl_NewPeer.l0 k1 a0 (wrap64 (x20_1 + 1)) t139 t140 t141 (x147003_1 ++ [y147]) (x147004_1 ++ [(List.replicate (a0 : Int).toNat false)])) else (none)) else (none)) else (none)) = some (r1, r2, r3, r4, r5, r6, r7) := by first | (rw [hy147]; with_reducible exact H) | (have H2_ := (Option.bind_some _ _).symm.trans H; rw [hy147]; with_reducible exact H2_) | (have H2_ := (Option.bind_some _ _).symm.trans H; with_reducible exact H2_) | with_reducible exact H | (rw [hy147]; exact H) | exact H
       have Ny147 := Aside0.mk hy147
       clear hy147
       by_cases c21 : x147003_1.length < 5864062014805
       ·rw [if_pos c21] at H
        have LMc21 := Aside0.mk c21
        clear c21
        obtain ⟨y150, hy150⟩ : ∃ y_ : List (List Int), y_ = (x147003_1 ++ [y147]) := ⟨_, rfl⟩
        replace H : (if (a0 : Int).toNat ≤ 281474976710656 then (if x147004_1.length < 5864062014805 then (impl_NewPeer.l0 k1 a0 (wrap64 (x20_1 + 1)) t139 t140 t141 y150 (x147004_1 ++ [(List.replicate (a0 : Int).toNat false)])) else (none)) else (none)) = some (r1, r2, r3, r4, r5, r6, r7) := by first | (rw [hy150]; with_reducible exact H) | (have H2_ := (Option.bind_some _ _).symm.trans H; rw [hy150]; with_reducible exact H2_) | (have H2_ := (Option.bind_some _ _).symm.trans H; with_reducible exact H2_) | with_reducible exact H | (rw [hy150]; exact H) | exact H
        have Ny150 := Aside0.mk hy150
        clear hy150
        by_cases c22 : (a0 : Int).toNat ≤ 281474976710656
        ·rw [if_pos c22] at H
         have c22b0 := eq_true c22
         have c22b1 : decide ((a0 : Int).toNat ≤ 281474976710656) = true := decide_eq_true c22
         clear c22
         obtain ⟨y153, hy153⟩ : ∃ y_ : List Bool, y_ = (List.replicate (a0 : Int).toNat false) := ⟨_, rfl⟩
         replace H : (if x147004_1.length < 5864062014805 then (impl_NewPeer.l0 k1 a0 (wrap64 (x20_1 + 1)) t139 t140 t141 y150 (x147004_1 ++ [y153])) else (none)) = some (r1, r2, r3, r4, r5, r6, r7) := by first | (rw [hy153]; with_reducible exact H) | (have H2_ := (Option.bind_some _ _).symm.trans H; rw [hy153]; with_reducible exact H2_) | (have H2_ := (Option.bind_some _ _).symm.trans H; with_reducible exact H2_) | with_reducible exact H | (rw [hy153]; exact H) | exact H
         have Ny153 := Aside0.mk hy153
         clear hy153
         by_cases c23 : x147004_1.length < 5864062014805
         ·rw [if_pos c23] at H
          have LMc23 := Aside0.mk c23
          clear c23
          obtain ⟨y156, hy156⟩ : ∃ y_ : List (List Bool), y_ = (x147004_1 ++ [y153]) := ⟨_, rfl⟩
          replace H : (impl_NewPeer.l0 k1 a0 (wrap64 (x20_1 + 1)) t139 t140 t141 y150 y156) = some (r1, r2, r3, r4, r5, r6, r7) := by first | (rw [hy156]; with_reducible exact H) | (have H2_ := (Option.bind_some _ _).symm.trans H; rw [hy156]; with_reducible exact H2_) | (have H2_ := (Option.bind_some _ _).symm.trans H; with_reducible exact H2_) | with_reducible exact H | (rw [hy156]; exact H) | exact H
          have Ny156 := Aside0.mk hy156
          clear hy156
          have H' := Aside0.mk H
          clear H
          try go_wp2
          replace HO_146002 := Aside0.mk (Kd.R_drew HO_146002.out)
          replace HO_147002 := Aside0.mk (Kd.R_drew HO_147002.out)
          replace HO_147003 := Aside0.mk (Kd.S_drew HO_147003.out)
          replace HO_147004 := Aside0.mk (Kd.S_drew HO_147004.out)
          replace BK138 := Aside0.mk (blk_drew BK138.out)
          replace BK145 := Aside0.mk (blk_drew BK145.out)
          replace BK146 := Aside0.mk (blk_drew BK146.out)
          replace HB := Aside0.mk (below_drew1 HB.out)
          refine start_ (n := 8) (S := fun w' => w'.cell? ⟨gb146, 0, none⟩ = some (.int .i64 t139) ∧ w'.cell? ⟨gb146, 1, none⟩ = some (.int .i64 t140) ∧ w'.cell? ⟨gb146, 2, none⟩ = some (.slice Ao10 t141.length co10) ∧ w'.cell? ⟨gb146, 3, none⟩ = some (u147003) ∧ w'.cell? ⟨gb146, 4, none⟩ = some (u147004) ∧ w'.cell? ⟨gb146, 5, none⟩ = some (.slice none 0 0)) (ds := [7]) #[false, false, false, false, false, false, false, false] (by kernel_rfl) rfl rfl ⟨cz BK146 0 _, cz BK146 1 _, cz BK146 2 _, cz BK146 3 _, cz BK146 4 _, cz BK146 5 _⟩ (fun hHeld => ?_); refine with_tabW impl_NewPeer.tab7 impl_NewPeer.bits7 (fun HT_ HW_ => ?_)
          generalize wr.drew = w24 at HO_146002 HO_147002 HO_147003 HO_147004 BK138 BK145 BK146 HB hHeld ⊢
          refine pureA 0 22 (bz 8 1) rfl rfl (any_of HT_.out (by kernel_rfl)) ?_
          refine pureA 2 24 (bz 8 5) rfl rfl (any_of HT_.out (by kernel_rfl)) ?_
          refine takeA 1 23 (bz 8 7) rfl rfl (take_ofW HT_.out HW_.out (by kernel_rfl)) hHeld (by rintro w' ⟨s0, s1, s2, s3, s4, s5⟩; go_simp; with_reducible rfl) ?_
          refine one_ (i := 3) (N := some 25) (bz 8 15) rfl rfl (one_of HT_.out (by kernel_rfl)) (by decide) (fun K hK => ?_)
          refine Kd.R_make_step (Kd.int .i64) _ 3 (by rfl) (N := 25) rfl 86 _ _ rfl a0 rfl rfl Try.underlying86 (.int .i64 0) 8 info3 rfl (by decide) (by omega) 0 (ok := fun _ => True) (okp := fun _ => True) rfl (fun _ hk => hk) trivial (of_decide_eq_true hE) (Nat.le_trans (Nat.mul_le_mul_right _ (of_decide_eq_true hE : a0.toNat ≤ 35184372088832)) (by omega)) (Below.refl _ _) (Nat.le_refl _) ?_
          intro v148 w25 ho26 hb hg_ hnew_
          clear hg_ hnew_
          (first | rw [← Ny147.out] at ho26 | (simp only [Int.reduceToNat] at ho26; rw [← Ny147.out] at ho26))
          replace HO_146002 := Aside0.mk (Kd.R_below (rU HO_146002.out) hb)
          replace HO_147002 := Aside0.mk (Kd.R_below (rU HO_147002.out) hb)
          replace HO_147003 := Aside0.mk (Kd.S_elder' (by (with_reducible repeat (first | apply Kd.S_alloc | apply Kd.S_drewN | apply Kd.S_drew)); exact HO_147003.out) (Kd.R_base ho26) hb)
          replace HO_147004 := Aside0.mk (Kd.S_below (by (with_reducible repeat (first | apply Kd.S_alloc | apply Kd.S_drewN | apply Kd.S_drew)); exact HO_147004.out) hb)
          have HO149 := Aside0.mk (Kd.R_lower ho26 (below_size (lV3 GE138 GE145 GE146)))
          replace BK138 := bB (bV BK138) hb
          replace BK145 := bB (bV BK145) hb
          replace BK146 := bB (bV BK146) hb
          replace HB := bH (lV3 GE138 GE145 GE146) hb
          clear hb ho26
          obtain ⟨Ao28, co28, eo28⟩ := Kd.R_slice HO149.out
          (first | subst eo28 | (injection eo28 with f1_ f2_ f3_; have f4_ := f1_.symm; have f5_ := f3_.symm; clear f1_ f2_ f3_; subst f4_; subst f5_))
          refine hK.out _ _ ⟨cz BK146 0 _, cz BK146 1 _, cz BK146 2 _, cz BK146 3 _, cz BK146 4 _, cz BK146 5 _⟩ (fun hHeld => ?_)
          clear hK K
          refine norm_ (a' := ?_) ?_ ?_
          rotate_left
          ·show Act.put _ (some 25) _ = _
           simp only [Act.put, List.setIfInBounds_toArray, List.set_cons_zero, List.set_cons_succ, i64_w, i32_w]
           rfl
          refine one_ (i := 4) (N := some 26) (bz 8 31) rfl rfl (one_of HT_.out (by kernel_rfl)) (by decide) (fun K hK => ?_)
          refine value_ (w1 := ?_) (v := ?_) (by rfl) rfl ?_ ?_
          rotate_left 2
          ·go_simp
           constructor
           ·rfl
           ·rfl
          refine hK.out _ _ ⟨(blk_cell (blk_alloc BK146.out _) 0).trans rfl, (blk_cell (blk_alloc BK146.out _) 1).trans rfl, (blk_cell (blk_alloc BK146.out _) 2).trans rfl, (blk_cell (blk_alloc BK146.out _) 3).trans rfl, (blk_cell (blk_alloc BK146.out _) 4).trans rfl, (blk_cell (blk_alloc BK146.out _) 5).trans rfl⟩ (fun hHeld => ?_)
          clear hK K
          refine norm_ (a' := ?_) ?_ ?_
          rotate_left
          ·show Act.put _ (some 26) _ = _
           simp only [Act.put, List.setIfInBounds_toArray, List.set_cons_zero, List.set_cons_succ, i64_w, i32_w]
           rfl
          refine one_ (i := 5) (N := some 27) (bz 8 63) rfl rfl (one_of HT_.out (by kernel_rfl)) (by decide) (fun K hK => ?_)
          refine Kd.S_append_step (Kd.slice 3 (Kd.int .i64)) (w0 := w) w.heap.size (by rfl) (.tmp 23) (.tmp 26) 49 86 (.slice none 0 0) 24 rfl Try.underlying49 info86 rfl (by decide) (by omega) u147003 x147003_1 y147 [.slice Ao28 y147.length co28] (fun _ => True) (fun k_ => some k_ = (.slice Ao28 y147.length co28 : Value).ownBlock) rfl rfl ?aP (fun k_ hk_ => ((Kd.R_mono (ok' := fun k_ => ((fun _ => True)) k_ ∧ some k_ ≠ (u147003 : Value).ownBlock) (Kd.R_apart' (HO149.out) (Kd.S_typed HO_147003.out) (by decide)) (fun k_ hk => ⟨trivial, hk.2⟩))).1 k_ hk_.symm) ?aF ?aO ?aB ?aS ?aL ?_
          (case aP => exact Kd.M_row (Kd.R_mono (Kd.R_tight rfl (Kd.R_mono (ok' := fun k_ => ((fun _ => True)) k_ ∧ some k_ ≠ (u147003 : Value).ownBlock) (Kd.R_apart' (HO149.out) (Kd.S_typed HO_147003.out) (by decide)) (fun k_ hk => ⟨trivial, hk.2⟩))) (fun _ h_ => h_)))
          (case aB => exact (lV3 GE138 GE145 GE146))
          (case aF => exact (fun _ _ => trivial))
          (case aO => exact (by (with_reducible repeat (first | apply Kd.S_alloc | apply Kd.S_drewN | apply Kd.S_drew)); exact Kd.S_mono HO_147003.out (fun k_ hk => ⟨trivial, fun e_ => hk.2 e_⟩)))
          (case aS => exact (below_size (lV3 GE138 GE145 GE146)))
          (case aL => have := LMc21.out; omega)
          intro v151 w27 ho hb hg hat
          rw [← Ny150.out] at ho
          replace HO_146002 := Aside0.mk (Kd.R_over' (rU HO_146002.out) (Kd.S_typed (by (with_reducible repeat (first | apply Kd.S_alloc | apply Kd.S_drewN | apply Kd.S_drew)); exact HO_147003.out)) (by decide) hg)
          replace HO_147002 := Aside0.mk (Kd.R_over' (rU HO_147002.out) (Kd.S_typed (by (with_reducible repeat (first | apply Kd.S_alloc | apply Kd.S_drewN | apply Kd.S_drew)); exact HO_147003.out)) (by decide) hg)
          replace HO_147004 := Aside0.mk (Kd.S_over' (by (with_reducible repeat (first | apply Kd.S_alloc | apply Kd.S_drewN | apply Kd.S_drew)); exact HO_147004.out) (Kd.S_typed (by (with_reducible repeat (first | apply Kd.S_alloc | apply Kd.S_drewN | apply Kd.S_drew)); exact HO_147003.out)) (by decide) hg)
          replace BK138 := Aside0.mk (blk_grown (g := gb138) (o := .cells #[.int .i64 0, .int .i64 0, .slice none 0 0, .slice none 0 0, .slice none 0 0, .slice none 0 0] 53 (0, 0)) (bV BK138) hg (Kd.S_ne HO_147003.out BK138.out (by decide)))
          replace BK145 := Aside0.mk (blk_grown (g := gb145) (o := .cells #[.int .i64 t139, .int .i64 t140, .slice Ao10 t141.length co10] 48 (0, 0)) (bV BK145) hg (Kd.S_ne HO_147003.out BK145.out (by decide)))
          replace BK146 := Aside0.mk (blk_grown (g := gb146) (o := .cells #[.int .i64 t139, .int .i64 t140, .slice Ao10 t141.length co10, u147003, u147004, .slice none 0 0] 53 (0, 0)) (bV BK146) hg (Kd.S_ne HO_147003.out BK146.out (by decide)))
          replace HB := Aside0.mk hb
          have HO152 := Aside0.mk ho
          clear HO_147003 HO149
          clear ho hb hg hat
          obtain ⟨Ao29, co29, eo29⟩ := Kd.S_slice HO152.out
          (first | subst eo29 | (injection eo29 with f1_ f2_ f3_; have f4_ := f1_.symm; have f5_ := f3_.symm; clear f1_ f2_ f3_; subst f4_; subst f5_))
          refine hK.out _ _ ⟨cz BK146 0 _, cz BK146 1 _, cz BK146 2 _, cz BK146 3 _, cz BK146 4 _, cz BK146 5 _⟩ (fun hHeld => ?_)
          clear hK K
          refine norm_ (a' := ?_) ?_ ?_
          rotate_left
          ·show Act.put _ (some 27) _ = _
           simp only [Act.put, List.setIfInBounds_toArray, List.set_cons_zero, List.set_cons_succ, i64_w, i32_w]
           rfl
          refine pureA 6 28 (bz 8 127) rfl rfl (any_of HT_.out (by kernel_rfl)) ?_
          refine last_ (i := 7) (N := none) (bz 8 255) rfl rfl (one_of HT_.out (by kernel_rfl)) (by decide) (fun K hK => ?_)
          have hs30 : w27.cell? ⟨gb146, 3, none⟩ = some (u147003) := (blk_cell BK146.out 3).trans rfl
          have hfs30 := blk_frozen BK146.out 3
          have hns30_0 := NB138_146.out
          have hns30_1 := NB145_146.out
          have hms30_0 := NB146_138.out
          have hms30_1 := NB146_145.out
          refine skip_ (w1 := ?_) (by rfl) rfl ?_ ?_
          rotate_left
          ·go_simp
           rfl
          refine hK.out _ _ ?_
          clear hK K
          refine done_ (done_of HT_.out (by kernel_rfl)) ?_
          try go_wp2
          have n0_ : Aside0 (Kd.R k110 110 (w27.setCell ⟨gb146, 3, none⟩ (.slice Ao29 y150.length co29)) w.heap.size (fun _ => True) (.slice Ao10 t141.length co10) t141) := ⟨by (with_reducible repeat (first | apply Kd.R_alloc | apply Kd.R_drewN | apply Kd.R_drew)); exact Kd.R_mono (Kd.R_far (p := ⟨gb146, 3, none⟩) (Kd.R_types HO_146002.out BK146.out (by decide)) (fun _ hk => hk.2) (.slice Ao29 y150.length co29)) (fun _ hk => trivial)⟩
          have n1_ : Aside0 (Kd.R k110 110 (w27.setCell ⟨gb146, 3, none⟩ (.slice Ao29 y150.length co29)) w.heap.size (fun _ => True) (.slice Ao10 t141.length co10) t141) := ⟨by (with_reducible repeat (first | apply Kd.R_alloc | apply Kd.R_drewN | apply Kd.R_drew)); exact Kd.R_mono (Kd.R_far (p := ⟨gb146, 3, none⟩) (Kd.R_types HO_147002.out BK146.out (by decide)) (fun _ hk => hk.2) (.slice Ao29 y150.length co29)) (fun _ hk => trivial)⟩
          have n2_ : Aside0 (Kd.S (Kd.slice 4 Kd.bool) 87 (w27.setCell ⟨gb146, 3, none⟩ (.slice Ao29 y150.length co29)) w.heap.size (fun _ => True) u147004 x147004_1) := ⟨by (with_reducible repeat (first | apply Kd.S_alloc | apply Kd.S_drewN | apply Kd.S_drew)); exact Kd.S_mono (Kd.S_far (p := ⟨gb146, 3, none⟩) (Kd.S_types HO_147004.out BK146.out (by decide)) (fun _ hk => hk.2) (.slice Ao29 y150.length co29)) (fun _ hk => trivial)⟩
          have n3_ : Aside0 (Kd.S (Kd.slice 3 (Kd.int .i64)) 86 (w27.setCell ⟨gb146, 3, none⟩ (.slice Ao29 y150.length co29)) w.heap.size (fun _ => True) (.slice Ao29 y150.length co29) y150) := ⟨by (with_reducible repeat (first | apply Kd.S_alloc | apply Kd.S_drewN | apply Kd.S_drew)); exact Kd.S_mono (Kd.S_far (p := ⟨gb146, 3, none⟩) (Kd.S_types HO152.out BK146.out (by decide)) (fun _ hk => hk.2) (.slice Ao29 y150.length co29)) (fun _ hk => trivial)⟩
          have n4_ : Aside0 ((w27.setCell ⟨gb146, 3, none⟩ (.slice Ao29 y150.length co29)).heap[gb138]? = some (.cells #[.int .i64 0, .int .i64 0, .slice none 0 0, .slice none 0 0, .slice none 0 0, .slice none 0 0] 53 (0, 0))) := ⟨by refine bU ?_; refine blk_far ?_ NB138_146.out _; refine bU ?_; exact BK138.out⟩
          have n5_ : Aside0 ((w27.setCell ⟨gb146, 3, none⟩ (.slice Ao29 y150.length co29)).heap[gb145]? = some (.cells #[.int .i64 t139, .int .i64 t140, .slice Ao10 t141.length co10] 48 (0, 0))) := ⟨by refine bU ?_; refine blk_far ?_ NB145_146.out _; refine bU ?_; exact BK145.out⟩
          have n6_ : Aside0 ((w27.setCell ⟨gb146, 3, none⟩ (.slice Ao29 y150.length co29)).heap[gb146]? = some (.cells #[.int .i64 t139, .int .i64 t140, .slice Ao10 t141.length co10, .slice Ao29 y150.length co29, u147004, .slice none 0 0] 53 (0, 0))) := ⟨by refine bU ?_; refine blk_put (cs := #[.int .i64 t139, .int .i64 t140, .slice Ao10 t141.length co10, u147003, u147004, .slice none 0 0]) ?_ 3 _ rfl; refine bU ?_; exact BK146.out⟩
          have n7_ : Aside0 (Below w.heap.size w (w27.setCell ⟨gb146, 3, none⟩ (.slice Ao29 y150.length co29))) := ⟨by repeat (first | (with_reducible first | exact HB.out | apply below_alloc | apply pw_below_drewN | apply below_drew1 | refine below_set ?_ GE138.out | refine below_set ?_ GE145.out | refine below_set ?_ GE146.out) | exact HB.out)⟩
          (try clear HO_146002)
          (try clear HO_147002)
          (try clear HO_147004)
          (try clear HO152)
          (try clear BK138)
          (try clear BK145)
          (try clear BK146)
          (try clear HB)
          generalize (w27.setCell ⟨gb146, 3, none⟩ (.slice Ao29 y150.length co29)) = w31 at n0_ n1_ n2_ n3_ n4_ n5_ n6_ n7_ ⊢
          have HO_146002 := n0_
          have HO_147002 := n1_
          have HO_147004 := n2_
          have HO152 := n3_
          have BK138 := n4_
          have BK145 := n5_
          have BK146 := n6_
          have HB := n7_
          clear n0_ n1_ n2_ n3_ n4_ n5_ n6_ n7_
          replace HO_146002 := Aside0.mk (Kd.R_drew HO_146002.out)
          replace HO_147002 := Aside0.mk (Kd.R_drew HO_147002.out)
          replace HO_147004 := Aside0.mk (Kd.S_drew HO_147004.out)
          replace HO152 := Aside0.mk (Kd.S_drew HO152.out)
          replace BK138 := Aside0.mk (blk_drew BK138.out)
          replace BK145 := Aside0.mk (blk_drew BK145.out)
          replace BK146 := Aside0.mk (blk_drew BK146.out)
          replace HB := Aside0.mk (below_drew1 HB.out)
          refine start_ (n := 8) (S := fun w' => w'.cell? ⟨gb146, 0, none⟩ = some (.int .i64 t139) ∧ w'.cell? ⟨gb146, 1, none⟩ = some (.int .i64 t140) ∧ w'.cell? ⟨gb146, 2, none⟩ = some (.slice Ao10 t141.length co10) ∧ w'.cell? ⟨gb146, 3, none⟩ = some (.slice Ao29 y150.length co29) ∧ w'.cell? ⟨gb146, 4, none⟩ = some (u147004) ∧ w'.cell? ⟨gb146, 5, none⟩ = some (.slice none 0 0)) (ds := [7]) #[false, false, false, false, false, false, false, false] (by kernel_rfl) rfl rfl ⟨cz BK146 0 _, cz BK146 1 _, cz BK146 2 _, cz BK146 3 _, cz BK146 4 _, cz BK146 5 _⟩ (fun hHeld => ?_); refine with_tabW impl_NewPeer.tab8 impl_NewPeer.bits8 (fun HT_ HW_ => ?_)
          generalize w31.drew = w32 at HO_146002 HO_147002 HO_147004 HO152 BK138 BK145 BK146 HB hHeld ⊢
          refine pureA 0 29 (bz 8 1) rfl rfl (any_of HT_.out (by kernel_rfl)) ?_
          refine pureA 2 31 (bz 8 5) rfl rfl (any_of HT_.out (by kernel_rfl)) ?_
          refine takeA 1 30 (bz 8 7) rfl rfl (take_ofW HT_.out HW_.out (by kernel_rfl)) hHeld (by rintro w' ⟨s0, s1, s2, s3, s4, s5⟩; go_simp; with_reducible rfl) ?_
          refine one_ (i := 3) (N := some 32) (bz 8 15) rfl rfl (one_of HT_.out (by kernel_rfl)) (by decide) (fun K hK => ?_)
          refine Kd.R_make_step Kd.bool _ 4 (by rfl) (N := 32) rfl 87 _ _ rfl a0 rfl rfl Try.underlying87 (.bool false) 1 info4 rfl (by decide) (by omega) false (ok := fun _ => True) (okp := fun _ => True) rfl (fun _ hk => hk) trivial (of_decide_eq_true hE) (Nat.le_trans (Nat.mul_le_mul_right _ (of_decide_eq_true hE : a0.toNat ≤ 281474976710656)) (by omega)) (Below.refl _ _) (Nat.le_refl _) ?_
          intro v154 w33 ho34 hb hg_ hnew_
          clear hg_ hnew_
          (first | rw [← Ny153.out] at ho34 | (simp only [Int.reduceToNat] at ho34; rw [← Ny153.out] at ho34))
          replace HO_146002 := Aside0.mk (Kd.R_below (rU HO_146002.out) hb)
          replace HO_147002 := Aside0.mk (Kd.R_below (rU HO_147002.out) hb)
          replace HO_147004 := Aside0.mk (Kd.S_elder' (by (with_reducible repeat (first | apply Kd.S_alloc | apply Kd.S_drewN | apply Kd.S_drew)); exact HO_147004.out) (Kd.R_base ho34) hb)
          replace HO152 := Aside0.mk (Kd.S_below (by (with_reducible repeat (first | apply Kd.S_alloc | apply Kd.S_drewN | apply Kd.S_drew)); exact HO152.out) hb)
          have HO155 := Aside0.mk (Kd.R_lower ho34 (below_size (lV3 GE138 GE145 GE146)))
          replace BK138 := bB (bV BK138) hb
          replace BK145 := bB (bV BK145) hb
          replace BK146 := bB (bV BK146) hb
          replace HB := bH (lV3 GE138 GE145 GE146) hb
          clear hb ho34
          obtain ⟨Ao36, co36, eo36⟩ := Kd.R_slice HO155.out
          (first | subst eo36 | (injection eo36 with f1_ f2_ f3_; have f4_ := f1_.symm; have f5_ := f3_.symm; clear f1_ f2_ f3_; subst f4_; subst f5_))
          refine hK.out _ _ ⟨cz BK146 0 _, cz BK146 1 _, cz BK146 2 _, cz BK146 3 _, cz BK146 4 _, cz BK146 5 _⟩ (fun hHeld => ?_)
          clear hK K
          refine norm_ (a' := ?_) ?_ ?_
          rotate_left
          ·show Act.put _ (some 32) _ = _
           simp only [Act.put, List.setIfInBounds_toArray, List.set_cons_zero, List.set_cons_succ, i64_w, i32_w]
           rfl
          refine one_ (i := 4) (N := some 33) (bz 8 31) rfl rfl (one_of HT_.out (by kernel_rfl)) (by decide) (fun K hK => ?_)
          refine value_ (w1 := ?_) (v := ?_) (by rfl) rfl ?_ ?_
          rotate_left 2
          ·go_simp
           constructor
           ·rfl
           ·rfl
          refine hK.out _ _ ⟨(blk_cell (blk_alloc BK146.out _) 0).trans rfl, (blk_cell (blk_alloc BK146.out _) 1).trans rfl, (blk_cell (blk_alloc BK146.out _) 2).trans rfl, (blk_cell (blk_alloc BK146.out _) 3).trans rfl, (blk_cell (blk_alloc BK146.out _) 4).trans rfl, (blk_cell (blk_alloc BK146.out _) 5).trans rfl⟩ (fun hHeld => ?_)
          clear hK K
          refine norm_ (a' := ?_) ?_ ?_
          rotate_left
          ·show Act.put _ (some 33) _ = _
           simp only [Act.put, List.setIfInBounds_toArray, List.set_cons_zero, List.set_cons_succ, i64_w, i32_w]
           rfl
          refine one_ (i := 5) (N := some 34) (bz 8 63) rfl rfl (one_of HT_.out (by kernel_rfl)) (by decide) (fun K hK => ?_)
          refine Kd.S_append_step (Kd.slice 4 Kd.bool) (w0 := w) w.heap.size (by rfl) (.tmp 30) (.tmp 33) 50 87 (.slice none 0 0) 24 rfl Try.underlying50 info87 rfl (by decide) (by omega) u147004 x147004_1 y153 [.slice Ao36 y153.length co36] (fun _ => True) (fun k_ => some k_ = (.slice Ao36 y153.length co36 : Value).ownBlock) rfl rfl ?aP (fun k_ hk_ => ((Kd.R_mono (ok' := fun k_ => ((fun _ => True)) k_ ∧ some k_ ≠ (u147004 : Value).ownBlock) (Kd.R_apart' (HO155.out) (Kd.S_typed HO_147004.out) (by decide)) (fun k_ hk => ⟨trivial, hk.2⟩))).1 k_ hk_.symm) ?aF ?aO ?aB ?aS ?aL ?_
          (case aP => exact Kd.M_row (Kd.R_mono (Kd.R_tight rfl (Kd.R_mono (ok' := fun k_ => ((fun _ => True)) k_ ∧ some k_ ≠ (u147004 : Value).ownBlock) (Kd.R_apart' (HO155.out) (Kd.S_typed HO_147004.out) (by decide)) (fun k_ hk => ⟨trivial, hk.2⟩))) (fun _ h_ => h_)))
          (case aB => exact (lV3 GE138 GE145 GE146))
          (case aF => exact (fun _ _ => trivial))
          (case aO => exact (by (with_reducible repeat (first | apply Kd.S_alloc | apply Kd.S_drewN | apply Kd.S_drew)); exact Kd.S_mono HO_147004.out (fun k_ hk => ⟨trivial, fun e_ => hk.2 e_⟩)))
          (case aS => exact (below_size (lV3 GE138 GE145 GE146)))
          (case aL => have := LMc23.out; omega)
          intro v157 w35 ho hb hg hat
          rw [← Ny156.out] at ho
          replace HO_146002 := Aside0.mk (Kd.R_over' (rU HO_146002.out) (Kd.S_typed (by (with_reducible repeat (first | apply Kd.S_alloc | apply Kd.S_drewN | apply Kd.S_drew)); exact HO_147004.out)) (by decide) hg)
          replace HO_147002 := Aside0.mk (Kd.R_over' (rU HO_147002.out) (Kd.S_typed (by (with_reducible repeat (first | apply Kd.S_alloc | apply Kd.S_drewN | apply Kd.S_drew)); exact HO_147004.out)) (by decide) hg)
          replace BK138 := Aside0.mk (blk_grown (g := gb138) (o := .cells #[.int .i64 0, .int .i64 0, .slice none 0 0, .slice none 0 0, .slice none 0 0, .slice none 0 0] 53 (0, 0)) (bV BK138) hg (Kd.S_ne HO_147004.out BK138.out (by decide)))
          replace BK145 := Aside0.mk (blk_grown (g := gb145) (o := .cells #[.int .i64 t139, .int .i64 t140, .slice Ao10 t141.length co10] 48 (0, 0)) (bV BK145) hg (Kd.S_ne HO_147004.out BK145.out (by decide)))
          replace BK146 := Aside0.mk (blk_grown (g := gb146) (o := .cells #[.int .i64 t139, .int .i64 t140, .slice Ao10 t141.length co10, .slice Ao29 y150.length co29, u147004, .slice none 0 0] 53 (0, 0)) (bV BK146) hg (Kd.S_ne HO_147004.out BK146.out (by decide)))
          replace HO152 := Aside0.mk (Kd.S_over' (by (with_reducible repeat (first | apply Kd.S_alloc | apply Kd.S_drewN | apply Kd.S_drew)); exact HO152.out) (Kd.S_typed (by (with_reducible repeat (first | apply Kd.S_alloc | apply Kd.S_drewN | apply Kd.S_drew)); exact HO_147004.out)) (by decide) hg)
          replace HB := Aside0.mk hb
          have HO158 := Aside0.mk ho
          clear HO_147004 HO155
          clear ho hb hg hat
          obtain ⟨Ao37, co37, eo37⟩ := Kd.S_slice HO158.out
          (first | subst eo37 | (injection eo37 with f1_ f2_ f3_; have f4_ := f1_.symm; have f5_ := f3_.symm; clear f1_ f2_ f3_; subst f4_; subst f5_))
          refine hK.out _ _ ⟨cz BK146 0 _, cz BK146 1 _, cz BK146 2 _, cz BK146 3 _, cz BK146 4 _, cz BK146 5 _⟩ (fun hHeld => ?_)
          clear hK K
          refine norm_ (a' := ?_) ?_ ?_
          rotate_left
          ·show Act.put _ (some 34) _ = _
           simp only [Act.put, List.setIfInBounds_toArray, List.set_cons_zero, List.set_cons_succ, i64_w, i32_w]
           rfl
          refine pureA 6 35 (bz 8 127) rfl rfl (any_of HT_.out (by kernel_rfl)) ?_
          refine last_ (i := 7) (N := none) (bz 8 255) rfl rfl (one_of HT_.out (by kernel_rfl)) (by decide) (fun K hK => ?_)
          have hs38 : w35.cell? ⟨gb146, 4, none⟩ = some (u147004) := (blk_cell BK146.out 4).trans rfl
          have hfs38 := blk_frozen BK146.out 4
          have hns38_0 := NB138_146.out
          have hns38_1 := NB145_146.out
          have hms38_0 := NB146_138.out
          have hms38_1 := NB146_145.out
          refine skip_ (w1 := ?_) (by rfl) rfl ?_ ?_
          rotate_left
          ·go_simp
           rfl
          refine hK.out _ _ ?_
          clear hK K
          refine done_ (done_of HT_.out (by kernel_rfl)) ?_
          try go_wp2
          go_roundg k1
          case measure => have := HK1.out; omega
          case rel => exact ⟨(wrap64 (x20_1 + 1)), (y150), (y156), (.slice Ao29 y150.length co29), (.slice Ao37 y156.length co37), tE, H', ⟨by have := HK1.out; omega⟩, ⟨by (with_reducible repeat (first | apply Kd.R_alloc | apply Kd.R_drewN | apply Kd.R_drew)); exact Kd.R_mono (Kd.R_far (p := ⟨gb146, 4, none⟩) (Kd.R_types HO_146002.out BK146.out (by decide)) (fun _ hk => hk.2) (.slice Ao37 y156.length co37)) (fun _ hk => trivial)⟩, ⟨by (with_reducible repeat (first | apply Kd.R_alloc | apply Kd.R_drewN | apply Kd.R_drew)); exact Kd.R_mono (Kd.R_far (p := ⟨gb146, 4, none⟩) (Kd.R_types HO_147002.out BK146.out (by decide)) (fun _ hk => hk.2) (.slice Ao37 y156.length co37)) (fun _ hk => trivial)⟩, ⟨by (with_reducible repeat (first | apply Kd.S_alloc | apply Kd.S_drewN | apply Kd.S_drew)); exact Kd.S_mono (Kd.S_far (p := ⟨gb146, 4, none⟩) (Kd.S_types HO152.out BK146.out (by decide)) (fun _ hk => hk.2) (.slice Ao37 y156.length co37)) (fun _ hk => trivial)⟩, ⟨by (with_reducible repeat (first | apply Kd.S_alloc | apply Kd.S_drewN | apply Kd.S_drew)); exact Kd.S_mono (Kd.S_far (p := ⟨gb146, 4, none⟩) (Kd.S_types HO158.out BK146.out (by decide)) (fun _ hk => hk.2) (.slice Ao37 y156.length co37)) (fun _ hk => trivial)⟩, ⟨by refine bU ?_; refine blk_far ?_ NB138_146.out _; refine bU ?_; exact BK138.out⟩, ⟨by refine bU ?_; refine blk_far ?_ NB145_146.out _; refine bU ?_; exact BK145.out⟩, ⟨by refine bU ?_; refine blk_put (cs := #[.int .i64 t139, .int .i64 t140, .slice Ao10 t141.length co10, .slice Ao29 y150.length co29, u147004, .slice none 0 0]) ?_ 4 _ rfl; refine bU ?_; exact BK146.out⟩, ⟨by repeat (first | (with_reducible first | exact HB.out | apply below_alloc | apply pw_below_drewN | apply below_drew1 | refine below_set ?_ GE138.out | refine below_set ?_ GE145.out | refine below_set ?_ GE146.out) | exact HB.out)⟩⟩
         ·rw [if_neg c23] at H
          exact absurd H (by simp)
        ·rw [if_neg c22] at H
         exact absurd H (by simp)
       ·rw [if_neg c21] at H
        exact absurd H (by simp)
      ·rw [if_neg c20] at H
       exact absurd H (by simp)
     ·rw [if_neg c19] at H
      exact absurd H (by simp)
    ·rw [if_neg c18] at H
     have c18b0 : decide (x20_1 < 60) = false := decide_eq_false c18
     clear c18
     simp only [Option.some.injEq, Prod.mk.injEq] at H
     obtain ⟨rfl, rfl, rfl, rfl, rfl, rfl, rfl⟩ := H
     have hnb39 := NB146_138.out
     have hnc39 := NB138_146.out
     have hnb40 := NB146_145.out
     have hnc40 := NB145_146.out
     have hcz41_0 := cz BK146 0 (.int .i64 t139)
     have hcz41_1 := cz BK146 1 (.int .i64 t140)
     have hcz41_2 := cz BK146 2 (.slice Ao10 t141.length co10)
     have hcz41_3 := cz BK146 3 (u147003)
     have hcz41_4 := cz BK146 4 (u147004)
     have hcz41_5 := cz BK146 5 (.slice none 0 0)
     have hfz41_0 := fz BK146 0
     have hfz41_1 := fz BK146 1
     have hfz41_2 := fz BK146 2
     have hfz41_3 := fz BK146 3
     have hfz41_4 := fz BK146 4
     have hfz41_5 := fz BK146 5
     have hnb42 := NB138_145.out
     have hnc42 := NB145_138.out
     have hcz43_0 := cz BK138 0 (.int .i64 0)
     have hcz43_1 := cz BK138 1 (.int .i64 0)
     have hcz43_2 := cz BK138 2 (.slice none 0 0)
     have hcz43_3 := cz BK138 3 (.slice none 0 0)
     have hcz43_4 := cz BK138 4 (.slice none 0 0)
     have hcz43_5 := cz BK138 5 (.slice none 0 0)
     have hfz43_0 := fz BK138 0
     have hfz43_1 := fz BK138 1
     have hfz43_2 := fz BK138 2
     have hfz43_3 := fz BK138 3
     have hfz43_4 := fz BK138 4
     have hfz43_5 := fz BK138 5
     obtain ⟨Ao44, co44, eo44⟩ := Kd.S_slice HO_147003.out
     subst eo44
     obtain ⟨Ao45, co45, eo45⟩ := Kd.S_slice HO_147004.out
     subst eo45
     go_wp2_with (first | ((with_reducible refine gate_store (t := 53) (p := 4) rfl ?_); refine store_event (t := 53) (p := 4) (v := ?vo_w46) (w1 := ((((((wr.setCell ⟨gb138, 0, none⟩ (.int .i64 t139)).setCell ⟨gb138, 1, none⟩ (.int .i64 t140)).setCell ⟨gb138, 2, none⟩ (.slice Ao10 t141.length co10)).setCell ⟨gb138, 3, none⟩ (.slice Ao44 x147003_1.length co44)).setCell ⟨gb138, 4, none⟩ (.slice Ao45 x147004_1.length co45)).setCell ⟨gb138, 5, none⟩ (.slice none 0 0))) ?hg ?ho ?hn ?hr ?_; (case ho => rfl); (case hg => rfl); (case hn => rfl); (case hr => first | (go_simp; done) | (go_simp; rfl) | (have hq0_ := (blk_cell BK138.out 0).trans (show _ = some _ from rfl); have hf0_ := blk_frozen BK138.out 0; have hq1_ := (blk_cell BK138.out 1).trans (show _ = some _ from rfl); have hf1_ := blk_frozen BK138.out 1; have hq2_ := (blk_cell BK138.out 2).trans (show _ = some _ from rfl); have hf2_ := blk_frozen BK138.out 2; have hq3_ := (blk_cell BK138.out 3).trans (show _ = some _ from rfl); have hf3_ := blk_frozen BK138.out 3; have hq4_ := (blk_cell BK138.out 4).trans (show _ = some _ from rfl); have hf4_ := blk_frozen BK138.out 4; have hq5_ := (blk_cell BK138.out 5).trans (show _ = some _ from rfl); have hf5_ := blk_frozen BK138.out 5; first | (go_simp; done) | (go_simp; rfl))); intro w46 hw; replace HO_146002 : Aside0 (Kd.R k110 110 w46 w.heap.size (fun _ => True) (.slice Ao10 t141.length co10) t141) := ⟨(by rw [hw]; exact (by (with_reducible repeat (first | apply Kd.R_alloc | apply Kd.R_drewN | apply Kd.R_drew)); exact Kd.R_mono (Kd.R_far (p := ⟨gb138, 5, none⟩) (Kd.R_far (p := ⟨gb138, 4, none⟩) (Kd.R_far (p := ⟨gb138, 3, none⟩) (Kd.R_far (p := ⟨gb138, 2, none⟩) (Kd.R_far (p := ⟨gb138, 1, none⟩) (Kd.R_far (p := ⟨gb138, 0, none⟩) (Kd.R_types HO_146002.out BK138.out (by decide)) (fun _ hk => hk.2) (.int .i64 t139)) (fun _ hk => hk.2) (.int .i64 t140)) (fun _ hk => hk.2) (.slice Ao10 t141.length co10)) (fun _ hk => hk.2) (.slice Ao44 x147003_1.length co44)) (fun _ hk => hk.2) (.slice Ao45 x147004_1.length co45)) (fun _ hk => hk.2) (.slice none 0 0)) (fun _ hk => trivial)))⟩; replace HO_147002 : Aside0 (Kd.R k110 110 w46 w.heap.size (fun _ => True) (.slice Ao10 t141.length co10) t141) := ⟨(by rw [hw]; exact (by (with_reducible repeat (first | apply Kd.R_alloc | apply Kd.R_drewN | apply Kd.R_drew)); exact Kd.R_mono (Kd.R_far (p := ⟨gb138, 5, none⟩) (Kd.R_far (p := ⟨gb138, 4, none⟩) (Kd.R_far (p := ⟨gb138, 3, none⟩) (Kd.R_far (p := ⟨gb138, 2, none⟩) (Kd.R_far (p := ⟨gb138, 1, none⟩) (Kd.R_far (p := ⟨gb138, 0, none⟩) (Kd.R_types HO_147002.out BK138.out (by decide)) (fun _ hk => hk.2) (.int .i64 t139)) (fun _ hk => hk.2) (.int .i64 t140)) (fun _ hk => hk.2) (.slice Ao10 t141.length co10)) (fun _ hk => hk.2) (.slice Ao44 x147003_1.length co44)) (fun _ hk => hk.2) (.slice Ao45 x147004_1.length co45)) (fun _ hk => hk.2) (.slice none 0 0)) (fun _ hk => trivial)))⟩; replace HO_147003 : Aside0 (Kd.S (Kd.slice 3 (Kd.int .i64)) 86 w46 w.heap.size (fun _ => True) (.slice Ao44 x147003_1.length co44) x147003_1) := ⟨(by rw [hw]; exact (by (with_reducible repeat (first | apply Kd.S_alloc | apply Kd.S_drewN | apply Kd.S_drew)); exact Kd.S_mono (Kd.S_far (p := ⟨gb138, 5, none⟩) (Kd.S_far (p := ⟨gb138, 4, none⟩) (Kd.S_far (p := ⟨gb138, 3, none⟩) (Kd.S_far (p := ⟨gb138, 2, none⟩) (Kd.S_far (p := ⟨gb138, 1, none⟩) (Kd.S_far (p := ⟨gb138, 0, none⟩) (Kd.S_types HO_147003.out BK138.out (by decide)) (fun _ hk => hk.2) (.int .i64 t139)) (fun _ hk => hk.2) (.int .i64 t140)) (fun _ hk => hk.2) (.slice Ao10 t141.length co10)) (fun _ hk => hk.2) (.slice Ao44 x147003_1.length co44)) (fun _ hk => hk.2) (.slice Ao45 x147004_1.length co45)) (fun _ hk => hk.2) (.slice none 0 0)) (fun _ hk => trivial)))⟩; replace HO_147004 : Aside0 (Kd.S (Kd.slice 4 Kd.bool) 87 w46 w.heap.size (fun _ => True) (.slice Ao45 x147004_1.length co45) x147004_1) := ⟨(by rw [hw]; exact (by (with_reducible repeat (first | apply Kd.S_alloc | apply Kd.S_drewN | apply Kd.S_drew)); exact Kd.S_mono (Kd.S_far (p := ⟨gb138, 5, none⟩) (Kd.S_far (p := ⟨gb138, 4, none⟩) (Kd.S_far (p := ⟨gb138, 3, none⟩) (Kd.S_far (p := ⟨gb138, 2, none⟩) (Kd.S_far (p := ⟨gb138, 1, none⟩) (Kd.S_far (p := ⟨gb138, 0, none⟩) (Kd.S_types HO_147004.out BK138.out (by decide)) (fun _ hk => hk.2) (.int .i64 t139)) (fun _ hk => hk.2) (.int .i64 t140)) (fun _ hk => hk.2) (.slice Ao10 t141.length co10)) (fun _ hk => hk.2) (.slice Ao44 x147003_1.length co44)) (fun _ hk => hk.2) (.slice Ao45 x147004_1.length co45)) (fun _ hk => hk.2) (.slice none 0 0)) (fun _ hk => trivial)))⟩; replace BK138 : Aside0 (w46.heap[gb138]? = some (.cells #[.int .i64 t139, .int .i64 t140, .slice Ao10 t141.length co10, .slice Ao44 x147003_1.length co44, .slice Ao45 x147004_1.length co45, .slice none 0 0] 53 (0, 0))) := ⟨(by rw [hw]; exact (by refine bU ?_; refine blk_put (cs := #[.int .i64 t139, .int .i64 t140, .slice Ao10 t141.length co10, .slice Ao44 x147003_1.length co44, .slice Ao45 x147004_1.length co45, .slice none 0 0]) ?_ 5 _ rfl; refine bU ?_; refine blk_put (cs := #[.int .i64 t139, .int .i64 t140, .slice Ao10 t141.length co10, .slice Ao44 x147003_1.length co44, .slice none 0 0, .slice none 0 0]) ?_ 4 _ rfl; refine bU ?_; refine blk_put (cs := #[.int .i64 t139, .int .i64 t140, .slice Ao10 t141.length co10, .slice none 0 0, .slice none 0 0, .slice none 0 0]) ?_ 3 _ rfl; refine bU ?_; refine blk_put (cs := #[.int .i64 t139, .int .i64 t140, .slice none 0 0, .slice none 0 0, .slice none 0 0, .slice none 0 0]) ?_ 2 _ rfl; refine bU ?_; refine blk_put (cs := #[.int .i64 t139, .int .i64 0, .slice none 0 0, .slice none 0 0, .slice none 0 0, .slice none 0 0]) ?_ 1 _ rfl; refine bU ?_; refine blk_put (cs := #[.int .i64 0, .int .i64 0, .slice none 0 0, .slice none 0 0, .slice none 0 0, .slice none 0 0]) ?_ 0 _ rfl; refine bU ?_; exact BK138.out))⟩; replace BK145 : Aside0 (w46.heap[gb145]? = some (.cells #[.int .i64 t139, .int .i64 t140, .slice Ao10 t141.length co10] 48 (0, 0))) := ⟨(by rw [hw]; exact (bG NB145_138 BK145))⟩; replace BK146 : Aside0 (w46.heap[gb146]? = some (.cells #[.int .i64 t139, .int .i64 t140, .slice Ao10 t141.length co10, .slice Ao44 x147003_1.length co44, .slice Ao45 x147004_1.length co45, .slice none 0 0] 53 (0, 0))) := ⟨(by rw [hw]; exact (bG NB146_138 BK146))⟩; replace HB : Aside0 (Below w.heap.size w w46) := ⟨(by rw [hw]; exact (lV3 GE138 GE145 GE146))⟩; clear hw))
     refine bodyPost_ret (results_ct rfl _ _ gb138 53 #[.int .i64 t139, .int .i64 t140, .slice Ao10 t141.length co10, .slice Ao44 x147003_1.length co44, .slice Ao45 x147004_1.length co45, .slice none 0 0] (0, 0) _ rfl (bV BK138) Try.underlying53 rfl (by kernel_rfl)) rfl ?_
     exact ⟨_, _, _, _, eE, by (with_reducible repeat (first | apply Kd.R_alloc | apply Kd.R_drewN | apply Kd.R_drew)); exact HO_147002.out, by (with_reducible repeat (first | apply Kd.S_alloc | apply Kd.S_drewN | apply Kd.S_drew)); exact HO_147003.out, by (with_reducible repeat (first | apply Kd.S_alloc | apply Kd.S_drewN | apply Kd.S_drew)); exact HO_147004.out, by first | exact Kd.S_nil _ _ _ _ _ | exact Kd.N_nil _ _ _ _ _ | exact Kd.V_nil _ _ _ _ _ | exact Kd.Q_nil _ _ _ _ _ | exact Kd.R_nil _ _ _ _ _, lV3 GE138 GE145 GE146⟩
 ·replace c4 := Bool.eq_false_iff.mpr c4
  subst c4
  have H1 : (some (0, 0, ([] : List (S110)), ([] : List (List Int)), ([] : List (List Bool)), ([] : List (S48)), false)) = some (r1, r2, r3, r4, r5, r6, r7) := by rw [if_neg (show ¬ (false = true) by decide)] at H; exact H
  clear H
  have H := H1
  clear H1
  simp only [Option.some.injEq, Prod.mk.injEq] at H
  obtain ⟨rfl, rfl, rfl, rfl, rfl, rfl, rfl⟩ := H
  go_enter Try.func24, Try.ntmps24
  go_wp2_with (first | ((with_reducible refine gate_dst (N := 4) rfl ?_); refine box_event rfl (N := 4) rfl (cs := #[.int .i64 0, .int .i64 0, .slice none 0 0, .slice none 0 0, .slice none 0 0, .slice none 0 0]) (t := 53) sE ?_; intro gb138 hg w47 hbox hb; have BK138 := Aside0.mk hbox; have GW138 := gS w hg (lU); have GE138 := gS w hg (lU); replace HB := bH (lU) hb; clear hb hbox hg) | ((with_reducible refine gate_callee (f := 53) rfl ?_); refine goesL_ (some 12) rfl rfl Try.func53 (by kernel_rfl) rfl #[.int .i64 a0, .int .i64 a1] rfl aE ?_; (with_reducible refine (impl_StartGame.calls k a0 a1 t139 t140 t141 false _ A3.out).mono ?_); rintro e w48 ⟨v142, rfl, ho0, hb⟩; refine ⟨_, rfl, ?_⟩; have HO143 := Aside0.mk (Kd.R_lower ho0 (below_size (lV1 GE138))); replace BK138 := bB (bV BK138) hb; replace HB := bH (lV1 GE138) hb; (try clear hb); (try clear ho0)) | ((with_reducible refine gate_dst (N := 6) rfl ?_); refine box_event rfl (N := 6) rfl (cs := #[.int .i64 0, .int .i64 0, .slice none 0 0]) (t := 48) sE ?_; intro gb145 hg w49 hbox hb; replace HO143 := Aside0.mk (Kd.R_below (rU HO143.out) hb); have BK145 := Aside0.mk hbox; have GW145 := gS w hg (lV1 GE138); have GE145 := gS w hg (lV1 GE138); replace HB := bH (lV1 GE138) hb; have NB138_145 := nL hg (bV BK138); have NB145_138 := nG hg (bV BK138); replace BK138 := bB (bV BK138) hb; clear hb hbox hg; have hnb50 := NB145_138.out; have hnc50 := NB138_145.out; have hcz51_0 := cz BK145 0 (.int .i64 0); have hcz51_1 := cz BK145 1 (.int .i64 0); have hcz51_2 := cz BK145 2 (.slice none 0 0); have hfz51_0 := fz BK145 0; have hfz51_1 := fz BK145 1; have hfz51_2 := fz BK145 2; obtain ⟨Ao52, co52, eo52⟩ := Kd.R_slice HO143.out; subst eo52) | ((with_reducible refine gate_store (t := 48) (p := 6) rfl ?_); refine store_event (t := 48) (p := 6) (v := ?vo_w53) (w1 := (((w49.setCell ⟨gb145, 0, none⟩ (.int .i64 t139)).setCell ⟨gb145, 1, none⟩ (.int .i64 t140)).setCell ⟨gb145, 2, none⟩ (.slice Ao52 t141.length co52))) ?hg ?ho ?hn ?hr ?_; (case ho => rfl); (case hg => rfl); (case hn => rfl); (case hr => first | (go_simp; done) | (go_simp; rfl) | (have hq0_ := (blk_cell BK145.out 0).trans (show _ = some _ from rfl); have hf0_ := blk_frozen BK145.out 0; have hq1_ := (blk_cell BK145.out 1).trans (show _ = some _ from rfl); have hf1_ := blk_frozen BK145.out 1; have hq2_ := (blk_cell BK145.out 2).trans (show _ = some _ from rfl); have hf2_ := blk_frozen BK145.out 2; first | (go_simp; done) | (go_simp; rfl))); intro w53 hw; replace HO143 : Aside0 (Kd.R k110 110 w53 w.heap.size (fun _ => True) (.slice Ao52 t141.length co52) t141) := ⟨(by rw [hw]; exact (by (with_reducible repeat (first | apply Kd.R_alloc | apply Kd.R_drewN | apply Kd.R_drew)); exact Kd.R_mono (Kd.R_far (p := ⟨gb145, 2, none⟩) (Kd.R_far (p := ⟨gb145, 1, none⟩) (Kd.R_far (p := ⟨gb145, 0, none⟩) (Kd.R_types HO143.out BK145.out (by decide)) (fun _ hk => hk.2) (.int .i64 t139)) (fun _ hk => hk.2) (.int .i64 t140)) (fun _ hk => hk.2) (.slice Ao52 t141.length co52)) (fun _ hk => trivial)))⟩; replace BK138 : Aside0 (w53.heap[gb138]? = some (.cells #[.int .i64 0, .int .i64 0, .slice none 0 0, .slice none 0 0, .slice none 0 0, .slice none 0 0] 53 (0, 0))) := ⟨(by rw [hw]; exact (bG NB138_145 BK138))⟩; replace BK145 : Aside0 (w53.heap[gb145]? = some (.cells #[.int .i64 t139, .int .i64 t140, .slice Ao52 t141.length co52] 48 (0, 0))) := ⟨(by rw [hw]; exact (by refine bU ?_; refine blk_put (cs := #[.int .i64 t139, .int .i64 t140, .slice none 0 0]) ?_ 2 _ rfl; refine bU ?_; refine blk_put (cs := #[.int .i64 t139, .int .i64 0, .slice none 0 0]) ?_ 1 _ rfl; refine bU ?_; refine blk_put (cs := #[.int .i64 0, .int .i64 0, .slice none 0 0]) ?_ 0 _ rfl; refine bU ?_; exact BK145.out))⟩; replace HB : Aside0 (Below w.heap.size w w53) := ⟨(by rw [hw]; exact (lV2 GE138 GE145))⟩; clear hw; have hcz54_0 := cz BK138 0 (.int .i64 0); have hcz54_1 := cz BK138 1 (.int .i64 0); have hcz54_2 := cz BK138 2 (.slice none 0 0); have hcz54_3 := cz BK138 3 (.slice none 0 0); have hcz54_4 := cz BK138 4 (.slice none 0 0); have hcz54_5 := cz BK138 5 (.slice none 0 0); have hfz54_0 := fz BK138 0; have hfz54_1 := fz BK138 1; have hfz54_2 := fz BK138 2; have hfz54_3 := fz BK138 3; have hfz54_4 := fz BK138 4; have hfz54_5 := fz BK138 5) | ((with_reducible refine gate_store (t := 53) (p := 4) rfl ?_); refine store_event (t := 53) (p := 4) (v := ?vo_w55) (w1 := ((((((w53.setCell ⟨gb138, 0, none⟩ (.int .i64 0)).setCell ⟨gb138, 1, none⟩ (.int .i64 0)).setCell ⟨gb138, 2, none⟩ (.slice none 0 0)).setCell ⟨gb138, 3, none⟩ (.slice none 0 0)).setCell ⟨gb138, 4, none⟩ (.slice none 0 0)).setCell ⟨gb138, 5, none⟩ (.slice none 0 0))) ?hg ?ho ?hn ?hr ?_; (case ho => rfl); (case hg => rfl); (case hn => rfl); (case hr => first | (go_simp; done) | (go_simp; rfl) | (have hq0_ := (blk_cell BK138.out 0).trans (show _ = some _ from rfl); have hf0_ := blk_frozen BK138.out 0; have hq1_ := (blk_cell BK138.out 1).trans (show _ = some _ from rfl); have hf1_ := blk_frozen BK138.out 1; have hq2_ := (blk_cell BK138.out 2).trans (show _ = some _ from rfl); have hf2_ := blk_frozen BK138.out 2; have hq3_ := (blk_cell BK138.out 3).trans (show _ = some _ from rfl); have hf3_ := blk_frozen BK138.out 3; have hq4_ := (blk_cell BK138.out 4).trans (show _ = some _ from rfl); have hf4_ := blk_frozen BK138.out 4; have hq5_ := (blk_cell BK138.out 5).trans (show _ = some _ from rfl); have hf5_ := blk_frozen BK138.out 5; first | (go_simp; done) | (go_simp; rfl))); intro w55 hw; replace HO143 : Aside0 (Kd.R k110 110 w55 w.heap.size (fun _ => True) (.slice Ao52 t141.length co52) t141) := ⟨(by rw [hw]; exact (by (with_reducible repeat (first | apply Kd.R_alloc | apply Kd.R_drewN | apply Kd.R_drew)); exact Kd.R_mono (Kd.R_far (p := ⟨gb138, 5, none⟩) (Kd.R_far (p := ⟨gb138, 4, none⟩) (Kd.R_far (p := ⟨gb138, 3, none⟩) (Kd.R_far (p := ⟨gb138, 2, none⟩) (Kd.R_far (p := ⟨gb138, 1, none⟩) (Kd.R_far (p := ⟨gb138, 0, none⟩) (Kd.R_types HO143.out BK138.out (by decide)) (fun _ hk => hk.2) (.int .i64 0)) (fun _ hk => hk.2) (.int .i64 0)) (fun _ hk => hk.2) (.slice none 0 0)) (fun _ hk => hk.2) (.slice none 0 0)) (fun _ hk => hk.2) (.slice none 0 0)) (fun _ hk => hk.2) (.slice none 0 0)) (fun _ hk => trivial)))⟩; replace BK138 : Aside0 (w55.heap[gb138]? = some (.cells #[.int .i64 0, .int .i64 0, .slice none 0 0, .slice none 0 0, .slice none 0 0, .slice none 0 0] 53 (0, 0))) := ⟨(by rw [hw]; exact (by refine bU ?_; refine blk_put (cs := #[.int .i64 0, .int .i64 0, .slice none 0 0, .slice none 0 0, .slice none 0 0, .slice none 0 0]) ?_ 5 _ rfl; refine bU ?_; refine blk_put (cs := #[.int .i64 0, .int .i64 0, .slice none 0 0, .slice none 0 0, .slice none 0 0, .slice none 0 0]) ?_ 4 _ rfl; refine bU ?_; refine blk_put (cs := #[.int .i64 0, .int .i64 0, .slice none 0 0, .slice none 0 0, .slice none 0 0, .slice none 0 0]) ?_ 3 _ rfl; refine bU ?_; refine blk_put (cs := #[.int .i64 0, .int .i64 0, .slice none 0 0, .slice none 0 0, .slice none 0 0, .slice none 0 0]) ?_ 2 _ rfl; refine bU ?_; refine blk_put (cs := #[.int .i64 0, .int .i64 0, .slice none 0 0, .slice none 0 0, .slice none 0 0, .slice none 0 0]) ?_ 1 _ rfl; refine bU ?_; refine blk_put (cs := #[.int .i64 0, .int .i64 0, .slice none 0 0, .slice none 0 0, .slice none 0 0, .slice none 0 0]) ?_ 0 _ rfl; refine bU ?_; exact BK138.out))⟩; replace BK145 : Aside0 (w55.heap[gb145]? = some (.cells #[.int .i64 t139, .int .i64 t140, .slice Ao52 t141.length co52] 48 (0, 0))) := ⟨(by rw [hw]; exact (bG NB145_138 BK145))⟩; replace HB : Aside0 (Below w.heap.size w w55) := ⟨(by rw [hw]; exact (lV2 GE138 GE145))⟩; clear hw))
  refine bodyPost_ret (results_ct rfl _ _ gb138 53 #[.int .i64 0, .int .i64 0, .slice none 0 0, .slice none 0 0, .slice none 0 0, .slice none 0 0] (0, 0) _ rfl (bV BK138) Try.underlying53 rfl (by kernel_rfl)) rfl ?_
  exact ⟨_, _, _, _, eE, by first | exact Kd.R_nil _ _ _ _ _ | exact Kd.N_nil _ _ _ _ _ | exact Kd.V_nil _ _ _ _ _ | exact Kd.Q_nil _ _ _ _ _ | exact Kd.S_nil _ _ _ _ _, by first | exact Kd.S_nil _ _ _ _ _ | exact Kd.N_nil _ _ _ _ _ | exact Kd.V_nil _ _ _ _ _ | exact Kd.Q_nil _ _ _ _ _ | exact Kd.R_nil _ _ _ _ _, by first | exact Kd.S_nil _ _ _ _ _ | exact Kd.N_nil _ _ _ _ _ | exact Kd.V_nil _ _ _ _ _ | exact Kd.Q_nil _ _ _ _ _ | exact Kd.R_nil _ _ _ _ _, by first | exact Kd.S_nil _ _ _ _ _ | exact Kd.N_nil _ _ _ _ _ | exact Kd.V_nil _ _ _ _ _ | exact Kd.Q_nil _ _ _ _ _ | exact Kd.R_nil _ _ _ _ _, lV2 GE138 GE145⟩
end Go.Proofs.Ytifejplilaefiaa.PFnExactNewPeer
namespace Go.Proofs.Ytifejplilaefiaa.PFnExactNewPeer
open Go.RowKit Go.Proofs.YtifejplilaefiaaW.PrintWords Go.Proofs.YtifejplilaefiaaW.PrintLast Go.Proofs.YtifejplilaefiaaW.PrintMore
attribute [local go_sem] max2_int min2_int max_two min_two max_three min_three max_four min_four   -- for this text's walks alone
set_option linter.unusedVariables false
set_option linter.unusedSimpArgs false
def laws_eqSeat.f (a0_0 : Int) (a0_1 : Int) (a0_2 : Int) (a1_0 : Int) (a1_1 : Int) (a1_2 : Int) : Option (Bool) := if a0_0 = a1_0 then (if a0_1 = a1_1 then (if a0_2 = a1_2 then (some true) else (some false)) else (some false)) else (some false)
set_option maxHeartbeats 8000000 in
set_option maxRecDepth 100000 in
theorem laws_eqSeat.calls (a0_0 : Int) (a0_1 : Int) (a0_2 : Int) (a1_0 : Int) (a1_1 : Int) (a1_2 : Int) (r : Bool) (w : World) (h : laws_eqSeat.f a0_0 a0_1 a0_2 a1_0 a1_1 a1_2 = some r) :
  Calls Try.prog 98 #[.agg #[.int .i64 a0_0, .int .i64 a0_1, .int .i64 a0_2], .agg #[.int .i64 a1_0, .int .i64 a1_1, .int .i64 a1_2]] w fun e w' => e = .returned (.bool r) ∧ Below w.heap.size w w' := by
 have hu110 := Try.underlying110
 have HB := Aside0.mk (Below.refl w.heap.size w)
 have H : (if a0_0 = a1_0 then (if a0_1 = a1_1 then (if a0_2 = a1_2 then (some true) else (some false)) else (some false)) else (some false)) = some r := h
 clear h
 by_cases c3 : a0_0 = a1_0
 ·rw [if_pos c3] at H
  have c3b0 : (a0_0 == a1_0) = true := beq_iff_eq.mpr c3
  have c3b1 : (a0_0 != a1_0) = false := bne_eq_false_iff_eq.mpr c3
  clear c3
  by_cases c4 : a0_1 = a1_1
  ·rw [if_pos c4] at H
   have c4b0 : (a0_1 == a1_1) = true := beq_iff_eq.mpr c4
   have c4b1 : (a0_1 != a1_1) = false := bne_eq_false_iff_eq.mpr c4
   clear c4
   by_cases c5 : a0_2 = a1_2
   ·rw [if_pos c5] at H
    have c5b0 : (a0_2 == a1_2) = true := beq_iff_eq.mpr c5
    have c5b1 : (a0_2 != a1_2) = false := bne_eq_false_iff_eq.mpr c5
    clear c5
    obtain rfl := Option.some.inj H
    go_enter Try.func98, Try.ntmps98
    go_wp2_with (first | ((with_reducible refine gate_dst (N := 2) rfl ?_); refine box_event rfl (N := 2) rfl (cs := #[.int .i64 a0_0, .int .i64 a0_1, .int .i64 a0_2]) (t := 110) sE ?_; intro gb159 hg w6 hbox hb; have BK159 := Aside0.mk hbox; have GW159 := gS w hg (lU); have GE159 := gS w hg (lU); replace HB := bH (lU) hb; clear hb hbox hg) | ((with_reducible refine gate_dst (N := 3) rfl ?_); refine box_event rfl (N := 3) rfl (cs := #[.int .i64 a1_0, .int .i64 a1_1, .int .i64 a1_2]) (t := 110) sE ?_; intro gb160 hg w7 hbox hb; have BK160 := Aside0.mk hbox; have GW160 := gS w hg (lV1 GE159); have GE160 := gS w hg (lV1 GE159); replace HB := bH (lV1 GE159) hb; have NB159_160 := nL hg (bV BK159); have NB160_159 := nG hg (bV BK159); replace BK159 := bB (bV BK159) hb; clear hb hbox hg; have hnb8 := NB159_160.out; have hnc8 := NB160_159.out; have hcz9_0 := cz BK159 0 (.int .i64 a0_0); have hcz9_1 := cz BK159 1 (.int .i64 a0_1); have hcz9_2 := cz BK159 2 (.int .i64 a0_2); have hfz9_0 := fz BK159 0; have hfz9_1 := fz BK159 1; have hfz9_2 := fz BK159 2; have hcz10_0 := cz BK160 0 (.int .i64 a1_0); have hcz10_1 := cz BK160 1 (.int .i64 a1_1); have hcz10_2 := cz BK160 2 (.int .i64 a1_2); have hfz10_0 := fz BK160 0; have hfz10_1 := fz BK160 1; have hfz10_2 := fz BK160 2))
    go_ret
    exact ⟨eE, lV2 GE159 GE160⟩
   ·rw [if_neg c5] at H
    have c5b0 : (a0_2 == a1_2) = false := beq_eq_false_iff_ne.mpr c5
    have c5b1 : (a0_2 != a1_2) = true := bne_iff_ne.mpr c5
    obtain rfl := Option.some.inj H
    go_enter Try.func98, Try.ntmps98
    go_wp2_with (first | ((with_reducible refine gate_dst (N := 2) rfl ?_); refine box_event rfl (N := 2) rfl (cs := #[.int .i64 a0_0, .int .i64 a0_1, .int .i64 a0_2]) (t := 110) sE ?_; intro gb159 hg w11 hbox hb; have BK159 := Aside0.mk hbox; have GW159 := gS w hg (lU); have GE159 := gS w hg (lU); replace HB := bH (lU) hb; clear hb hbox hg) | ((with_reducible refine gate_dst (N := 3) rfl ?_); refine box_event rfl (N := 3) rfl (cs := #[.int .i64 a1_0, .int .i64 a1_1, .int .i64 a1_2]) (t := 110) sE ?_; intro gb160 hg w12 hbox hb; have BK160 := Aside0.mk hbox; have GW160 := gS w hg (lV1 GE159); have GE160 := gS w hg (lV1 GE159); replace HB := bH (lV1 GE159) hb; have NB159_160 := nL hg (bV BK159); have NB160_159 := nG hg (bV BK159); replace BK159 := bB (bV BK159) hb; clear hb hbox hg; have hnb13 := NB159_160.out; have hnc13 := NB160_159.out; have hcz14_0 := cz BK159 0 (.int .i64 a0_0); have hcz14_1 := cz BK159 1 (.int .i64 a0_1); have hcz14_2 := cz BK159 2 (.int .i64 a0_2); have hfz14_0 := fz BK159 0; have hfz14_1 := fz BK159 1; have hfz14_2 := fz BK159 2; have hcz15_0 := cz BK160 0 (.int .i64 a1_0); have hcz15_1 := cz BK160 1 (.int .i64 a1_1); have hcz15_2 := cz BK160 2 (.int .i64 a1_2); have hfz15_0 := fz BK160 0; have hfz15_1 := fz BK160 1; have hfz15_2 := fz BK160 2))
    go_ret
    exact ⟨eE, lV2 GE159 GE160⟩
  ·rw [if_neg c4] at H
   have c4b0 : (a0_1 == a1_1) = false := beq_eq_false_iff_ne.mpr c4
   have c4b1 : (a0_1 != a1_1) = true := bne_iff_ne.mpr c4
   obtain rfl := Option.some.inj H
   go_enter Try.func98, Try.ntmps98
   go_wp2_with (first | ((with_reducible refine gate_dst (N := 2) rfl ?_); refine box_event rfl (N := 2) rfl (cs := #[.int .i64 a0_0, .int .i64 a0_1, .int .i64 a0_2]) (t := 110) sE ?_; intro gb159 hg w16 hbox hb; have BK159 := Aside0.mk hbox; have GW159 := gS w hg (lU); have GE159 := gS w hg (lU); replace HB := bH (lU) hb; clear hb hbox hg) | ((with_reducible refine gate_dst (N := 3) rfl ?_); refine box_event rfl (N := 3) rfl (cs := #[.int .i64 a1_0, .int .i64 a1_1, .int .i64 a1_2]) (t := 110) sE ?_; intro gb160 hg w17 hbox hb; have BK160 := Aside0.mk hbox; have GW160 := gS w hg (lV1 GE159); have GE160 := gS w hg (lV1 GE159); replace HB := bH (lV1 GE159) hb; have NB159_160 := nL hg (bV BK159); have NB160_159 := nG hg (bV BK159); replace BK159 := bB (bV BK159) hb; clear hb hbox hg; have hnb18 := NB159_160.out; have hnc18 := NB160_159.out; have hcz19_0 := cz BK159 0 (.int .i64 a0_0); have hcz19_1 := cz BK159 1 (.int .i64 a0_1); have hcz19_2 := cz BK159 2 (.int .i64 a0_2); have hfz19_0 := fz BK159 0; have hfz19_1 := fz BK159 1; have hfz19_2 := fz BK159 2; have hcz20_0 := cz BK160 0 (.int .i64 a1_0); have hcz20_1 := cz BK160 1 (.int .i64 a1_1); have hcz20_2 := cz BK160 2 (.int .i64 a1_2); have hfz20_0 := fz BK160 0; have hfz20_1 := fz BK160 1; have hfz20_2 := fz BK160 2))
   go_ret
   exact ⟨eE, lV2 GE159 GE160⟩
 ·rw [if_neg c3] at H
  have c3b0 : (a0_0 == a1_0) = false := beq_eq_false_iff_ne.mpr c3
  have c3b1 : (a0_0 != a1_0) = true := bne_iff_ne.mpr c3
  obtain rfl := Option.some.inj H
  go_enter Try.func98, Try.ntmps98
  go_wp2_with (first | ((with_reducible refine gate_dst (N := 2) rfl ?_); refine box_event rfl (N := 2) rfl (cs := #[.int .i64 a0_0, .int .i64 a0_1, .int .i64 a0_2]) (t := 110) sE ?_; intro gb159 hg w21 hbox hb; have BK159 := Aside0.mk hbox; have GW159 := gS w hg (lU); have GE159 := gS w hg (lU); replace HB := bH (lU) hb; clear hb hbox hg) | ((with_reducible refine gate_dst (N := 3) rfl ?_); refine box_event rfl (N := 3) rfl (cs := #[.int .i64 a1_0, .int .i64 a1_1, .int .i64 a1_2]) (t := 110) sE ?_; intro gb160 hg w22 hbox hb; have BK160 := Aside0.mk hbox; have GW160 := gS w hg (lV1 GE159); have GE160 := gS w hg (lV1 GE159); replace HB := bH (lV1 GE159) hb; have NB159_160 := nL hg (bV BK159); have NB160_159 := nG hg (bV BK159); replace BK159 := bB (bV BK159) hb; clear hb hbox hg; have hnb23 := NB159_160.out; have hnc23 := NB160_159.out; have hcz24_0 := cz BK159 0 (.int .i64 a0_0); have hcz24_1 := cz BK159 1 (.int .i64 a0_1); have hcz24_2 := cz BK159 2 (.int .i64 a0_2); have hfz24_0 := fz BK159 0; have hfz24_1 := fz BK159 1; have hfz24_2 := fz BK159 2; have hcz25_0 := cz BK160 0 (.int .i64 a1_0); have hcz25_1 := cz BK160 1 (.int .i64 a1_1); have hcz25_2 := cz BK160 2 (.int .i64 a1_2); have hfz25_0 := fz BK160 0; have hfz25_1 := fz BK160 1; have hfz25_2 := fz BK160 2))
  go_ret
  exact ⟨eE, lV2 GE159 GE160⟩
def laws_eqSeatS.l0 : Nat → List (S110) → List (S110) → Int → Option (Bool)
 | 0, _, _, _ => none
 | k + 1, x0, x1, x5 => if x5 < (x0.length : Int) then (if 0 ≤ x5 then (if x5 < (x1.length : Int) then ((laws_eqSeat.f ((rd_T110 x0 x5).f0) ((rd_T110 x0 x5).f1) ((rd_T110 x0 x5).f2) ((rd_T110 x1 x5).f0) ((rd_T110 x1 x5).f1) ((rd_T110 x1 x5).f2)).bind fun t163 => (if t163 = true then (laws_eqSeatS.l0 k x0 x1 (wrap64 (x5 + 1))) else (some false))) else (none)) else (none)) else (some true)
def laws_eqSeatS.f (k : Nat) (l0 : List (S110)) (l1 : List (S110)) : Option (Bool) := if (l0.length : Int) = (l1.length : Int) then (laws_eqSeatS.l0 k l0 l1 0) else (some false)
theorem laws_eqSeatS.mono_l : ∀ k, (∀ y0 y1 y2, LeO (laws_eqSeatS.l0 k y0 y1 y2) (laws_eqSeatS.l0 (k + 1) y0 y1 y2))
 | 0 => fun _ _ _ r h => by simp [laws_eqSeatS.l0] at h
 | k + 1 => by
  have ih0 := laws_eqSeatS.mono_l k
  ·intro y0 y1 y2
   unfold laws_eqSeatS.l0
   repeat' first
   | (with_reducible exact ih0 _ _ _)
   | (with_reducible exact LeO.refl _)
   | (with_reducible exact LeO.none _)
   | (with_reducible refine LeO.ite ?_ ?_)
   | (with_reducible refine LeO.bind ?_ (fun _ => ?_))
   | exact ih0 _ _ _
   | exact LeO.none _
   | refine LeO.ite ?_ ?_
   | refine LeO.bind ?_ (fun _ => ?_)
theorem laws_eqSeatS.mono : ∀ a0 a1 k, LeO (laws_eqSeatS.f k a0 a1) (laws_eqSeatS.f (k + 1) a0 a1) := by
 intro a0 a1 k
 have ih0 := laws_eqSeatS.mono_l k
 unfold laws_eqSeatS.f
 repeat' first
   | (with_reducible exact ih0 _ _ _)
   | (with_reducible exact LeO.refl _)
   | (with_reducible exact LeO.none _)
   | (with_reducible refine LeO.ite ?_ ?_)
   | (with_reducible refine LeO.bind ?_ (fun _ => ?_))
   | exact ih0 _ _ _
   | exact LeO.none _
   | refine LeO.ite ?_ ?_
   | refine LeO.bind ?_ (fun _ => ?_)
def laws_eqSeatS.T6 : Bool × List (List Nat × List Nat) := (true, [([], []), ([], []), ([0, 1], [0, 1]), ([2], [2]), ([], []), ([], []), ([4, 5], [4, 5]), ([6], [6]), ([3, 7], [3, 7]), ([8], [8])])
def laws_eqSeatS.B6 : List Nat := [0, 0, 3, 7, 0, 0, 48, 112, 255, 511]
theorem laws_eqSeatS.tab6 : rtab .any (opsOf Try.f88 6) = laws_eqSeatS.T6 := by kernel_rfl
theorem laws_eqSeatS.bits6 : waitsOk laws_eqSeatS.T6.2 laws_eqSeatS.B6 = true := by kernel_rfl
set_option maxHeartbeats 8000000 in
set_option maxRecDepth 100000 in
theorem laws_eqSeatS.calls (k : Nat) (A0 : Option Addr) (c0 : Nat) (l0 : List (S110)) (A1 : Option Addr) (c1 : Nat) (l1 : List (S110)) (r : Bool) (w : World) (hr0 : Kd.C k110 w A0 l0.length l0) (hc0 : l0.length ≤ c0) (hr1 : Kd.C k110 w A1 l1.length l1) (hc1 : l1.length ≤ c1) (h : laws_eqSeatS.f k l0 l1 = some r) :
  Calls Try.prog 88 #[.slice A0 l0.length c0, .slice A1 l1.length c1] w fun e w' => e = .returned (.bool r) ∧ Below w.heap.size w w' := by
 have hu110 := Try.underlying110
 have HR0 := Aside0.mk hr0
 have HC0 := Aside0.mk hc0
 clear hr0 hc0
 have HR1 := Aside0.mk hr1
 have HC1 := Aside0.mk hc1
 clear hr1 hc1
 have HB := Aside0.mk (Below.refl w.heap.size w)
 have H : (if (l0.length : Int) = (l1.length : Int) then (laws_eqSeatS.l0 k l0 l1 0) else (some false)) = some r := h
 clear h
 by_cases c3 : (l0.length : Int) = (l1.length : Int)
 ·rw [if_pos c3] at H
  have c3b0 : ((l0.length : Int) == (l1.length : Int)) = true := beq_iff_eq.mpr c3
  have c3b1 : ((l0.length : Int) != (l1.length : Int)) = false := bne_eq_false_iff_eq.mpr c3
  have c3b2 : (l0.length == l1.length) = true := by first | simpa using c3 | (simp at c3 ⊢; omega)
  clear c3
  have H' := Aside0.mk H
  clear H
  go_enter Try.func88, Try.ntmps88
  go_wp2
  go_loopg [5] k (fun kq v5 w' => ∃ (x5_1 : Int), v5 = .int .i64 x5_1 ∧ Aside0 (laws_eqSeatS.l0 kq l0 l1 x5_1 = some r) ∧ Aside0 (kq ≤ k) ∧ Aside0 (Below w.heap.size w w'))
  case atStart => exact ⟨(0), tE, H', ⟨Nat.le_refl _⟩, ⟨by repeat (first | (with_reducible first | exact HB.out | apply below_alloc | apply pw_below_drewN | apply below_drew1) | exact HB.out)⟩⟩
  case round =>
   clear H'
   try clear c1
   try clear p2
   try clear c3
   try clear c3b0
   try clear c3b1
   try clear c3b2
   obtain ⟨x5_1, rfl, HA, HK1, HB⟩ := hrel
   cases gk with
   | zero => exact absurd HA.out (by simp [laws_eqSeatS.l0])
   | succ k1 =>
    have H := HA.out
    clear HA
    simp only [laws_eqSeatS.l0] at H
    by_cases c4 : x5_1 < (l0.length : Int)
    ·rw [if_pos c4] at H
     have c4b0 : decide (x5_1 < (l0.length : Int)) = true := decide_eq_true c4
     clear c4
     by_cases c5 : 0 ≤ x5_1
     ·rw [if_pos c5] at H
      have c5b0 : decide (0 ≤ x5_1) = true := decide_eq_true c5
      clear c5
      by_cases c6 : x5_1 < (l1.length : Int)
      ·rw [if_pos c6] at H
       have c6b0 : decide (x5_1 < (l1.length : Int)) = true := decide_eq_true c6
       clear c6
       replace H := Option.bind_eq_some_iff.mp H
       obtain ⟨t163, A70, H⟩ := H
       replace H : (if t163 = true then (laws_eqSeatS.l0 k1 l0 l1 (wrap64 (x5_1 + 1))) else (some false)) = some r := H
       have A7 := Aside0.mk A70
       clear A70
       by_cases c8 : t163 = true
       ·subst c8
        have H1 : (laws_eqSeatS.l0 k1 l0 l1 (wrap64 (x5_1 + 1))) = some r := by rw [if_pos rfl] at H; exact H
        clear H
        have H := H1
        clear H1
        have H' := Aside0.mk H
        clear H
        try go_wp2
        replace HB := Aside0.mk (below_drew1 HB.out)
        have p161 : 0 ≤ (x5_1 : Int) := of_decide_eq_true hE
        have q161 : x5_1 < (l0.length : Int) := of_decide_eq_true hE
        obtain ⟨ad161, e161, hx161_0, hx161_1, hx161_2⟩ := at_T110 HR0.out x5_1 p161 q161
        have hw161_2 := hx161_2
        have hw161_1 := hx161_1
        have hw161_0 := hx161_0
        cases e161
        replace hx161_0 := (HB.out.cell (World.block_lt_of_cell? w _ hx161_0)).trans hx161_0
        replace hx161_1 := (HB.out.cell (World.block_lt_of_cell? w _ hx161_1)).trans hx161_1
        replace hx161_2 := (HB.out.cell (World.block_lt_of_cell? w _ hx161_2)).trans hx161_2
        replace p161 := eq_true p161
        replace q161 := eq_true q161
        have p162 : 0 ≤ (x5_1 : Int) := of_decide_eq_true hE
        have q162 : x5_1 < (l1.length : Int) := of_decide_eq_true hE
        obtain ⟨ad162, e162, hx162_0, hx162_1, hx162_2⟩ := at_T110 HR1.out x5_1 p162 q162
        have hw162_2 := hx162_2
        have hw162_1 := hx162_1
        have hw162_0 := hx162_0
        cases e162
        replace hx162_0 := (HB.out.cell (World.block_lt_of_cell? w _ hx162_0)).trans hx162_0
        replace hx162_1 := (HB.out.cell (World.block_lt_of_cell? w _ hx162_1)).trans hx162_1
        replace hx162_2 := (HB.out.cell (World.block_lt_of_cell? w _ hx162_2)).trans hx162_2
        replace p162 := eq_true p162
        replace q162 := eq_true q162
        refine start_ (n := 10) (S := fun w' => w'.cell? (ad161.add ((x5_1).toNat * 3)) = some (.int .i64 ((rd_T110 l0 x5_1).f0)) ∧ w'.cell? ⟨(ad161.add ((x5_1).toNat * 3)).block, (ad161.add ((x5_1).toNat * 3)).off + 1, none⟩ = some (.int .i64 ((rd_T110 l0 x5_1).f1)) ∧ w'.cell? ⟨(ad161.add ((x5_1).toNat * 3)).block, (ad161.add ((x5_1).toNat * 3)).off + 2, none⟩ = some (.int .i64 ((rd_T110 l0 x5_1).f2)) ∧ w'.cell? (ad162.add ((x5_1).toNat * 3)) = some (.int .i64 ((rd_T110 l1 x5_1).f0)) ∧ w'.cell? ⟨(ad162.add ((x5_1).toNat * 3)).block, (ad162.add ((x5_1).toNat * 3)).off + 1, none⟩ = some (.int .i64 ((rd_T110 l1 x5_1).f1)) ∧ w'.cell? ⟨(ad162.add ((x5_1).toNat * 3)).block, (ad162.add ((x5_1).toNat * 3)).off + 2, none⟩ = some (.int .i64 ((rd_T110 l1 x5_1).f2))) (ds := []) #[false, false, false, false, false, false, false, false, false, false] (by kernel_rfl) rfl rfl ⟨((HB.out.cell (World.block_lt_of_cell? w _ hw161_0)).trans hw161_0), ((HB.out.cell (World.block_lt_of_cell? w _ hw161_1)).trans hw161_1), ((HB.out.cell (World.block_lt_of_cell? w _ hw161_2)).trans hw161_2), ((HB.out.cell (World.block_lt_of_cell? w _ hw162_0)).trans hw162_0), ((HB.out.cell (World.block_lt_of_cell? w _ hw162_1)).trans hw162_1), ((HB.out.cell (World.block_lt_of_cell? w _ hw162_2)).trans hw162_2)⟩ (fun hHeld => ?_); refine with_tabW laws_eqSeatS.tab6 laws_eqSeatS.bits6 (fun HT_ HW_ => ?_)
        generalize wr.drew = w9 at HB hx161_0 hx161_1 hx161_2 hx162_0 hx162_1 hx162_2 hHeld ⊢
        refine pureA 0 17 (bz 10 1) rfl rfl (any_of HT_.out (by kernel_rfl)) ?_
        refine pureA 1 18 (bz 10 3) rfl rfl (any_of HT_.out (by kernel_rfl)) ?_
        refine pureA 2 19 (bz 10 7) rfl rfl (any_of HT_.out (by kernel_rfl)) ?_
        refine pureA 4 21 (bz 10 23) rfl rfl (any_of HT_.out (by kernel_rfl)) ?_
        refine pureA 5 22 (bz 10 55) rfl rfl (any_of HT_.out (by kernel_rfl)) ?_
        refine pureA 6 23 (bz 10 119) rfl rfl (any_of HT_.out (by kernel_rfl)) ?_
        refine takeA 3 20 (bz 10 127) rfl rfl (take_ofW HT_.out HW_.out (by kernel_rfl)) hHeld (by rintro w' ⟨s0, s1, s2, s3, s4, s5⟩; go_simp; with_reducible rfl) ?_
        refine takeA 7 24 (bz 10 255) rfl rfl (take_ofW HT_.out HW_.out (by kernel_rfl)) hHeld (by rintro w' ⟨s0, s1, s2, s3, s4, s5⟩; go_simp; with_reducible rfl) ?_
        refine one_ (i := 8) (N := some 25) (bz 10 511) rfl rfl (one_of HT_.out (by kernel_rfl)) (by decide) (fun K hK => ?_)
        refine goes_ Try.func98 (by kernel_rfl) rfl #[.agg #[.int .i64 ((rd_T110 l0 x5_1).f0), .int .i64 ((rd_T110 l0 x5_1).f1), .int .i64 ((rd_T110 l0 x5_1).f2)], .agg #[.int .i64 ((rd_T110 l1 x5_1).f0), .int .i64 ((rd_T110 l1 x5_1).f1), .int .i64 ((rd_T110 l1 x5_1).f2)]] (by rfl) rfl rfl aE ?_
        with_reducible refine (laws_eqSeat.calls ((rd_T110 l0 x5_1).f0) ((rd_T110 l0 x5_1).f1) ((rd_T110 l0 x5_1).f2) ((rd_T110 l1 x5_1).f0) ((rd_T110 l1 x5_1).f1) ((rd_T110 l1 x5_1).f2) true _ A7.out).mono ?_
        rintro e w10 ⟨rfl, hb⟩
        refine ⟨_, rfl, ?_⟩
        replace HB := bH (lU) hb
        (try clear hb)
        (try clear hb2)
        (try clear hk)
        (try clear hi)
        refine hK.out _ _ ⟨((HB.out.cell (World.block_lt_of_cell? w _ hw161_0)).trans hw161_0), ((HB.out.cell (World.block_lt_of_cell? w _ hw161_1)).trans hw161_1), ((HB.out.cell (World.block_lt_of_cell? w _ hw161_2)).trans hw161_2), ((HB.out.cell (World.block_lt_of_cell? w _ hw162_0)).trans hw162_0), ((HB.out.cell (World.block_lt_of_cell? w _ hw162_1)).trans hw162_1), ((HB.out.cell (World.block_lt_of_cell? w _ hw162_2)).trans hw162_2)⟩ (fun hHeld => ?_)
        clear hK K
        refine norm_ (a' := ?_) ?_ ?_
        rotate_left
        ·show Act.put _ (some 25) _ = _
         simp only [Act.put, List.setIfInBounds_toArray, List.set_cons_zero, List.set_cons_succ, i64_w, i32_w]
         rfl
        refine pureA 9 26 (bz 10 1023) rfl rfl (any_of HT_.out (by kernel_rfl)) ?_
        refine done_ (done_of HT_.out (by kernel_rfl)) ?_
        try go_wp2
        go_roundg k1
        case measure => have := HK1.out; omega
        case rel => exact ⟨(wrap64 (x5_1 + 1)), tE, H', ⟨by have := HK1.out; omega⟩, ⟨by repeat (first | (with_reducible first | exact HB.out | apply below_alloc | apply pw_below_drewN | apply below_drew1) | exact HB.out)⟩⟩
       ·replace c8 := Bool.eq_false_iff.mpr c8
        subst c8
        have H1 : (some false) = some r := by rw [if_neg (show ¬ (false = true) by decide)] at H; exact H
        clear H
        have H := H1
        clear H1
        obtain rfl := Option.some.inj H
        try go_wp2
        replace HB := Aside0.mk (below_drew1 HB.out)
        have p161 : 0 ≤ (x5_1 : Int) := of_decide_eq_true hE
        have q161 : x5_1 < (l0.length : Int) := of_decide_eq_true hE
        obtain ⟨ad161, e161, hx161_0, hx161_1, hx161_2⟩ := at_T110 HR0.out x5_1 p161 q161
        have hw161_2 := hx161_2
        have hw161_1 := hx161_1
        have hw161_0 := hx161_0
        cases e161
        replace hx161_0 := (HB.out.cell (World.block_lt_of_cell? w _ hx161_0)).trans hx161_0
        replace hx161_1 := (HB.out.cell (World.block_lt_of_cell? w _ hx161_1)).trans hx161_1
        replace hx161_2 := (HB.out.cell (World.block_lt_of_cell? w _ hx161_2)).trans hx161_2
        replace p161 := eq_true p161
        replace q161 := eq_true q161
        have p162 : 0 ≤ (x5_1 : Int) := of_decide_eq_true hE
        have q162 : x5_1 < (l1.length : Int) := of_decide_eq_true hE
        obtain ⟨ad162, e162, hx162_0, hx162_1, hx162_2⟩ := at_T110 HR1.out x5_1 p162 q162
        have hw162_2 := hx162_2
        have hw162_1 := hx162_1
        have hw162_0 := hx162_0
        cases e162
        replace hx162_0 := (HB.out.cell (World.block_lt_of_cell? w _ hx162_0)).trans hx162_0
        replace hx162_1 := (HB.out.cell (World.block_lt_of_cell? w _ hx162_1)).trans hx162_1
        replace hx162_2 := (HB.out.cell (World.block_lt_of_cell? w _ hx162_2)).trans hx162_2
        replace p162 := eq_true p162
        replace q162 := eq_true q162
        refine start_ (n := 10) (S := fun w' => w'.cell? (ad161.add ((x5_1).toNat * 3)) = some (.int .i64 ((rd_T110 l0 x5_1).f0)) ∧ w'.cell? ⟨(ad161.add ((x5_1).toNat * 3)).block, (ad161.add ((x5_1).toNat * 3)).off + 1, none⟩ = some (.int .i64 ((rd_T110 l0 x5_1).f1)) ∧ w'.cell? ⟨(ad161.add ((x5_1).toNat * 3)).block, (ad161.add ((x5_1).toNat * 3)).off + 2, none⟩ = some (.int .i64 ((rd_T110 l0 x5_1).f2)) ∧ w'.cell? (ad162.add ((x5_1).toNat * 3)) = some (.int .i64 ((rd_T110 l1 x5_1).f0)) ∧ w'.cell? ⟨(ad162.add ((x5_1).toNat * 3)).block, (ad162.add ((x5_1).toNat * 3)).off + 1, none⟩ = some (.int .i64 ((rd_T110 l1 x5_1).f1)) ∧ w'.cell? ⟨(ad162.add ((x5_1).toNat * 3)).block, (ad162.add ((x5_1).toNat * 3)).off + 2, none⟩ = some (.int .i64 ((rd_T110 l1 x5_1).f2))) (ds := []) #[false, false, false, false, false, false, false, false, false, false] (by kernel_rfl) rfl rfl ⟨((HB.out.cell (World.block_lt_of_cell? w _ hw161_0)).trans hw161_0), ((HB.out.cell (World.block_lt_of_cell? w _ hw161_1)).trans hw161_1), ((HB.out.cell (World.block_lt_of_cell? w _ hw161_2)).trans hw161_2), ((HB.out.cell (World.block_lt_of_cell? w _ hw162_0)).trans hw162_0), ((HB.out.cell (World.block_lt_of_cell? w _ hw162_1)).trans hw162_1), ((HB.out.cell (World.block_lt_of_cell? w _ hw162_2)).trans hw162_2)⟩ (fun hHeld => ?_); refine with_tabW laws_eqSeatS.tab6 laws_eqSeatS.bits6 (fun HT_ HW_ => ?_)
        generalize wr.drew = w11 at HB hx161_0 hx161_1 hx161_2 hx162_0 hx162_1 hx162_2 hHeld ⊢
        refine pureA 0 17 (bz 10 1) rfl rfl (any_of HT_.out (by kernel_rfl)) ?_
        refine pureA 1 18 (bz 10 3) rfl rfl (any_of HT_.out (by kernel_rfl)) ?_
        refine pureA 2 19 (bz 10 7) rfl rfl (any_of HT_.out (by kernel_rfl)) ?_
        refine pureA 4 21 (bz 10 23) rfl rfl (any_of HT_.out (by kernel_rfl)) ?_
        refine pureA 5 22 (bz 10 55) rfl rfl (any_of HT_.out (by kernel_rfl)) ?_
        refine pureA 6 23 (bz 10 119) rfl rfl (any_of HT_.out (by kernel_rfl)) ?_
        refine takeA 3 20 (bz 10 127) rfl rfl (take_ofW HT_.out HW_.out (by kernel_rfl)) hHeld (by rintro w' ⟨s0, s1, s2, s3, s4, s5⟩; go_simp; with_reducible rfl) ?_
        refine takeA 7 24 (bz 10 255) rfl rfl (take_ofW HT_.out HW_.out (by kernel_rfl)) hHeld (by rintro w' ⟨s0, s1, s2, s3, s4, s5⟩; go_simp; with_reducible rfl) ?_
        refine one_ (i := 8) (N := some 25) (bz 10 511) rfl rfl (one_of HT_.out (by kernel_rfl)) (by decide) (fun K hK => ?_)
        refine goes_ Try.func98 (by kernel_rfl) rfl #[.agg #[.int .i64 ((rd_T110 l0 x5_1).f0), .int .i64 ((rd_T110 l0 x5_1).f1), .int .i64 ((rd_T110 l0 x5_1).f2)], .agg #[.int .i64 ((rd_T110 l1 x5_1).f0), .int .i64 ((rd_T110 l1 x5_1).f1), .int .i64 ((rd_T110 l1 x5_1).f2)]] (by rfl) rfl rfl aE ?_
        with_reducible refine (laws_eqSeat.calls ((rd_T110 l0 x5_1).f0) ((rd_T110 l0 x5_1).f1) ((rd_T110 l0 x5_1).f2) ((rd_T110 l1 x5_1).f0) ((rd_T110 l1 x5_1).f1) ((rd_T110 l1 x5_1).f2) false _ A7.out).mono ?_
        rintro e w12 ⟨rfl, hb⟩
        refine ⟨_, rfl, ?_⟩
        replace HB := bH (lU) hb
        (try clear hb)
        (try clear hb2)
        (try clear hk)
        (try clear hi)
        refine hK.out _ _ ⟨((HB.out.cell (World.block_lt_of_cell? w _ hw161_0)).trans hw161_0), ((HB.out.cell (World.block_lt_of_cell? w _ hw161_1)).trans hw161_1), ((HB.out.cell (World.block_lt_of_cell? w _ hw161_2)).trans hw161_2), ((HB.out.cell (World.block_lt_of_cell? w _ hw162_0)).trans hw162_0), ((HB.out.cell (World.block_lt_of_cell? w _ hw162_1)).trans hw162_1), ((HB.out.cell (World.block_lt_of_cell? w _ hw162_2)).trans hw162_2)⟩ (fun hHeld => ?_)
        clear hK K
        refine norm_ (a' := ?_) ?_ ?_
        rotate_left
        ·show Act.put _ (some 25) _ = _
         simp only [Act.put, List.setIfInBounds_toArray, List.set_cons_zero, List.set_cons_succ, i64_w, i32_w]
         rfl
        refine pureA 9 26 (bz 10 1023) rfl rfl (any_of HT_.out (by kernel_rfl)) ?_
        refine done_ (done_of HT_.out (by kernel_rfl)) ?_
        try go_wp2
        go_ret
        exact ⟨eE, lU⟩
      ·rw [if_neg c6] at H
       exact absurd H (by simp)
     ·rw [if_neg c5] at H
      exact absurd H (by simp)
    ·rw [if_neg c4] at H
     have c4b0 : decide (x5_1 < (l0.length : Int)) = false := decide_eq_false c4
     clear c4
     obtain rfl := Option.some.inj H
     go_wp2
     go_ret
     exact ⟨eE, lU⟩
 ·rw [if_neg c3] at H
  have c3b0 : ((l0.length : Int) == (l1.length : Int)) = false := beq_eq_false_iff_ne.mpr c3
  have c3b1 : ((l0.length : Int) != (l1.length : Int)) = true := bne_iff_ne.mpr c3
  have c3b2 : (l0.length == l1.length) = false := by first | simpa using c3 | (simp at c3 ⊢; omega)
  obtain rfl := Option.some.inj H
  go_enter Try.func88, Try.ntmps88
  go_wp2
  go_ret
  exact ⟨eE, lU⟩
def laws_eqGame.f (k : Nat) (a0_0 : Int) (a0_1 : Int) (l0_2 : List (S110)) (a1_0 : Int) (a1_1 : Int) (l1_2 : List (S110)) : Option (Bool) := if a0_0 = a1_0 then (if a0_1 = a1_1 then ((laws_eqSeatS.f k l0_2 l1_2).bind fun t166 => (if t166 = true then (some true) else (some false))) else (some false)) else (some false)
theorem laws_eqGame.mono : ∀ a0 a1 a2 a3 a4 a5 k, LeO (laws_eqGame.f k a0 a1 a2 a3 a4 a5) (laws_eqGame.f (k + 1) a0 a1 a2 a3 a4 a5) := by
 intro a0 a1 a2 a3 a4 a5 k
 unfold laws_eqGame.f
 repeat' first
   | (with_reducible exact laws_eqSeatS.mono _ _ _)
   | (with_reducible exact LeO.refl _)
   | (with_reducible exact LeO.none _)
   | (with_reducible refine LeO.ite ?_ ?_)
   | (with_reducible refine LeO.bind ?_ (fun _ => ?_))
   | exact laws_eqSeatS.mono _ _ _
   | exact LeO.none _
   | refine LeO.ite ?_ ?_
   | refine LeO.bind ?_ (fun _ => ?_)
set_option maxHeartbeats 8000000 in
set_option maxRecDepth 100000 in
theorem laws_eqGame.calls (k : Nat) (a0_0 : Int) (a0_1 : Int) (A0_2 : Option Addr) (c0_2 : Nat) (l0_2 : List (S110)) (a1_0 : Int) (a1_1 : Int) (A1_2 : Option Addr) (c1_2 : Nat) (l1_2 : List (S110)) (r : Bool) (w : World) (hr0_2 : Kd.C k110 w A0_2 l0_2.length l0_2) (hc0_2 : l0_2.length ≤ c0_2) (hr1_2 : Kd.C k110 w A1_2 l1_2.length l1_2) (hc1_2 : l1_2.length ≤ c1_2) (h : laws_eqGame.f k a0_0 a0_1 l0_2 a1_0 a1_1 l1_2 = some r) :
  Calls Try.prog 54 #[.agg #[.int .i64 a0_0, .int .i64 a0_1, .slice A0_2 l0_2.length c0_2], .agg #[.int .i64 a1_0, .int .i64 a1_1, .slice A1_2 l1_2.length c1_2]] w fun e w' => e = .returned (.bool r) ∧ Below w.heap.size w w' := by
 have hu48 := Try.underlying48
 have HR0_2 := Aside0.mk hr0_2
 have HC0_2 := Aside0.mk hc0_2
 clear hr0_2 hc0_2
 have HR1_2 := Aside0.mk hr1_2
 have HC1_2 := Aside0.mk hc1_2
 clear hr1_2 hc1_2
 have HB := Aside0.mk (Below.refl w.heap.size w)
 have H : (if a0_0 = a1_0 then (if a0_1 = a1_1 then ((laws_eqSeatS.f k l0_2 l1_2).bind fun t166 => (if t166 = true then (some true) else (some false))) else (some false)) else (some false)) = some r := h
 clear h
 by_cases c3 : a0_0 = a1_0
 ·rw [if_pos c3] at H
  have c3b0 : (a0_0 == a1_0) = true := beq_iff_eq.mpr c3
  have c3b1 : (a0_0 != a1_0) = false := bne_eq_false_iff_eq.mpr c3
  clear c3
  by_cases c4 : a0_1 = a1_1
  ·rw [if_pos c4] at H
   have c4b0 : (a0_1 == a1_1) = true := beq_iff_eq.mpr c4
   have c4b1 : (a0_1 != a1_1) = false := bne_eq_false_iff_eq.mpr c4
   clear c4
   replace H := Option.bind_eq_some_iff.mp H
   obtain ⟨t166, A50, H⟩ := H
   replace H : (if t166 = true then (some true) else (some false)) = some r := H
   have A5 := Aside0.mk A50
   clear A50
   by_cases c6 : t166 = true
   ·subst c6
    have H1 : (some true) = some r := by rw [if_pos rfl] at H; exact H
    clear H
    have H := H1
    clear H1
    obtain rfl := Option.some.inj H
    go_enter Try.func54, Try.ntmps54
    go_wp2_with (first | ((with_reducible refine gate_dst (N := 2) rfl ?_); refine box_event rfl (N := 2) rfl (cs := #[.int .i64 a0_0, .int .i64 a0_1, .slice A0_2 l0_2.length c0_2]) (t := 48) sE ?_; intro gb164 hg w7 hbox hb; have BK164 := Aside0.mk hbox; have GW164 := gS w hg (lU); have GE164 := gS w hg (lU); replace HB := bH (lU) hb; clear hb hbox hg) | ((with_reducible refine gate_dst (N := 3) rfl ?_); refine box_event rfl (N := 3) rfl (cs := #[.int .i64 a1_0, .int .i64 a1_1, .slice A1_2 l1_2.length c1_2]) (t := 48) sE ?_; intro gb165 hg w8 hbox hb; have BK165 := Aside0.mk hbox; have GW165 := gS w hg (lV1 GE164); have GE165 := gS w hg (lV1 GE164); replace HB := bH (lV1 GE164) hb; have NB164_165 := nL hg (bV BK164); have NB165_164 := nG hg (bV BK164); replace BK164 := bB (bV BK164) hb; clear hb hbox hg; have hnb9 := NB164_165.out; have hnc9 := NB165_164.out; have hcz10_0 := cz BK164 0 (.int .i64 a0_0); have hcz10_1 := cz BK164 1 (.int .i64 a0_1); have hcz10_2 := cz BK164 2 (.slice A0_2 l0_2.length c0_2); have hfz10_0 := fz BK164 0; have hfz10_1 := fz BK164 1; have hfz10_2 := fz BK164 2; have hcz11_0 := cz BK165 0 (.int .i64 a1_0); have hcz11_1 := cz BK165 1 (.int .i64 a1_1); have hcz11_2 := cz BK165 2 (.slice A1_2 l1_2.length c1_2); have hfz11_0 := fz BK165 0; have hfz11_1 := fz BK165 1; have hfz11_2 := fz BK165 2) | ((with_reducible refine gate_callee (f := 88) rfl ?_); refine goesL_ (some 19) rfl rfl Try.func88 (by kernel_rfl) rfl #[.slice A0_2 l0_2.length c0_2, .slice A1_2 l1_2.length c1_2] rfl aE ?_; (with_reducible refine (laws_eqSeatS.calls k _ _ l0_2 _ _ l1_2 true _ ?side1 ?side2 ?side3 ?side4 A5.out).mono ?_); (case side1 => exact cU (Kd.C_below HR0_2.out HB.out)); (case side2 => exact HC0_2.out); (case side3 => exact cU (Kd.C_below HR1_2.out HB.out)); (case side4 => exact HC1_2.out); rintro e w12 ⟨rfl, hb⟩; refine ⟨_, rfl, ?_⟩; replace BK164 := bB (bV BK164) hb; replace BK165 := bB (bV BK165) hb; replace HB := bH (lV2 GE164 GE165) hb; (try clear hb)))
    go_ret
    exact ⟨eE, lV2 GE164 GE165⟩
   ·replace c6 := Bool.eq_false_iff.mpr c6
    subst c6
    have H1 : (some false) = some r := by rw [if_neg (show ¬ (false = true) by decide)] at H; exact H
    clear H
    have H := H1
    clear H1
    obtain rfl := Option.some.inj H
    go_enter Try.func54, Try.ntmps54
    go_wp2_with (first | ((with_reducible refine gate_dst (N := 2) rfl ?_); refine box_event rfl (N := 2) rfl (cs := #[.int .i64 a0_0, .int .i64 a0_1, .slice A0_2 l0_2.length c0_2]) (t := 48) sE ?_; intro gb164 hg w13 hbox hb; have BK164 := Aside0.mk hbox; have GW164 := gS w hg (lU); have GE164 := gS w hg (lU); replace HB := bH (lU) hb; clear hb hbox hg) | ((with_reducible refine gate_dst (N := 3) rfl ?_); refine box_event rfl (N := 3) rfl (cs := #[.int .i64 a1_0, .int .i64 a1_1, .slice A1_2 l1_2.length c1_2]) (t := 48) sE ?_; intro gb165 hg w14 hbox hb; have BK165 := Aside0.mk hbox; have GW165 := gS w hg (lV1 GE164); have GE165 := gS w hg (lV1 GE164); replace HB := bH (lV1 GE164) hb; have NB164_165 := nL hg (bV BK164); have NB165_164 := nG hg (bV BK164); replace BK164 := bB (bV BK164) hb; clear hb hbox hg; have hnb15 := NB164_165.out; have hnc15 := NB165_164.out; have hcz16_0 := cz BK164 0 (.int .i64 a0_0); have hcz16_1 := cz BK164 1 (.int .i64 a0_1); have hcz16_2 := cz BK164 2 (.slice A0_2 l0_2.length c0_2); have hfz16_0 := fz BK164 0; have hfz16_1 := fz BK164 1; have hfz16_2 := fz BK164 2; have hcz17_0 := cz BK165 0 (.int .i64 a1_0); have hcz17_1 := cz BK165 1 (.int .i64 a1_1); have hcz17_2 := cz BK165 2 (.slice A1_2 l1_2.length c1_2); have hfz17_0 := fz BK165 0; have hfz17_1 := fz BK165 1; have hfz17_2 := fz BK165 2) | ((with_reducible refine gate_callee (f := 88) rfl ?_); refine goesL_ (some 19) rfl rfl Try.func88 (by kernel_rfl) rfl #[.slice A0_2 l0_2.length c0_2, .slice A1_2 l1_2.length c1_2] rfl aE ?_; (with_reducible refine (laws_eqSeatS.calls k _ _ l0_2 _ _ l1_2 false _ ?side1 ?side2 ?side3 ?side4 A5.out).mono ?_); (case side1 => exact cU (Kd.C_below HR0_2.out HB.out)); (case side2 => exact HC0_2.out); (case side3 => exact cU (Kd.C_below HR1_2.out HB.out)); (case side4 => exact HC1_2.out); rintro e w18 ⟨rfl, hb⟩; refine ⟨_, rfl, ?_⟩; replace BK164 := bB (bV BK164) hb; replace BK165 := bB (bV BK165) hb; replace HB := bH (lV2 GE164 GE165) hb; (try clear hb)))
    go_ret
    exact ⟨eE, lV2 GE164 GE165⟩
  ·rw [if_neg c4] at H
   have c4b0 : (a0_1 == a1_1) = false := beq_eq_false_iff_ne.mpr c4
   have c4b1 : (a0_1 != a1_1) = true := bne_iff_ne.mpr c4
   obtain rfl := Option.some.inj H
   go_enter Try.func54, Try.ntmps54
   go_wp2_with (first | ((with_reducible refine gate_dst (N := 2) rfl ?_); refine box_event rfl (N := 2) rfl (cs := #[.int .i64 a0_0, .int .i64 a0_1, .slice A0_2 l0_2.length c0_2]) (t := 48) sE ?_; intro gb164 hg w19 hbox hb; have BK164 := Aside0.mk hbox; have GW164 := gS w hg (lU); have GE164 := gS w hg (lU); replace HB := bH (lU) hb; clear hb hbox hg) | ((with_reducible refine gate_dst (N := 3) rfl ?_); refine box_event rfl (N := 3) rfl (cs := #[.int .i64 a1_0, .int .i64 a1_1, .slice A1_2 l1_2.length c1_2]) (t := 48) sE ?_; intro gb165 hg w20 hbox hb; have BK165 := Aside0.mk hbox; have GW165 := gS w hg (lV1 GE164); have GE165 := gS w hg (lV1 GE164); replace HB := bH (lV1 GE164) hb; have NB164_165 := nL hg (bV BK164); have NB165_164 := nG hg (bV BK164); replace BK164 := bB (bV BK164) hb; clear hb hbox hg; have hnb21 := NB164_165.out; have hnc21 := NB165_164.out; have hcz22_0 := cz BK164 0 (.int .i64 a0_0); have hcz22_1 := cz BK164 1 (.int .i64 a0_1); have hcz22_2 := cz BK164 2 (.slice A0_2 l0_2.length c0_2); have hfz22_0 := fz BK164 0; have hfz22_1 := fz BK164 1; have hfz22_2 := fz BK164 2; have hcz23_0 := cz BK165 0 (.int .i64 a1_0); have hcz23_1 := cz BK165 1 (.int .i64 a1_1); have hcz23_2 := cz BK165 2 (.slice A1_2 l1_2.length c1_2); have hfz23_0 := fz BK165 0; have hfz23_1 := fz BK165 1; have hfz23_2 := fz BK165 2))
   go_ret
   exact ⟨eE, lV2 GE164 GE165⟩
 ·rw [if_neg c3] at H
  have c3b0 : (a0_0 == a1_0) = false := beq_eq_false_iff_ne.mpr c3
  have c3b1 : (a0_0 != a1_0) = true := bne_iff_ne.mpr c3
  obtain rfl := Option.some.inj H
  go_enter Try.func54, Try.ntmps54
  go_wp2_with (first | ((with_reducible refine gate_dst (N := 2) rfl ?_); refine box_event rfl (N := 2) rfl (cs := #[.int .i64 a0_0, .int .i64 a0_1, .slice A0_2 l0_2.length c0_2]) (t := 48) sE ?_; intro gb164 hg w24 hbox hb; have BK164 := Aside0.mk hbox; have GW164 := gS w hg (lU); have GE164 := gS w hg (lU); replace HB := bH (lU) hb; clear hb hbox hg) | ((with_reducible refine gate_dst (N := 3) rfl ?_); refine box_event rfl (N := 3) rfl (cs := #[.int .i64 a1_0, .int .i64 a1_1, .slice A1_2 l1_2.length c1_2]) (t := 48) sE ?_; intro gb165 hg w25 hbox hb; have BK165 := Aside0.mk hbox; have GW165 := gS w hg (lV1 GE164); have GE165 := gS w hg (lV1 GE164); replace HB := bH (lV1 GE164) hb; have NB164_165 := nL hg (bV BK164); have NB165_164 := nG hg (bV BK164); replace BK164 := bB (bV BK164) hb; clear hb hbox hg; have hnb26 := NB164_165.out; have hnc26 := NB165_164.out; have hcz27_0 := cz BK164 0 (.int .i64 a0_0); have hcz27_1 := cz BK164 1 (.int .i64 a0_1); have hcz27_2 := cz BK164 2 (.slice A0_2 l0_2.length c0_2); have hfz27_0 := fz BK164 0; have hfz27_1 := fz BK164 1; have hfz27_2 := fz BK164 2; have hcz28_0 := cz BK165 0 (.int .i64 a1_0); have hcz28_1 := cz BK165 1 (.int .i64 a1_1); have hcz28_2 := cz BK165 2 (.slice A1_2 l1_2.length c1_2); have hfz28_0 := fz BK165 0; have hfz28_1 := fz BK165 1; have hfz28_2 := fz BK165 2))
  go_ret
  exact ⟨eE, lV2 GE164 GE165⟩
def laws_eqIntS.l0 : Nat → List Int → List Int → Int → Option (Bool)
 | 0, _, _, _ => none
 | k + 1, x0, x1, x5 => if x5 < (x0.length : Int) then (if 0 ≤ x5 then (if x5 < (x1.length : Int) then (if (rd x0 x5) = (rd x1 x5) then (laws_eqIntS.l0 k x0 x1 (wrap64 (x5 + 1))) else (some false)) else (none)) else (none)) else (some true)
def laws_eqIntS.f (k : Nat) (l0 : List Int) (l1 : List Int) : Option (Bool) := if (l0.length : Int) = (l1.length : Int) then (laws_eqIntS.l0 k l0 l1 0) else (some false)
theorem laws_eqIntS.mono_l : ∀ k, (∀ y0 y1 y2, LeO (laws_eqIntS.l0 k y0 y1 y2) (laws_eqIntS.l0 (k + 1) y0 y1 y2))
 | 0 => fun _ _ _ r h => by simp [laws_eqIntS.l0] at h
 | k + 1 => by
  have ih0 := laws_eqIntS.mono_l k
  ·intro y0 y1 y2
   unfold laws_eqIntS.l0
   repeat' first
   | (with_reducible exact ih0 _ _ _)
   | (with_reducible exact LeO.refl _)
   | (with_reducible exact LeO.none _)
   | (with_reducible refine LeO.ite ?_ ?_)
   | (with_reducible refine LeO.bind ?_ (fun _ => ?_))
   | exact ih0 _ _ _
   | exact LeO.none _
   | refine LeO.ite ?_ ?_
   | refine LeO.bind ?_ (fun _ => ?_)
theorem laws_eqIntS.mono : ∀ a0 a1 k, LeO (laws_eqIntS.f k a0 a1) (laws_eqIntS.f (k + 1) a0 a1) := by
 intro a0 a1 k
 have ih0 := laws_eqIntS.mono_l k
 unfold laws_eqIntS.f
 repeat' first
   | (with_reducible exact ih0 _ _ _)
   | (with_reducible exact LeO.refl _)
   | (with_reducible exact LeO.none _)
   | (with_reducible refine LeO.ite ?_ ?_)
   | (with_reducible refine LeO.bind ?_ (fun _ => ?_))
   | exact ih0 _ _ _
   | exact LeO.none _
   | refine LeO.ite ?_ ?_
   | refine LeO.bind ?_ (fun _ => ?_)
set_option maxHeartbeats 8000000 in
set_option maxRecDepth 100000 in
theorem laws_eqIntS.calls (k : Nat) (A0 : Option Addr) (c0 : Nat) (l0 : List Int) (A1 : Option Addr) (c1 : Nat) (l1 : List Int) (r : Bool) (w : World) (hr0 : Kd.C (Kd.int .i64) w A0 l0.length l0) (hc0 : l0.length ≤ c0) (hr1 : Kd.C (Kd.int .i64) w A1 l1.length l1) (hc1 : l1.length ≤ c1) (h : laws_eqIntS.f k l0 l1 = some r) :
  Calls Try.prog 89 #[.slice A0 l0.length c0, .slice A1 l1.length c1] w fun e w' => e = .returned (.bool r) ∧ Drawn0 w w' := by
 have HR0 := Aside0.mk hr0
 have HC0 := Aside0.mk hc0
 clear hr0 hc0
 have HR1 := Aside0.mk hr1
 have HC1 := Aside0.mk hc1
 clear hr1 hc1
 have H : (if (l0.length : Int) = (l1.length : Int) then (laws_eqIntS.l0 k l0 l1 0) else (some false)) = some r := h
 clear h
 by_cases c3 : (l0.length : Int) = (l1.length : Int)
 ·rw [if_pos c3] at H
  have c3b0 : ((l0.length : Int) == (l1.length : Int)) = true := beq_iff_eq.mpr c3
  have c3b1 : ((l0.length : Int) != (l1.length : Int)) = false := bne_eq_false_iff_eq.mpr c3
  have c3b2 : (l0.length == l1.length) = true := by first | simpa using c3 | (simp at c3 ⊢; omega)
  clear c3
  have H' := Aside0.mk H
  clear H
  go_enter Try.func89, Try.ntmps89
  go_wp2
  repeat (go_quiet (fail); try go_wp2)
  go_loopg [5] k (fun kq v5 w' => ∃ (x5_1 : Int), v5 = .int .i64 x5_1 ∧ Aside0 (laws_eqIntS.l0 kq l0 l1 x5_1 = some r) ∧ Aside0 (kq ≤ k) ∧ Drawn0 w w')
  case atStart => exact ⟨(0), tE, H', ⟨Nat.le_refl _⟩, by repeat (first | exact Drawn0.refl _ | apply Drawn0.step)⟩
  case round =>
   clear H'
   try clear c1
   try clear p2
   try clear c3
   try clear c3b0
   try clear c3b1
   try clear c3b2
   obtain ⟨x5_1, rfl, HA, HK1, ⟨m1, rfl⟩⟩ := hrel
   cases gk with
   | zero => exact absurd HA.out (by simp [laws_eqIntS.l0])
   | succ k1 =>
    have H := HA.out
    clear HA
    simp only [laws_eqIntS.l0] at H
    by_cases c4 : x5_1 < (l0.length : Int)
    ·rw [if_pos c4] at H
     have c4b0 : decide (x5_1 < (l0.length : Int)) = true := decide_eq_true c4
     clear c4
     by_cases c5 : 0 ≤ x5_1
     ·rw [if_pos c5] at H
      have c5b0 : decide (0 ≤ x5_1) = true := decide_eq_true c5
      clear c5
      by_cases c6 : x5_1 < (l1.length : Int)
      ·rw [if_pos c6] at H
       have c6b0 : decide (x5_1 < (l1.length : Int)) = true := decide_eq_true c6
       clear c6
       by_cases c7 : (rd l0 x5_1) = (rd l1 x5_1)
       ·rw [if_pos c7] at H
        have c7b0 : ((rd l0 x5_1) == (rd l1 x5_1)) = true := beq_iff_eq.mpr c7
        have c7b1 : ((rd l0 x5_1) != (rd l1 x5_1)) = false := bne_eq_false_iff_eq.mpr c7
        clear c7
        have H' := Aside0.mk H
        clear H
        have p167 : 0 ≤ (x5_1 : Int) := of_decide_eq_true hE
        have q167 : x5_1 < (l0.length : Int) := of_decide_eq_true hE
        obtain ⟨ad167, e167, hx167_0⟩ := Kd.at_int HR0.out x5_1 p167 q167
        cases e167
        replace p167 := eq_true p167
        replace q167 := eq_true q167
        have p168 : 0 ≤ (x5_1 : Int) := of_decide_eq_true hE
        have q168 : x5_1 < (l1.length : Int) := of_decide_eq_true hE
        obtain ⟨ad168, e168, hx168_0⟩ := Kd.at_int HR1.out x5_1 p168 q168
        cases e168
        replace p168 := eq_true p168
        replace q168 := eq_true q168
        go_wp2
        repeat (go_quiet (fail); try go_wp2)
        go_roundg k1
        case measure => have := HK1.out; omega
        case rel => exact ⟨(wrap64 (x5_1 + 1)), tE, H', ⟨by have := HK1.out; omega⟩, by repeat (first | exact Drawn0.refl _ | apply Drawn0.step)⟩
       ·rw [if_neg c7] at H
        have c7b0 : ((rd l0 x5_1) == (rd l1 x5_1)) = false := beq_eq_false_iff_ne.mpr c7
        have c7b1 : ((rd l0 x5_1) != (rd l1 x5_1)) = true := bne_iff_ne.mpr c7
        obtain rfl := Option.some.inj H
        have p167 : 0 ≤ (x5_1 : Int) := of_decide_eq_true hE
        have q167 : x5_1 < (l0.length : Int) := of_decide_eq_true hE
        obtain ⟨ad167, e167, hx167_0⟩ := Kd.at_int HR0.out x5_1 p167 q167
        cases e167
        replace p167 := eq_true p167
        replace q167 := eq_true q167
        have p168 : 0 ≤ (x5_1 : Int) := of_decide_eq_true hE
        have q168 : x5_1 < (l1.length : Int) := of_decide_eq_true hE
        obtain ⟨ad168, e168, hx168_0⟩ := Kd.at_int HR1.out x5_1 p168 q168
        cases e168
        replace p168 := eq_true p168
        replace q168 := eq_true q168
        go_wp2
        repeat (go_quiet (fail); try go_wp2)
        go_ret
        exact ⟨by first | rfl | (simp; done) | (simp [*]; done) | exact not_isEmpty _ | exact (not_isEmpty _).symm | exact is_empty _ | exact (is_empty _).symm, by repeat (first | exact Drawn0.refl _ | apply Drawn0.step)⟩
      ·rw [if_neg c6] at H
       exact absurd H (by simp)
     ·rw [if_neg c5] at H
      exact absurd H (by simp)
    ·rw [if_neg c4] at H
     have c4b0 : decide (x5_1 < (l0.length : Int)) = false := decide_eq_false c4
     clear c4
     obtain rfl := Option.some.inj H
     go_wp2
     repeat (go_quiet (fail); try go_wp2)
     go_ret
     exact ⟨by first | rfl | (simp; done) | (simp [*]; done) | exact not_isEmpty _ | exact (not_isEmpty _).symm | exact is_empty _ | exact (is_empty _).symm, by repeat (first | exact Drawn0.refl _ | apply Drawn0.step)⟩
 ·rw [if_neg c3] at H
  have c3b0 : ((l0.length : Int) == (l1.length : Int)) = false := beq_eq_false_iff_ne.mpr c3
  have c3b1 : ((l0.length : Int) != (l1.length : Int)) = true := bne_iff_ne.mpr c3
  have c3b2 : (l0.length == l1.length) = false := by first | simpa using c3 | (simp at c3 ⊢; omega)
  obtain rfl := Option.some.inj H
  go_enter Try.func89, Try.ntmps89
  go_wp2
  repeat (go_quiet (fail); try go_wp2)
  go_ret
  exact ⟨by first | rfl | (simp; done) | (simp [*]; done) | exact not_isEmpty _ | exact (not_isEmpty _).symm | exact is_empty _ | exact (is_empty _).symm, by repeat (first | exact Drawn0.refl _ | apply Drawn0.step)⟩
def laws_eqIntSS.l0 : Nat → List (List Int) → List (List Int) → Int → Option (Bool)
 | 0, _, _, _ => none
 | k + 1, x0, x1, x5 => if x5 < (x0.length : Int) then (if 0 ≤ x5 then (if x5 < (x1.length : Int) then ((laws_eqIntS.f k (rd_L2 x0 x5) (rd_L2 x1 x5)).bind fun t171 => (if t171 = true then (laws_eqIntSS.l0 k x0 x1 (wrap64 (x5 + 1))) else (some false))) else (none)) else (none)) else (some true)
def laws_eqIntSS.f (k : Nat) (l0 : List (List Int)) (l1 : List (List Int)) : Option (Bool) := if (l0.length : Int) = (l1.length : Int) then (laws_eqIntSS.l0 k l0 l1 0) else (some false)
theorem laws_eqIntSS.mono_l : ∀ k, (∀ y0 y1 y2, LeO (laws_eqIntSS.l0 k y0 y1 y2) (laws_eqIntSS.l0 (k + 1) y0 y1 y2))
 | 0 => fun _ _ _ r h => by simp [laws_eqIntSS.l0] at h
 | k + 1 => by
  have ih0 := laws_eqIntSS.mono_l k
  ·intro y0 y1 y2
   unfold laws_eqIntSS.l0
   repeat' first
   | (with_reducible exact ih0 _ _ _)
   | (with_reducible exact laws_eqIntS.mono _ _ _)
   | (with_reducible exact LeO.refl _)
   | (with_reducible exact LeO.none _)
   | (with_reducible refine LeO.ite ?_ ?_)
   | (with_reducible refine LeO.bind ?_ (fun _ => ?_))
   | exact ih0 _ _ _
   | exact laws_eqIntS.mono _ _ _
   | exact LeO.none _
   | refine LeO.ite ?_ ?_
   | refine LeO.bind ?_ (fun _ => ?_)
theorem laws_eqIntSS.mono : ∀ a0 a1 k, LeO (laws_eqIntSS.f k a0 a1) (laws_eqIntSS.f (k + 1) a0 a1) := by
 intro a0 a1 k
 have ih0 := laws_eqIntSS.mono_l k
 unfold laws_eqIntSS.f
 repeat' first
   | (with_reducible exact ih0 _ _ _)
   | (with_reducible exact laws_eqIntS.mono _ _ _)
   | (with_reducible exact LeO.refl _)
   | (with_reducible exact LeO.none _)
   | (with_reducible refine LeO.ite ?_ ?_)
   | (with_reducible refine LeO.bind ?_ (fun _ => ?_))
   | exact ih0 _ _ _
   | exact laws_eqIntS.mono _ _ _
   | exact LeO.none _
   | refine LeO.ite ?_ ?_
   | refine LeO.bind ?_ (fun _ => ?_)
set_option maxHeartbeats 8000000 in
set_option maxRecDepth 100000 in
theorem laws_eqIntSS.calls (k : Nat) (A0 : Option Addr) (c0 : Nat) (l0 : List (List Int)) (A1 : Option Addr) (c1 : Nat) (l1 : List (List Int)) (r : Bool) (w : World) (hr0 : Kd.C (Kd.slice 3 (Kd.int .i64)) w A0 l0.length l0) (hc0 : l0.length ≤ c0) (hr1 : Kd.C (Kd.slice 3 (Kd.int .i64)) w A1 l1.length l1) (hc1 : l1.length ≤ c1) (h : laws_eqIntSS.f k l0 l1 = some r) :
  Calls Try.prog 55 #[.slice A0 l0.length c0, .slice A1 l1.length c1] w fun e w' => e = .returned (.bool r) ∧ Drawn0 w w' := by
 have HR0 := Aside0.mk hr0
 have HC0 := Aside0.mk hc0
 clear hr0 hc0
 have HR1 := Aside0.mk hr1
 have HC1 := Aside0.mk hc1
 clear hr1 hc1
 have H : (if (l0.length : Int) = (l1.length : Int) then (laws_eqIntSS.l0 k l0 l1 0) else (some false)) = some r := h
 clear h
 by_cases c3 : (l0.length : Int) = (l1.length : Int)
 ·rw [if_pos c3] at H
  have c3b0 : ((l0.length : Int) == (l1.length : Int)) = true := beq_iff_eq.mpr c3
  have c3b1 : ((l0.length : Int) != (l1.length : Int)) = false := bne_eq_false_iff_eq.mpr c3
  have c3b2 : (l0.length == l1.length) = true := by first | simpa using c3 | (simp at c3 ⊢; omega)
  clear c3
  have H' := Aside0.mk H
  clear H
  go_enter Try.func55, Try.ntmps55
  go_wp2
  repeat (go_quiet (fail); try go_wp2)
  go_loopg [5] k (fun kq v5 w' => ∃ (x5_1 : Int), v5 = .int .i64 x5_1 ∧ Aside0 (laws_eqIntSS.l0 kq l0 l1 x5_1 = some r) ∧ Aside0 (kq ≤ k) ∧ Drawn0 w w')
  case atStart => exact ⟨(0), tE, H', ⟨Nat.le_refl _⟩, by repeat (first | exact Drawn0.refl _ | apply Drawn0.step)⟩
  case round =>
   clear H'
   try clear c1
   try clear p2
   try clear c3
   try clear c3b0
   try clear c3b1
   try clear c3b2
   obtain ⟨x5_1, rfl, HA, HK1, ⟨m1, rfl⟩⟩ := hrel
   cases gk with
   | zero => exact absurd HA.out (by simp [laws_eqIntSS.l0])
   | succ k1 =>
    have H := HA.out
    clear HA
    simp only [laws_eqIntSS.l0] at H
    by_cases c4 : x5_1 < (l0.length : Int)
    ·rw [if_pos c4] at H
     have c4b0 : decide (x5_1 < (l0.length : Int)) = true := decide_eq_true c4
     clear c4
     by_cases c5 : 0 ≤ x5_1
     ·rw [if_pos c5] at H
      have c5b0 : decide (0 ≤ x5_1) = true := decide_eq_true c5
      clear c5
      by_cases c6 : x5_1 < (l1.length : Int)
      ·rw [if_pos c6] at H
       have c6b0 : decide (x5_1 < (l1.length : Int)) = true := decide_eq_true c6
       clear c6
       replace H := Option.bind_eq_some_iff.mp H
       obtain ⟨t171, A70, H⟩ := H
       replace H : (if t171 = true then (laws_eqIntSS.l0 k1 l0 l1 (wrap64 (x5_1 + 1))) else (some false)) = some r := H
       have A7 := Aside0.mk A70
       clear A70
       by_cases c8 : t171 = true
       ·subst c8
        have H1 : (laws_eqIntSS.l0 k1 l0 l1 (wrap64 (x5_1 + 1))) = some r := by rw [if_pos rfl] at H; exact H
        clear H
        have H := H1
        clear H1
        have H' := Aside0.mk H
        clear H
        have p169 : 0 ≤ (x5_1 : Int) := of_decide_eq_true hE
        have q169 : x5_1 < (l0.length : Int) := of_decide_eq_true hE
        obtain ⟨ad169, A169_0, c169_0, e169, hx169_0, hl169_0, hi169_0⟩ := at_L2 HR0.out x5_1 p169 q169
        cases e169
        have HR169_0 := Aside0.mk hi169_0
        have HC169_0 := Aside0.mk hl169_0
        clear hi169_0 hl169_0
        replace p169 := eq_true p169
        replace q169 := eq_true q169
        have p170 : 0 ≤ (x5_1 : Int) := of_decide_eq_true hE
        have q170 : x5_1 < (l1.length : Int) := of_decide_eq_true hE
        obtain ⟨ad170, A170_0, c170_0, e170, hx170_0, hl170_0, hi170_0⟩ := at_L2 HR1.out x5_1 p170 q170
        cases e170
        have HR170_0 := Aside0.mk hi170_0
        have HC170_0 := Aside0.mk hl170_0
        clear hi170_0 hl170_0
        replace p170 := eq_true p170
        replace q170 := eq_true q170
        go_wp2_with (first | (go_at_call 89; (with_reducible refine (laws_eqIntS.calls k1 _ _ (rd_L2 l0 x5_1) _ _ (rd_L2 l1 x5_1) true _ ?side1 ?side2 ?side3 ?side4 A7.out).mono ?_); (case side1 => repeat (first | exact HR169_0.out | (with_reducible refine Kd.C_alloc ?_ _) | (with_reducible refine Kd.C_drewN ?_ _) | (with_reducible refine Kd.C_drew ?_))); (case side2 => exact HC169_0.out); (case side3 => repeat (first | exact HR170_0.out | (with_reducible refine Kd.C_alloc ?_ _) | (with_reducible refine Kd.C_drewN ?_ _) | (with_reducible refine Kd.C_drew ?_))); (case side4 => exact HC170_0.out); rintro e w' ⟨rfl, ⟨nd, rfl⟩⟩; (try first | exact ⟨rfl, _, World.drewN_drewN _ _ _⟩ | exact ⟨rfl, _, Eq.trans (World.drewN_drewN _ _ _) (congrArg (World.drewN _) (Nat.add_assoc _ _ _))⟩)))
        repeat (go_quiet (first | (go_at_call 89; (with_reducible refine (laws_eqIntS.calls k1 _ _ (rd_L2 l0 x5_1) _ _ (rd_L2 l1 x5_1) true _ ?side1 ?side2 ?side3 ?side4 A7.out).mono ?_); (case side1 => repeat (first | exact HR169_0.out | (with_reducible refine Kd.C_alloc ?_ _) | (with_reducible refine Kd.C_drewN ?_ _) | (with_reducible refine Kd.C_drew ?_))); (case side2 => exact HC169_0.out); (case side3 => repeat (first | exact HR170_0.out | (with_reducible refine Kd.C_alloc ?_ _) | (with_reducible refine Kd.C_drewN ?_ _) | (with_reducible refine Kd.C_drew ?_))); (case side4 => exact HC170_0.out); rintro e w' ⟨rfl, ⟨nd, rfl⟩⟩; (try first | exact ⟨rfl, _, World.drewN_drewN _ _ _⟩ | exact ⟨rfl, _, Eq.trans (World.drewN_drewN _ _ _) (congrArg (World.drewN _) (Nat.add_assoc _ _ _))⟩))); try go_wp2_with (first | (go_at_call 89; (with_reducible refine (laws_eqIntS.calls k1 _ _ (rd_L2 l0 x5_1) _ _ (rd_L2 l1 x5_1) true _ ?side1 ?side2 ?side3 ?side4 A7.out).mono ?_); (case side1 => repeat (first | exact HR169_0.out | (with_reducible refine Kd.C_alloc ?_ _) | (with_reducible refine Kd.C_drewN ?_ _) | (with_reducible refine Kd.C_drew ?_))); (case side2 => exact HC169_0.out); (case side3 => repeat (first | exact HR170_0.out | (with_reducible refine Kd.C_alloc ?_ _) | (with_reducible refine Kd.C_drewN ?_ _) | (with_reducible refine Kd.C_drew ?_))); (case side4 => exact HC170_0.out); rintro e w' ⟨rfl, ⟨nd, rfl⟩⟩; (try first | exact ⟨rfl, _, World.drewN_drewN _ _ _⟩ | exact ⟨rfl, _, Eq.trans (World.drewN_drewN _ _ _) (congrArg (World.drewN _) (Nat.add_assoc _ _ _))⟩))))
        go_roundg k1
        case measure => have := HK1.out; omega
        case rel => exact ⟨(wrap64 (x5_1 + 1)), tE, H', ⟨by have := HK1.out; omega⟩, by repeat (first | exact Drawn0.refl _ | apply Drawn0.step)⟩
       ·replace c8 := Bool.eq_false_iff.mpr c8
        subst c8
        have H1 : (some false) = some r := by rw [if_neg (show ¬ (false = true) by decide)] at H; exact H
        clear H
        have H := H1
        clear H1
        obtain rfl := Option.some.inj H
        have p169 : 0 ≤ (x5_1 : Int) := of_decide_eq_true hE
        have q169 : x5_1 < (l0.length : Int) := of_decide_eq_true hE
        obtain ⟨ad169, A169_0, c169_0, e169, hx169_0, hl169_0, hi169_0⟩ := at_L2 HR0.out x5_1 p169 q169
        cases e169
        have HR169_0 := Aside0.mk hi169_0
        have HC169_0 := Aside0.mk hl169_0
        clear hi169_0 hl169_0
        replace p169 := eq_true p169
        replace q169 := eq_true q169
        have p170 : 0 ≤ (x5_1 : Int) := of_decide_eq_true hE
        have q170 : x5_1 < (l1.length : Int) := of_decide_eq_true hE
        obtain ⟨ad170, A170_0, c170_0, e170, hx170_0, hl170_0, hi170_0⟩ := at_L2 HR1.out x5_1 p170 q170
        cases e170
        have HR170_0 := Aside0.mk hi170_0
        have HC170_0 := Aside0.mk hl170_0
        clear hi170_0 hl170_0
        replace p170 := eq_true p170
        replace q170 := eq_true q170
        go_wp2_with (first | (go_at_call 89; (with_reducible refine (laws_eqIntS.calls k1 _ _ (rd_L2 l0 x5_1) _ _ (rd_L2 l1 x5_1) false _ ?side1 ?side2 ?side3 ?side4 A7.out).mono ?_); (case side1 => repeat (first | exact HR169_0.out | (with_reducible refine Kd.C_alloc ?_ _) | (with_reducible refine Kd.C_drewN ?_ _) | (with_reducible refine Kd.C_drew ?_))); (case side2 => exact HC169_0.out); (case side3 => repeat (first | exact HR170_0.out | (with_reducible refine Kd.C_alloc ?_ _) | (with_reducible refine Kd.C_drewN ?_ _) | (with_reducible refine Kd.C_drew ?_))); (case side4 => exact HC170_0.out); rintro e w' ⟨rfl, ⟨nd, rfl⟩⟩; (try first | exact ⟨rfl, _, World.drewN_drewN _ _ _⟩ | exact ⟨rfl, _, Eq.trans (World.drewN_drewN _ _ _) (congrArg (World.drewN _) (Nat.add_assoc _ _ _))⟩)))
        repeat (go_quiet (first | (go_at_call 89; (with_reducible refine (laws_eqIntS.calls k1 _ _ (rd_L2 l0 x5_1) _ _ (rd_L2 l1 x5_1) false _ ?side1 ?side2 ?side3 ?side4 A7.out).mono ?_); (case side1 => repeat (first | exact HR169_0.out | (with_reducible refine Kd.C_alloc ?_ _) | (with_reducible refine Kd.C_drewN ?_ _) | (with_reducible refine Kd.C_drew ?_))); (case side2 => exact HC169_0.out); (case side3 => repeat (first | exact HR170_0.out | (with_reducible refine Kd.C_alloc ?_ _) | (with_reducible refine Kd.C_drewN ?_ _) | (with_reducible refine Kd.C_drew ?_))); (case side4 => exact HC170_0.out); rintro e w' ⟨rfl, ⟨nd, rfl⟩⟩; (try first | exact ⟨rfl, _, World.drewN_drewN _ _ _⟩ | exact ⟨rfl, _, Eq.trans (World.drewN_drewN _ _ _) (congrArg (World.drewN _) (Nat.add_assoc _ _ _))⟩))); try go_wp2_with (first | (go_at_call 89; (with_reducible refine (laws_eqIntS.calls k1 _ _ (rd_L2 l0 x5_1) _ _ (rd_L2 l1 x5_1) false _ ?side1 ?side2 ?side3 ?side4 A7.out).mono ?_); (case side1 => repeat (first | exact HR169_0.out | (with_reducible refine Kd.C_alloc ?_ _) | (with_reducible refine Kd.C_drewN ?_ _) | (with_reducible refine Kd.C_drew ?_))); (case side2 => exact HC169_0.out); (case side3 => repeat (first | exact HR170_0.out | (with_reducible refine Kd.C_alloc ?_ _) | (with_reducible refine Kd.C_drewN ?_ _) | (with_reducible refine Kd.C_drew ?_))); (case side4 => exact HC170_0.out); rintro e w' ⟨rfl, ⟨nd, rfl⟩⟩; (try first | exact ⟨rfl, _, World.drewN_drewN _ _ _⟩ | exact ⟨rfl, _, Eq.trans (World.drewN_drewN _ _ _) (congrArg (World.drewN _) (Nat.add_assoc _ _ _))⟩))))
        go_ret
        exact ⟨by first | rfl | (simp; done) | (simp [*]; done) | exact not_isEmpty _ | exact (not_isEmpty _).symm | exact is_empty _ | exact (is_empty _).symm, by repeat (first | exact Drawn0.refl _ | apply Drawn0.step)⟩
      ·rw [if_neg c6] at H
       exact absurd H (by simp)
     ·rw [if_neg c5] at H
      exact absurd H (by simp)
    ·rw [if_neg c4] at H
     have c4b0 : decide (x5_1 < (l0.length : Int)) = false := decide_eq_false c4
     clear c4
     obtain rfl := Option.some.inj H
     go_wp2
     repeat (go_quiet (fail); try go_wp2)
     go_ret
     exact ⟨by first | rfl | (simp; done) | (simp [*]; done) | exact not_isEmpty _ | exact (not_isEmpty _).symm | exact is_empty _ | exact (is_empty _).symm, by repeat (first | exact Drawn0.refl _ | apply Drawn0.step)⟩
 ·rw [if_neg c3] at H
  have c3b0 : ((l0.length : Int) == (l1.length : Int)) = false := beq_eq_false_iff_ne.mpr c3
  have c3b1 : ((l0.length : Int) != (l1.length : Int)) = true := bne_iff_ne.mpr c3
  have c3b2 : (l0.length == l1.length) = false := by first | simpa using c3 | (simp at c3 ⊢; omega)
  obtain rfl := Option.some.inj H
  go_enter Try.func55, Try.ntmps55
  go_wp2
  repeat (go_quiet (fail); try go_wp2)
  go_ret
  exact ⟨by first | rfl | (simp; done) | (simp [*]; done) | exact not_isEmpty _ | exact (not_isEmpty _).symm | exact is_empty _ | exact (is_empty _).symm, by repeat (first | exact Drawn0.refl _ | apply Drawn0.step)⟩
end Go.Proofs.Ytifejplilaefiaa.PFnExactNewPeer
