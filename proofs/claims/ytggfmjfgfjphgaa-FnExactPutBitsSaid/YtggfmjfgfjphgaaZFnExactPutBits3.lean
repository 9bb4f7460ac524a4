/- Texts of a row. -/
import Derived.Test.YtggfmjfgfjphgaaZFnExactPutBits0
import Derived.Deep.RegionLaw
import Derived.Lib.SliceRun
import Derived.Laws.Externs
import Derived.Lib.Bytealg
import Derived.Laws.CopyOwn
import Derived.Lib.Overlaps
import Derived.Lib.AppendZerosOnto
import Derived.Laws.AppendOwn
import Derived.Test.YtggfmjfgfjphgaaZFnExactPutBits1
import Derived.Test.YtggfmjfgfjphgaaProg
import Derived.Below
import Derived.Deep.Draws
import Derived.Deep.AppendLies
import Derived.Maps.AppendAt
import Derived.OwnWalk
import Derived.Laws.BytesArg
import Derived.Laws.MakeOwn
import Derived.Laws.OwnMore
import Derived.Deep.OwnRows
import Derived.Tactics
import Derived.Lib.ConvBytes
import Derived.Laws.Slices
import Derived.WalkKit
import Derived.KernelRfl
import Derived.RowKit3
import Derived.Deep.LoopGhost
import Derived.Deep.QuietTactic
import Derived.BigQuiet
import Derived.WideLaws
import Derived.Deep.DeepCutAuto
import Derived.Deep.CutBlock
import Derived.Deep.RegionHeld3
import Derived.Laws.Rows
import Derived.Lib.AppendStr
import Derived.ArgAppend
import Derived.Laws.IdiomCopy
import Derived.OrdersHeld
import Derived.Laws.BitsLemmas
import Derived.RowKit
import Derived.Laws.Cover1
import Derived.Test.YtggfmjfgfjphgaaZFnExactPutBits2
namespace Go.Proofs.YtggfmjfgfjphgaaW.PrintWords
open Go.RowKit
namespace Kd
section
variable {P : Program} {α : Type}
end
end Kd
end Go.Proofs.YtggfmjfgfjphgaaW.PrintWords
namespace Go.Proofs.YtggfmjfgfjphgaaW.PrintLast
open Go.RowKit Go.Proofs.YtggfmjfgfjphgaaW.PrintWords
def bz (n m : Nat) : Array Bool := ((List.range n).map fun i => m.testBit i).toArray
section
variable {P : Program} {ops : Array Oper} {Q : Exit → Act → World → Prop} {md : Region.Mode} {S : World → Prop} {ds : List Nat}
theorem pureA (i : Nat) (N : Tmp) {oi : Oper} {v : Value} {fuel : Nat} {l : Array Bool} {a : Act} {w : World} (l' : Array Bool) {a' : Act} (hi : ops[i]? = some oi) (hN : oi.dst = some N) (hc : anyB md ops l l' i = true) (h : wpAnyLast P md ops Q S ds fuel l' a' w)
    (hQ : ∀ c a w, Q (.panic c) (a.put oi.dst v) w → Q (.panic c) a w := by exact fun _ _ _ h => h) (hw : Region.wanted oi (yielded ops a.tmps) = true := by rfl)
    (hy : ∀ w, (execOp a.eval oi).run P w = .ok (.value v) w := by intro w'; go_simp; with_reducible rfl) (ha : a.put (some N) v = a' := by simp only [Act.put, List.setIfInBounds_toArray, List.set_cons_zero, List.set_cons_succ, i64_w, i32_w]; rfl) : wpAnyLast P md ops Q S ds (fuel + 1) l a w :=
  pure_ l' hi hN hc hQ (Or.inl ⟨hw, hy⟩) ha h
theorem takeA (i : Nat) (N : Tmp) {oi : Oper} {v : Value} {fuel : Nat} {l : Array Bool} {a : Act} {w : World} (l' : Array Bool) {a' : Act} (hi : ops[i]? = some oi) (hN : oi.dst = some N) (hc : takeB md ops ds l l' i = true) (hS : S w) (hy : ∀ w, S w → (execOp a.eval oi).run P w = .ok (.value v) w) (h : wpAnyLast P md ops Q S ds fuel l' a' w)
    (hQ : ∀ c a w, Q (.panic c) (a.put oi.dst v) w → Q (.panic c) a w := by exact fun _ _ _ h => h) (hw : Region.wanted oi (yielded ops a.tmps) = true := by rfl)
    (ha : a.put (some N) v = a' := by simp only [Act.put, List.setIfInBounds_toArray, List.set_cons_zero, List.set_cons_succ, i64_w, i32_w]; rfl) : wpAnyLast P md ops Q S ds (fuel + 1) l a w :=
  take_ l' hi hN hc hQ (Or.inl ⟨hw, hy⟩) hS ha h
end
end Go.Proofs.YtggfmjfgfjphgaaW.PrintLast
namespace Go.Proofs.YtggfmjfgfjphgaaW.PrintWords
open Go.RowKit
end Go.Proofs.YtggfmjfgfjphgaaW.PrintWords
namespace Go.Proofs.YtggfmjfgfjphgaaW.PrintWords
open Go.RowKit
section
variable {P : Program} {ops : Array Oper} {o : Oper} {a : Act} {Q : Exit → Act → World → Prop} {Kc : Act → World → Prop}
end
end Go.Proofs.YtggfmjfgfjphgaaW.PrintWords
namespace Go.Proofs.YtggfmjfgfjphgaaW.PrintWords
open Go.RowKit
namespace Kd
section
variable {α : Type} {d : Kd α} {e base : Nat} {ok : Nat → Prop} {W : World} {u : Value} {xs : List α} {PS : Nat → Prop} {L : List Nat}
end
end Kd
end Go.Proofs.YtggfmjfgfjphgaaW.PrintWords
namespace Go.Proofs.YtggfmjfgfjphgaaW.PrintWords
open Go.RowKit
end Go.Proofs.YtggfmjfgfjphgaaW.PrintWords
set_option linter.unusedSimpArgs false
set_option linter.unusedVariables false
namespace Go
end Go
namespace Go.Proofs.YtggfmjfgfjphgaaW.PrintWords
open Go.RowKit
namespace Kd
section
variable {P : Program} {α : Type}
def T (d : Kd α) (e : Nat) (W : World) (base : Nat) (ok : Nat → Prop) (g c : Nat) (pre : List α) : Prop :=
  ok g ∧ ∃ inner cur, base ≤ g ∧ W.heap[g]? = some (.cells cur e (0, 0)) ∧ cur.size = c * d.sz ∧ pre.length ≤ c ∧ c ≤ maxLen ∧ cur.toList.take (pre.length * d.sz) = inner ∧ Reps (d.M W base (fun k' => ok k' ∧ some k' ≠ some g)) d.sz pre inner
end
end Kd
end Go.Proofs.YtggfmjfgfjphgaaW.PrintWords
namespace Go.Proofs.YtggfmjfgfjphgaaW.PrintLast
section
variable {P : Program} {ops : Array Oper} {Q : Exit → Act → World → Prop} {md : Region.Mode} {S T : World → Prop} {ds : List Nat}
end
end Go.Proofs.YtggfmjfgfjphgaaW.PrintLast
namespace Go.Proofs.Ytggfmjfgfjphgaa.PFnExactPutBits
open Go.RowKit Go.Proofs.YtggfmjfgfjphgaaW.PrintWords Go.Proofs.YtggfmjfgfjphgaaW.PrintLast Go.Proofs.YtggfmjfgfjphgaaW.PrintMore
attribute [local go_sem] max2_int min2_int max_two min_two max_three min_three max_four min_four   -- for this text's walks alone
set_option linter.unusedVariables false
set_option linter.unusedSimpArgs false
def errW : Option Int → Value
 | none => .nilIface
 | some c => .iface 0 (.int .i64 c)
theorem errW_none : errW none = .nilIface := rfl
theorem errW_some (c : Int) : errW (some c) = .iface 0 (.int .i64 c) := rfl
theorem info5 : (Try.prog.info? 5).map (fun i => (i.zero, i.size, i.bytes)) = some (some (.int .u8 0), 1, 1) := by kernel_rfl
end Go.Proofs.Ytggfmjfgfjphgaa.PFnExactPutBits
namespace Go.Proofs.Ytggfmjfgfjphgaa.PFnExactPutBits
open Go.RowKit Go.Proofs.YtggfmjfgfjphgaaW.PrintWords Go.Proofs.YtggfmjfgfjphgaaW.PrintLast Go.Proofs.YtggfmjfgfjphgaaW.PrintMore
attribute [local go_sem] max2_int min2_int max_two min_two max_three min_three max_four min_four   -- for this text's walks alone
set_option linter.unusedVariables false
set_option linter.unusedSimpArgs false
def laws_szByteS.f (l0 : List Int) (a1 : Int) : Option (Int) := if (wrap64 (a1 - (l0.length : Int))) < 0 then (some (-1)) else (some (wrap64 (a1 - (l0.length : Int))))
set_option maxHeartbeats 8000000 in
set_option maxRecDepth 100000 in
theorem laws_szByteS.calls (A0 : Option Addr) (c0 : Nat) (l0 : List Int) (a1 : Int) (r : Int) (w : World) (hr0 : Kd.C (Kd.int .u8) w A0 l0.length l0) (hc0 : l0.length ≤ c0) (h : laws_szByteS.f l0 a1 = some r) :
  Calls Try.prog 11 #[.slice A0 l0.length c0, .int .i64 a1] w fun e w' => e = .returned (.int .i64 r) ∧ Drawn0 w w' := by
 have HR0 := Aside0.mk hr0
 have HC0 := Aside0.mk hc0
 clear hr0 hc0
 have H : (if (wrap64 (a1 - (l0.length : Int))) < 0 then (some (-1)) else (some (wrap64 (a1 - (l0.length : Int))))) = some r := h
 clear h
 by_cases c3 : (wrap64 (a1 - (l0.length : Int))) < 0
 ·rw [if_pos c3] at H
  have c3b0 : decide ((wrap64 (a1 - (l0.length : Int))) < 0) = true := decide_eq_true c3
  clear c3
  obtain rfl := Option.some.inj H
  go_enter Try.func11, Try.ntmps11
  go_wp2
  go_ret
  exact ⟨by first | rfl | (simp; done) | (simp [*]; done) | exact not_isEmpty _ | exact (not_isEmpty _).symm | exact is_empty _ | exact (is_empty _).symm, by repeat (first | exact Drawn0.refl _ | apply Drawn0.step)⟩
 ·rw [if_neg c3] at H
  have c3b0 : decide ((wrap64 (a1 - (l0.length : Int))) < 0) = false := decide_eq_false c3
  clear c3
  obtain rfl := Option.some.inj H
  go_enter Try.func11, Try.ntmps11
  go_wp2
  go_ret
  exact ⟨by first | rfl | (simp; done) | (simp [*]; done) | exact not_isEmpty _ | exact (not_isEmpty _).symm | exact is_empty _ | exact (is_empty _).symm, by repeat (first | exact Drawn0.refl _ | apply Drawn0.step)⟩
def laws_szBits.f (a0_0 : Int) (l0_1 : List Int) (a1 : Int) : Option (Int) := (laws_szByteS.f l0_1 a1).bind fun t102 => (if t102 < 0 then (some (-1)) else (some t102))
set_option maxHeartbeats 8000000 in
set_option maxRecDepth 100000 in
theorem laws_szBits.calls (a0_0 : Int) (A0_1 : Option Addr) (c0_1 : Nat) (l0_1 : List Int) (a1 : Int) (r : Int) (w : World) (hr0_1 : Kd.C (Kd.int .u8) w A0_1 l0_1.length l0_1) (hc0_1 : l0_1.length ≤ c0_1) (h : laws_szBits.f a0_0 l0_1 a1 = some r) :
  Calls Try.prog 4 #[.agg #[.int .i64 a0_0, .slice A0_1 l0_1.length c0_1], .int .i64 a1] w fun e w' => e = .returned (.int .i64 r) ∧ Below w.heap.size w w' := by
 have hu24 := Try.underlying24
 have HR0_1 := Aside0.mk hr0_1
 have HC0_1 := Aside0.mk hc0_1
 clear hr0_1 hc0_1
 have HB := Aside0.mk (Below.refl w.heap.size w)
 have H : ((laws_szByteS.f l0_1 a1).bind fun t102 => (if t102 < 0 then (some (-1)) else (some t102))) = some r := h
 clear h
 replace H := Option.bind_eq_some_iff.mp H
 obtain ⟨t102, A30, H⟩ := H
 replace H : (if t102 < 0 then (some (-1)) else (some t102)) = some r := H
 have A3 := Aside0.mk A30
 clear A30
 by_cases c4 : t102 < 0
 ·rw [if_pos c4] at H
  have c4b0 : decide (t102 < 0) = true := decide_eq_true c4
  clear c4
  obtain rfl := Option.some.inj H
  go_enter Try.func4, Try.ntmps4
  go_wp2_with (first | ((with_reducible refine gate_dst (N := 2) rfl ?_); refine box_event rfl (N := 2) rfl (cs := #[.int .i64 a0_0, .slice A0_1 l0_1.length c0_1]) (t := 24) sE ?_; intro gb101 hg w5 hbox hb; have BK101 := Aside0.mk hbox; have GW101 := gS w hg (lU); have GE101 := gS w hg (lU); replace HB := bH (lU) hb; clear hb hbox hg; have hcz6_0 := cz BK101 0 (.int .i64 a0_0); have hcz6_1 := cz BK101 1 (.slice A0_1 l0_1.length c0_1); have hfz6_0 := fz BK101 0; have hfz6_1 := fz BK101 1) | ((with_reducible refine gate_callee (f := 11) rfl ?_); refine goesL_ (some 8) rfl rfl Try.func11 (by kernel_rfl) rfl #[.slice A0_1 l0_1.length c0_1, .int .i64 a1] rfl aE ?_; (with_reducible refine (laws_szByteS.calls _ _ l0_1 a1 t102 _ ?side1 ?side2 A3.out).mono ?_); (case side1 => exact cU (Kd.C_below HR0_1.out HB.out)); (case side2 => exact HC0_1.out); rintro e w' ⟨rfl, ⟨nd, rfl⟩⟩; refine ⟨_, rfl, ?_⟩))
  go_ret
  exact ⟨eE, lV1 GE101⟩
 ·rw [if_neg c4] at H
  have c4b0 : decide (t102 < 0) = false := decide_eq_false c4
  clear c4
  obtain rfl := Option.some.inj H
  go_enter Try.func4, Try.ntmps4
  go_wp2_with (first | ((with_reducible refine gate_dst (N := 2) rfl ?_); refine box_event rfl (N := 2) rfl (cs := #[.int .i64 a0_0, .slice A0_1 l0_1.length c0_1]) (t := 24) sE ?_; intro gb101 hg w7 hbox hb; have BK101 := Aside0.mk hbox; have GW101 := gS w hg (lU); have GE101 := gS w hg (lU); replace HB := bH (lU) hb; clear hb hbox hg; have hcz8_0 := cz BK101 0 (.int .i64 a0_0); have hcz8_1 := cz BK101 1 (.slice A0_1 l0_1.length c0_1); have hfz8_0 := fz BK101 0; have hfz8_1 := fz BK101 1) | ((with_reducible refine gate_callee (f := 11) rfl ?_); refine goesL_ (some 8) rfl rfl Try.func11 (by kernel_rfl) rfl #[.slice A0_1 l0_1.length c0_1, .int .i64 a1] rfl aE ?_; (with_reducible refine (laws_szByteS.calls _ _ l0_1 a1 t102 _ ?side1 ?side2 A3.out).mono ?_); (case side1 => exact cU (Kd.C_below HR0_1.out HB.out)); (case side2 => exact HC0_1.out); rintro e w' ⟨rfl, ⟨nd, rfl⟩⟩; refine ⟨_, rfl, ?_⟩))
  go_ret
  exact ⟨eE, lV1 GE101⟩
def spec_l1In.f (a0 : Int) (a1 : Int) (a2 : Int) : Option (Bool) := if a0 ≥ a1 then (some (decide (a0 ≤ a2))) else (some false)
set_option maxHeartbeats 8000000 in
set_option maxRecDepth 100000 in
theorem spec_l1In.calls (a0 : Int) (a1 : Int) (a2 : Int) (r : Bool) (w : World) (h : spec_l1In.f a0 a1 a2 = some r) :
  Calls Try.prog 13 #[.int .i64 a0, .int .i64 a1, .int .i64 a2] w fun e w' => e = .returned (.bool r) ∧ Drawn0 w w' := by
 have H : (if a0 ≥ a1 then (some (decide (a0 ≤ a2))) else (some false)) = some r := h
 clear h
 by_cases c4 : a0 ≥ a1
 ·rw [if_pos c4] at H
  have c4b0 : decide (a1 ≤ a0) = true := decide_eq_true c4
  clear c4
  obtain rfl := Option.some.inj H
  go_enter Try.func13, Try.ntmps13
  go_wp2
  go_ret
  exact ⟨by first | rfl | (simp; done) | (simp [*]; done) | exact not_isEmpty _ | exact (not_isEmpty _).symm | exact is_empty _ | exact (is_empty _).symm, by repeat (first | exact Drawn0.refl _ | apply Drawn0.step)⟩
 ·rw [if_neg c4] at H
  have c4b0 : decide (a1 ≤ a0) = false := decide_eq_false c4
  clear c4
  obtain rfl := Option.some.inj H
  go_enter Try.func13, Try.ntmps13
  go_wp2
  go_ret
  exact ⟨by first | rfl | (simp; done) | (simp [*]; done) | exact not_isEmpty _ | exact (not_isEmpty _).symm | exact is_empty _ | exact (is_empty _).symm, by repeat (first | exact Drawn0.refl _ | apply Drawn0.step)⟩
def spec_GoodBits.f (a0_0 : Int) (l0_1 : List Int) : Option (Bool) := (spec_l1In.f a0_0 0 4000).bind fun t104 => (if t104 = true then (if (l0_1.length : Int) = (wrap64 (Int.tdiv (wrap64 (a0_0 + 7)) 8)) then (if (Int.tmod a0_0 8) = 0 then (some true) else (if 0 ≤ (wrap64 ((l0_1.length : Int) - 1)) then (if (wrap64 ((l0_1.length : Int) - 1)) < (l0_1.length : Int) then (if 0 ≤ (IntKind.u64.wrap (Int.tmod a0_0 8)) then (some ((shl .u8 (rd l0_1 (wrap64 ((l0_1.length : Int) - 1))) (IntKind.u64.wrap (Int.tmod a0_0 8))) == 0)) else (none)) else (none)) else (none))) else (some false)) else (some false))
set_option maxHeartbeats 8000000 in
set_option maxRecDepth 100000 in
theorem spec_GoodBits.calls (a0_0 : Int) (A0_1 : Option Addr) (c0_1 : Nat) (l0_1 : List Int) (r : Bool) (w : World) (hr0_1 : Kd.C (Kd.int .u8) w A0_1 l0_1.length l0_1) (hc0_1 : l0_1.length ≤ c0_1) (h : spec_GoodBits.f a0_0 l0_1 = some r) :
  Calls Try.prog 12 #[.agg #[.int .i64 a0_0, .slice A0_1 l0_1.length c0_1]] w fun e w' => e = .returned (.bool r) ∧ Below w.heap.size w w' := by
 have hu26 := Try.underlying26
 have HR0_1 := Aside0.mk hr0_1
 have HC0_1 := Aside0.mk hc0_1
 clear hr0_1 hc0_1
 have HB := Aside0.mk (Below.refl w.heap.size w)
 have H : ((spec_l1In.f a0_0 0 4000).bind fun t104 => (if t104 = true then (if (l0_1.length : Int) = (wrap64 (Int.tdiv (wrap64 (a0_0 + 7)) 8)) then (if (Int.tmod a0_0 8) = 0 then (some true) else (if 0 ≤ (wrap64 ((l0_1.length : Int) - 1)) then (if (wrap64 ((l0_1.length : Int) - 1)) < (l0_1.length : Int) then (if 0 ≤ (IntKind.u64.wrap (Int.tmod a0_0 8)) then (some ((shl .u8 (rd l0_1 (wrap64 ((l0_1.length : Int) - 1))) (IntKind.u64.wrap (Int.tmod a0_0 8))) == 0)) else (none)) else (none)) else (none))) else (some false)) else (some false))) = some r := h
 clear h
 replace H := Option.bind_eq_some_iff.mp H
 obtain ⟨t104, A20, H⟩ := H
 replace H : (if t104 = true then (if (l0_1.length : Int) = (wrap64 (Int.tdiv (wrap64 (a0_0 + 7)) 8)) then (if (Int.tmod a0_0 8) = 0 then (some true) else (if 0 ≤ (wrap64 ((l0_1.length : Int) - 1)) then (if (wrap64 ((l0_1.length : Int) - 1)) < (l0_1.length : Int) then (if 0 ≤ (IntKind.u64.wrap (Int.tmod a0_0 8)) then (some ((shl .u8 (rd l0_1 (wrap64 ((l0_1.length : Int) - 1))) (IntKind.u64.wrap (Int.tmod a0_0 8))) == 0)) else (none)) else (none)) else (none))) else (some false)) else (some false)) = some r := H
 have A2 := Aside0.mk A20
 clear A20
 by_cases c3 : t104 = true
 ·subst c3
  have H1 : (if (l0_1.length : Int) = (wrap64 (Int.tdiv (wrap64 (a0_0 + 7)) 8)) then (if (Int.tmod a0_0 8) = 0 then (some true) else (if 0 ≤ (wrap64 ((l0_1.length : Int) - 1)) then (if (wrap64 ((l0_1.length : Int) - 1)) < (l0_1.length : Int) then (if 0 ≤ (IntKind.u64.wrap (Int.tmod a0_0 8)) then (some ((shl .u8 (rd l0_1 (wrap64 ((l0_1.length : Int) - 1))) (IntKind.u64.wrap (Int.tmod a0_0 8))) == 0)) else (none)) else (none)) else (none))) else (some false)) = some r := by rw [if_pos rfl] at H; exact H
  clear H
  have H := H1
  clear H1
  by_cases c4 : (l0_1.length : Int) = (wrap64 (Int.tdiv (wrap64 (a0_0 + 7)) 8))
  ·rw [if_pos c4] at H
   have c4b0 : ((l0_1.length : Int) == (wrap64 (Int.tdiv (wrap64 (a0_0 + 7)) 8))) = true := beq_iff_eq.mpr c4
   have c4b1 : ((l0_1.length : Int) != (wrap64 (Int.tdiv (wrap64 (a0_0 + 7)) 8))) = false := bne_eq_false_iff_eq.mpr c4
   clear c4
   by_cases c5 : (Int.tmod a0_0 8) = 0
   ·rw [if_pos c5] at H
    have c5b0 : ((Int.tmod a0_0 8) == 0) = true := beq_iff_eq.mpr c5
    have c5b1 : ((Int.tmod a0_0 8) != 0) = false := bne_eq_false_iff_eq.mpr c5
    clear c5
    obtain rfl := Option.some.inj H
    go_enter Try.func12, Try.ntmps12
    go_wp2_with (first | ((with_reducible refine gate_dst (N := 1) rfl ?_); (try (refine gate_guard (by rfl) ?_; dsimp only)); refine box_event rfl (N := 1) rfl (cs := #[.int .i64 a0_0, .slice A0_1 l0_1.length c0_1]) (t := 26) sE ?_; intro gb103 hg w6 hbox hb; have BK103 := Aside0.mk hbox; have GW103 := gS w hg (lU); have GE103 := gS w hg (lU); replace HB := bH (lU) hb; clear hb hbox hg; have hcz7_0 := cz BK103 0 (.int .i64 a0_0); have hcz7_1 := cz BK103 1 (.slice A0_1 l0_1.length c0_1); have hfz7_0 := fz BK103 0; have hfz7_1 := fz BK103 1) | (go_at_call 13; (with_reducible refine (spec_l1In.calls a0_0 0 4000 true _ A2.out).mono ?_); rintro e w' ⟨rfl, ⟨nd, rfl⟩⟩; (try first | exact ⟨rfl, _, World.drewN_drewN _ _ _⟩ | exact ⟨rfl, _, Eq.trans (World.drewN_drewN _ _ _) (congrArg (World.drewN _) (Nat.add_assoc _ _ _))⟩)))
    repeat (go_quiet (first | ((with_reducible refine gate_dst (N := 1) rfl ?_); (try (refine gate_guard (by rfl) ?_; dsimp only)); refine box_event rfl (N := 1) rfl (cs := #[.int .i64 a0_0, .slice A0_1 l0_1.length c0_1]) (t := 26) sE ?_; intro gb103 hg w6 hbox hb; have BK103 := Aside0.mk hbox; have GW103 := gS w hg (lU); have GE103 := gS w hg (lU); replace HB := bH (lU) hb; clear hb hbox hg; have hcz7_0 := cz BK103 0 (.int .i64 a0_0); have hcz7_1 := cz BK103 1 (.slice A0_1 l0_1.length c0_1); have hfz7_0 := fz BK103 0; have hfz7_1 := fz BK103 1) | (go_at_call 13; (with_reducible refine (spec_l1In.calls a0_0 0 4000 true _ A2.out).mono ?_); rintro e w' ⟨rfl, ⟨nd, rfl⟩⟩; (try first | exact ⟨rfl, _, World.drewN_drewN _ _ _⟩ | exact ⟨rfl, _, Eq.trans (World.drewN_drewN _ _ _) (congrArg (World.drewN _) (Nat.add_assoc _ _ _))⟩))); try go_wp2_with (first | ((with_reducible refine gate_dst (N := 1) rfl ?_); (try (refine gate_guard (by rfl) ?_; dsimp only)); refine box_event rfl (N := 1) rfl (cs := #[.int .i64 a0_0, .slice A0_1 l0_1.length c0_1]) (t := 26) sE ?_; intro gb103 hg w6 hbox hb; have BK103 := Aside0.mk hbox; have GW103 := gS w hg (lU); have GE103 := gS w hg (lU); replace HB := bH (lU) hb; clear hb hbox hg; have hcz7_0 := cz BK103 0 (.int .i64 a0_0); have hcz7_1 := cz BK103 1 (.slice A0_1 l0_1.length c0_1); have hfz7_0 := fz BK103 0; have hfz7_1 := fz BK103 1) | (go_at_call 13; (with_reducible refine (spec_l1In.calls a0_0 0 4000 true _ A2.out).mono ?_); rintro e w' ⟨rfl, ⟨nd, rfl⟩⟩; (try first | exact ⟨rfl, _, World.drewN_drewN _ _ _⟩ | exact ⟨rfl, _, Eq.trans (World.drewN_drewN _ _ _) (congrArg (World.drewN _) (Nat.add_assoc _ _ _))⟩))))
    go_ret
    exact ⟨eE, lV1 GE103⟩
   ·rw [if_neg c5] at H
    have c5b0 : ((Int.tmod a0_0 8) == 0) = false := beq_eq_false_iff_ne.mpr c5
    have c5b1 : ((Int.tmod a0_0 8) != 0) = true := bne_iff_ne.mpr c5
    obtain ⟨ji8, hji8⟩ : ∃ j_ : Int, (wrap64 ((l0_1.length : Int) - 1)) = j_ := ⟨_, rfl⟩
    replace H : (if 0 ≤ (ji8) then (if (ji8) < (l0_1.length : Int) then (if 0 ≤ (IntKind.u64.wrap (Int.tmod a0_0 8)) then (some ((shl .u8 (rd l0_1 (ji8)) (IntKind.u64.wrap (Int.tmod a0_0 8))) == 0)) else (none)) else (none)) else (none)) = some r := by first | (rw [hji8] at H; exact H) | (simp only [hji8] at H ⊢; exact H)
    (try rw [hji8] at A2)
    have hji8w : (IntKind.i64.wrap ((l0_1.length : Int) - 1)) = ji8 := (i64_w _).trans hji8
    by_cases c9 : 0 ≤ (ji8)
    ·rw [if_pos c9] at H
     have c9b0 : decide (0 ≤ (ji8)) = true := decide_eq_true c9
     clear c9
     by_cases c10 : (ji8) < (l0_1.length : Int)
     ·rw [if_pos c10] at H
      have c10b0 : decide ((ji8) < (l0_1.length : Int)) = true := decide_eq_true c10
      clear c10
      obtain ⟨ji11, hji11⟩ : ∃ j_ : Int, (IntKind.u64.wrap (Int.tmod a0_0 8)) = j_ := ⟨_, rfl⟩
      replace H : (if 0 ≤ (ji11) then (some ((shl .u8 (rd l0_1 (ji8)) (ji11)) == 0)) else (none)) = some r := by first | (rw [hji11] at H; exact H) | (simp only [hji11] at H ⊢; exact H)
      (try rw [hji11] at A2)
      by_cases c12 : 0 ≤ (ji11)
      ·rw [if_pos c12] at H
       have c12b0 := eq_true c12
       have c12b1 : decide (0 ≤ (ji11)) = true := decide_eq_true c12
       clear c12
       obtain ⟨ji13, hji13⟩ : ∃ j_ : Int, (shl .u8 (rd l0_1 (ji8)) (ji11)) = j_ := ⟨_, rfl⟩
       replace H : (some ((ji13) == 0)) = some r := by first | (rw [hji13] at H; exact H) | (simp only [hji13] at H ⊢; exact H)
       (try rw [hji13] at A2)
       have hji13_ : (IntKind.u8.wrap ((rd l0_1 (ji8)) * 2 ^ min (ji11).toNat 8)) = ji13 := hji13
       have hji13z : (ji11) ≤ 8 → (IntKind.u8.wrap ((rd l0_1 (ji8)) * 2 ^ (ji11).toNat)) = ji13 := shl_small hji13
       obtain rfl := Option.some.inj H
       go_enter Try.func12, Try.ntmps12
       go_wp2_with (first | ((with_reducible refine gate_dst (N := 1) rfl ?_); (try (refine gate_guard (by rfl) ?_; dsimp only)); refine box_event rfl (N := 1) rfl (cs := #[.int .i64 a0_0, .slice A0_1 l0_1.length c0_1]) (t := 26) sE ?_; intro gb103 hg w14 hbox hb; have BK103 := Aside0.mk hbox; have GW103 := gS w hg (lU); have GE103 := gS w hg (lU); replace HB := bH (lU) hb; clear hb hbox hg; have hcz15_0 := cz BK103 0 (.int .i64 a0_0); have hcz15_1 := cz BK103 1 (.slice A0_1 l0_1.length c0_1); have hfz15_0 := fz BK103 0; have hfz15_1 := fz BK103 1) | (go_at_call 13; (with_reducible refine (spec_l1In.calls a0_0 0 4000 true _ A2.out).mono ?_); rintro e w' ⟨rfl, ⟨nd, rfl⟩⟩; (try first | exact ⟨rfl, _, World.drewN_drewN _ _ _⟩ | exact ⟨rfl, _, Eq.trans (World.drewN_drewN _ _ _) (congrArg (World.drewN _) (Nat.add_assoc _ _ _))⟩); have p105 : 0 ≤ ((ji8) : Int) := of_decide_eq_true hE; have q105 : (ji8) < (l0_1.length : Int) := of_decide_eq_true hE; obtain ⟨ad105, e105, hx105_0⟩ := Kd.at_int HR0_1.out (ji8) p105 q105; cases e105; replace hx105_0 := (HB.out.cell (World.block_lt_of_cell? w _ hx105_0)).trans hx105_0; replace p105 := eq_true p105; replace q105 := eq_true q105))
       repeat (go_quiet (first | ((with_reducible refine gate_dst (N := 1) rfl ?_); (try (refine gate_guard (by rfl) ?_; dsimp only)); refine box_event rfl (N := 1) rfl (cs := #[.int .i64 a0_0, .slice A0_1 l0_1.length c0_1]) (t := 26) sE ?_; intro gb103 hg w14 hbox hb; have BK103 := Aside0.mk hbox; have GW103 := gS w hg (lU); have GE103 := gS w hg (lU); replace HB := bH (lU) hb; clear hb hbox hg; have hcz15_0 := cz BK103 0 (.int .i64 a0_0); have hcz15_1 := cz BK103 1 (.slice A0_1 l0_1.length c0_1); have hfz15_0 := fz BK103 0; have hfz15_1 := fz BK103 1) | (go_at_call 13; (with_reducible refine (spec_l1In.calls a0_0 0 4000 true _ A2.out).mono ?_); rintro e w' ⟨rfl, ⟨nd, rfl⟩⟩; (try first | exact ⟨rfl, _, World.drewN_drewN _ _ _⟩ | exact ⟨rfl, _, Eq.trans (World.drewN_drewN _ _ _) (congrArg (World.drewN _) (Nat.add_assoc _ _ _))⟩); have p105 : 0 ≤ ((ji8) : Int) := of_decide_eq_true hE; have q105 : (ji8) < (l0_1.length : Int) := of_decide_eq_true hE; obtain ⟨ad105, e105, hx105_0⟩ := Kd.at_int HR0_1.out (ji8) p105 q105; cases e105; replace hx105_0 := (HB.out.cell (World.block_lt_of_cell? w _ hx105_0)).trans hx105_0; replace p105 := eq_true p105; replace q105 := eq_true q105)); try go_wp2_with (first | ((with_reducible refine gate_dst (N := 1) rfl ?_); (try (refine gate_guard (by rfl) ?_; dsimp only)); refine box_event rfl (N := 1) rfl (cs := #[.int .i64 a0_0, .slice A0_1 l0_1.length c0_1]) (t := 26) sE ?_; intro gb103 hg w14 hbox hb; have BK103 := Aside0.mk hbox; have GW103 := gS w hg (lU); have GE103 := gS w hg (lU); replace HB := bH (lU) hb; clear hb hbox hg; have hcz15_0 := cz BK103 0 (.int .i64 a0_0); have hcz15_1 := cz BK103 1 (.slice A0_1 l0_1.length c0_1); have hfz15_0 := fz BK103 0; have hfz15_1 := fz BK103 1) | (go_at_call 13; (with_reducible refine (spec_l1In.calls a0_0 0 4000 true _ A2.out).mono ?_); rintro e w' ⟨rfl, ⟨nd, rfl⟩⟩; (try first | exact ⟨rfl, _, World.drewN_drewN _ _ _⟩ | exact ⟨rfl, _, Eq.trans (World.drewN_drewN _ _ _) (congrArg (World.drewN _) (Nat.add_assoc _ _ _))⟩); have p105 : 0 ≤ ((ji8) : Int) := of_decide_eq_true hE; have q105 : (ji8) < (l0_1.length : Int) := of_decide_eq_true hE; obtain ⟨ad105, e105, hx105_0⟩ := Kd.at_int HR0_1.out (ji8) p105 q105; cases e105; replace hx105_0 := (HB.out.cell (World.block_lt_of_cell? w _ hx105_0)).trans hx105_0; replace p105 := eq_true p105; replace q105 := eq_true q105)))
       go_ret
       exact ⟨by first | rfl | (simp [errW_none, errW_some] <;> rfl) | (simp only [← hji8, ← hji11, ← hji13]; first | rfl | (simp [errW_none, errW_some] <;> rfl)) | (simp [*, errW_none, errW_some] <;> rfl), lV1 GE103⟩
      ·rw [if_neg c12] at H
       exact absurd H (by simp)
     ·rw [if_neg c10] at H
      exact absurd H (by simp)
    ·rw [if_neg c9] at H
     exact absurd H (by simp)
  ·rw [if_neg c4] at H
   have c4b0 : ((l0_1.length : Int) == (wrap64 (Int.tdiv (wrap64 (a0_0 + 7)) 8))) = false := beq_eq_false_iff_ne.mpr c4
   have c4b1 : ((l0_1.length : Int) != (wrap64 (Int.tdiv (wrap64 (a0_0 + 7)) 8))) = true := bne_iff_ne.mpr c4
   obtain rfl := Option.some.inj H
   go_enter Try.func12, Try.ntmps12
   go_wp2_with (first | ((with_reducible refine gate_dst (N := 1) rfl ?_); (try (refine gate_guard (by rfl) ?_; dsimp only)); refine box_event rfl (N := 1) rfl (cs := #[.int .i64 a0_0, .slice A0_1 l0_1.length c0_1]) (t := 26) sE ?_; intro gb103 hg w16 hbox hb; have BK103 := Aside0.mk hbox; have GW103 := gS w hg (lU); have GE103 := gS w hg (lU); replace HB := bH (lU) hb; clear hb hbox hg; have hcz17_0 := cz BK103 0 (.int .i64 a0_0); have hcz17_1 := cz BK103 1 (.slice A0_1 l0_1.length c0_1); have hfz17_0 := fz BK103 0; have hfz17_1 := fz BK103 1) | (go_at_call 13; (with_reducible refine (spec_l1In.calls a0_0 0 4000 true _ A2.out).mono ?_); rintro e w' ⟨rfl, ⟨nd, rfl⟩⟩; (try first | exact ⟨rfl, _, World.drewN_drewN _ _ _⟩ | exact ⟨rfl, _, Eq.trans (World.drewN_drewN _ _ _) (congrArg (World.drewN _) (Nat.add_assoc _ _ _))⟩)))
   repeat (go_quiet (first | ((with_reducible refine gate_dst (N := 1) rfl ?_); (try (refine gate_guard (by rfl) ?_; dsimp only)); refine box_event rfl (N := 1) rfl (cs := #[.int .i64 a0_0, .slice A0_1 l0_1.length c0_1]) (t := 26) sE ?_; intro gb103 hg w16 hbox hb; have BK103 := Aside0.mk hbox; have GW103 := gS w hg (lU); have GE103 := gS w hg (lU); replace HB := bH (lU) hb; clear hb hbox hg; have hcz17_0 := cz BK103 0 (.int .i64 a0_0); have hcz17_1 := cz BK103 1 (.slice A0_1 l0_1.length c0_1); have hfz17_0 := fz BK103 0; have hfz17_1 := fz BK103 1) | (go_at_call 13; (with_reducible refine (spec_l1In.calls a0_0 0 4000 true _ A2.out).mono ?_); rintro e w' ⟨rfl, ⟨nd, rfl⟩⟩; (try first | exact ⟨rfl, _, World.drewN_drewN _ _ _⟩ | exact ⟨rfl, _, Eq.trans (World.drewN_drewN _ _ _) (congrArg (World.drewN _) (Nat.add_assoc _ _ _))⟩))); try go_wp2_with (first | ((with_reducible refine gate_dst (N := 1) rfl ?_); (try (refine gate_guard (by rfl) ?_; dsimp only)); refine box_event rfl (N := 1) rfl (cs := #[.int .i64 a0_0, .slice A0_1 l0_1.length c0_1]) (t := 26) sE ?_; intro gb103 hg w16 hbox hb; have BK103 := Aside0.mk hbox; have GW103 := gS w hg (lU); have GE103 := gS w hg (lU); replace HB := bH (lU) hb; clear hb hbox hg; have hcz17_0 := cz BK103 0 (.int .i64 a0_0); have hcz17_1 := cz BK103 1 (.slice A0_1 l0_1.length c0_1); have hfz17_0 := fz BK103 0; have hfz17_1 := fz BK103 1) | (go_at_call 13; (with_reducible refine (spec_l1In.calls a0_0 0 4000 true _ A2.out).mono ?_); rintro e w' ⟨rfl, ⟨nd, rfl⟩⟩; (try first | exact ⟨rfl, _, World.drewN_drewN _ _ _⟩ | exact ⟨rfl, _, Eq.trans (World.drewN_drewN _ _ _) (congrArg (World.drewN _) (Nat.add_assoc _ _ _))⟩))))
   go_ret
   exact ⟨eE, lV1 GE103⟩
 ·replace c3 := Bool.eq_false_iff.mpr c3
  subst c3
  have H1 : (some false) = some r := by rw [if_neg (show ¬ (false = true) by decide)] at H; exact H
  clear H
  have H := H1
  clear H1
  obtain rfl := Option.some.inj H
  go_enter Try.func12, Try.ntmps12
  go_wp2_with (first | ((with_reducible refine gate_dst (N := 1) rfl ?_); (try (refine gate_guard (by rfl) ?_; dsimp only)); refine box_event rfl (N := 1) rfl (cs := #[.int .i64 a0_0, .slice A0_1 l0_1.length c0_1]) (t := 26) sE ?_; intro gb103 hg w18 hbox hb; have BK103 := Aside0.mk hbox; have GW103 := gS w hg (lU); have GE103 := gS w hg (lU); replace HB := bH (lU) hb; clear hb hbox hg; have hcz19_0 := cz BK103 0 (.int .i64 a0_0); have hcz19_1 := cz BK103 1 (.slice A0_1 l0_1.length c0_1); have hfz19_0 := fz BK103 0; have hfz19_1 := fz BK103 1) | (go_at_call 13; (with_reducible refine (spec_l1In.calls a0_0 0 4000 false _ A2.out).mono ?_); rintro e w' ⟨rfl, ⟨nd, rfl⟩⟩; (try first | exact ⟨rfl, _, World.drewN_drewN _ _ _⟩ | exact ⟨rfl, _, Eq.trans (World.drewN_drewN _ _ _) (congrArg (World.drewN _) (Nat.add_assoc _ _ _))⟩)))
  repeat (go_quiet (first | ((with_reducible refine gate_dst (N := 1) rfl ?_); (try (refine gate_guard (by rfl) ?_; dsimp only)); refine box_event rfl (N := 1) rfl (cs := #[.int .i64 a0_0, .slice A0_1 l0_1.length c0_1]) (t := 26) sE ?_; intro gb103 hg w18 hbox hb; have BK103 := Aside0.mk hbox; have GW103 := gS w hg (lU); have GE103 := gS w hg (lU); replace HB := bH (lU) hb; clear hb hbox hg; have hcz19_0 := cz BK103 0 (.int .i64 a0_0); have hcz19_1 := cz BK103 1 (.slice A0_1 l0_1.length c0_1); have hfz19_0 := fz BK103 0; have hfz19_1 := fz BK103 1) | (go_at_call 13; (with_reducible refine (spec_l1In.calls a0_0 0 4000 false _ A2.out).mono ?_); rintro e w' ⟨rfl, ⟨nd, rfl⟩⟩; (try first | exact ⟨rfl, _, World.drewN_drewN _ _ _⟩ | exact ⟨rfl, _, Eq.trans (World.drewN_drewN _ _ _) (congrArg (World.drewN _) (Nat.add_assoc _ _ _))⟩))); try go_wp2_with (first | ((with_reducible refine gate_dst (N := 1) rfl ?_); (try (refine gate_guard (by rfl) ?_; dsimp only)); refine box_event rfl (N := 1) rfl (cs := #[.int .i64 a0_0, .slice A0_1 l0_1.length c0_1]) (t := 26) sE ?_; intro gb103 hg w18 hbox hb; have BK103 := Aside0.mk hbox; have GW103 := gS w hg (lU); have GE103 := gS w hg (lU); replace HB := bH (lU) hb; clear hb hbox hg; have hcz19_0 := cz BK103 0 (.int .i64 a0_0); have hcz19_1 := cz BK103 1 (.slice A0_1 l0_1.length c0_1); have hfz19_0 := fz BK103 0; have hfz19_1 := fz BK103 1) | (go_at_call 13; (with_reducible refine (spec_l1In.calls a0_0 0 4000 false _ A2.out).mono ?_); rintro e w' ⟨rfl, ⟨nd, rfl⟩⟩; (try first | exact ⟨rfl, _, World.drewN_drewN _ _ _⟩ | exact ⟨rfl, _, Eq.trans (World.drewN_drewN _ _ _) (congrArg (World.drewN _) (Nat.add_assoc _ _ _))⟩))))
  go_ret
  exact ⟨eE, lV1 GE103⟩
def spec_l23Put.l0 : Nat → Int → Int → Int → List Int → Option (Int × List Int)
 | 0, _, _, _, _ => none
 | k + 1, x1, x7, x107000, x107001 => if x7 ≥ 0 then (if (Int.tmod x107000 8) = 0 then (if x107001.length < 140737488355328 then ((some (x107001 ++ [0] : List Int)).bind fun y108 => (if 0 ≤ (IntKind.u64.wrap (x7)) then (if (Go.bits .and .i64 (shr .i64 x1 (IntKind.u64.wrap (x7))) 1) = 1 then (if 0 ≤ (wrap64 (Int.tdiv x107000 8)) then (if (wrap64 (Int.tdiv x107000 8)) < (y108.length : Int) then (if 0 ≤ (IntKind.u64.wrap (Int.tmod x107000 8)) then (spec_l23Put.l0 k x1 (wrap64 (x7 - 1)) (wrap64 (x107000 + 1)) (y108.set ((wrap64 (Int.tdiv x107000 8)) : Int).toNat (Go.bits .or .u8 (rd y108 (wrap64 (Int.tdiv x107000 8))) (shr .u8 128 (IntKind.u64.wrap (Int.tmod x107000 8)))))) else (none)) else (none)) else (none)) else (spec_l23Put.l0 k x1 (wrap64 (x7 - 1)) (wrap64 (x107000 + 1)) y108)) else (none))) else (none)) else (if 0 ≤ (IntKind.u64.wrap (x7)) then (if (Go.bits .and .i64 (shr .i64 x1 (IntKind.u64.wrap (x7))) 1) = 1 then (if 0 ≤ (wrap64 (Int.tdiv x107000 8)) then (if (wrap64 (Int.tdiv x107000 8)) < (x107001.length : Int) then (if 0 ≤ (IntKind.u64.wrap (Int.tmod x107000 8)) then (spec_l23Put.l0 k x1 (wrap64 (x7 - 1)) (wrap64 (x107000 + 1)) (x107001.set ((wrap64 (Int.tdiv x107000 8)) : Int).toNat (Go.bits .or .u8 (rd x107001 (wrap64 (Int.tdiv x107000 8))) (shr .u8 128 (IntKind.u64.wrap (Int.tmod x107000 8)))))) else (none)) else (none)) else (none)) else (spec_l23Put.l0 k x1 (wrap64 (x7 - 1)) (wrap64 (x107000 + 1)) x107001)) else (none))) else (some (x107000, x107001))
def spec_l23Put.f (k : Nat) (a0_0 : Int) (l0_1 : List Int) (a1 : Int) (a2 : Int) : Option (Int × List Int) := spec_l23Put.l0 k a1 (wrap64 (a2 - 1)) a0_0 l0_1
theorem spec_l23Put.mono_l : ∀ k, (∀ y0 y1 y2 y3, LeO (spec_l23Put.l0 k y0 y1 y2 y3) (spec_l23Put.l0 (k + 1) y0 y1 y2 y3))
 | 0 => fun _ _ _ _ r h => by simp [spec_l23Put.l0] at h
 | k + 1 => by
  have ih0 := spec_l23Put.mono_l k
  ·intro y0 y1 y2 y3
   unfold spec_l23Put.l0
   repeat' first
   | (with_reducible exact ih0 _ _ _ _)
   | (with_reducible first | exact LeO.refl _ | exact LeO.none _ | refine LeO.ite ?_ ?_ | refine LeO.bind ?_ (fun _ => ?_))
   | exact ih0 _ _ _ _ | exact LeO.none _ | refine LeO.ite ?_ ?_ | refine LeO.bind ?_ (fun _ => ?_)
theorem spec_l23Put.mono : ∀ a0 a1 a2 a3 k, LeO (spec_l23Put.f k a0 a1 a2 a3) (spec_l23Put.f (k + 1) a0 a1 a2 a3) := by
 intro a0 a1 a2 a3 k
 have ih0 := spec_l23Put.mono_l k
 unfold spec_l23Put.f
 repeat' first
   | (with_reducible exact ih0 _ _ _ _)
   | (with_reducible first | exact LeO.refl _ | exact LeO.none _ | refine LeO.ite ?_ ?_ | refine LeO.bind ?_ (fun _ => ?_))
   | exact ih0 _ _ _ _ | exact LeO.none _ | refine LeO.ite ?_ ?_ | refine LeO.bind ?_ (fun _ => ?_)
def spec_l23Put.T7 : Bool × List (List Nat × List Nat) := (true, [([], []), ([0], [0]), ([], []), ([2], [2]), ([3], [3]), ([1, 4], [1, 4]), ([5], [5]), ([], []), ([7], [7]), ([8], [8]), ([9], [9]), ([10], [10]), ([6, 11], [6, 11]), ([1, 4, 0, 1, 2, 3, 4, 5, 6, 7, 8, 9, 10, 11, 12], [1, 4]), ([13, 12, 0, 1, 2, 3, 4, 5, 6, 7, 8, 9, 10, 11, 12], [12, 13])])
def spec_l23Put.B7 : List Nat := [0, 1, 0, 4, 12, 31, 63, 0, 128, 384, 896, 1920, 4095, 8191, 16383]
theorem spec_l23Put.tab7 : rtab .any (opsOf Try.f14 7) = spec_l23Put.T7 := by kernel_rfl
theorem spec_l23Put.bits7 : waitsOk spec_l23Put.T7.2 spec_l23Put.B7 = true := by kernel_rfl
set_option maxHeartbeats 8000000 in
set_option maxRecDepth 100000 in
theorem spec_l23Put.calls (k : Nat) (a0_0 : Int) (P0_1_ : Nat → Prop) (u9000_ : Value) (l0_1 : List Int) (a1 : Int) (a2 : Int) (r1 : Int) (r2 : List Int) (w0 w : World) (hB : Below w0.heap.size w0 w) (ho0_1 : Kd.R (Kd.int .u8) 5 w w0.heap.size P0_1_ u9000_ l0_1) (h : spec_l23Put.f k a0_0 l0_1 a1 a2 = some (r1, r2)) :
  Calls Try.prog 14 #[.agg #[.int .i64 a0_0, u9000_], .int .i64 a1, .int .i64 a2] w fun e w' => ∃ v1_ : Value, e = .returned (.agg #[.int .i64 r1, v1_]) ∧ Kd.R (Kd.int .u8) 5 w' w0.heap.size (fun k_ => (P0_1_ k_ ∨ w.heap.size ≤ k_)) v1_ r2 ∧ Below w0.heap.size w0 w' ∧ Kept w w' (fun k_ => P0_1_ k_) := by
 have hu26 := Try.underlying26
 have HO0_1 := Aside0.mk (show Kd.R (Kd.int .u8) 5 w w0.heap.size (fun k_ => (P0_1_ k_ ∨ w.heap.size ≤ k_)) u9000_ l0_1 from Kd.R_mono ho0_1 (fun k_ hk => (.inl hk)))
 have HK := Aside0.mk (Kept.refl w (fun k_ => P0_1_ k_))
 have HW0 := Aside0.mk hB.size
 have HB := Aside0.mk hB
 clear hB
 have H : (spec_l23Put.l0 k a1 (wrap64 (a2 - 1)) a0_0 l0_1) = some (r1, r2) := h
 clear h
 have H' := Aside0.mk H
 clear H
 obtain ⟨Ao4, co4, eo4⟩ := Kd.R_slice HO0_1.out
 subst eo4
 go_enter Try.func14, Try.ntmps14
 go_wp2_with (first | ((with_reducible refine gate_dst (N := 3) rfl ?_); refine box_event rfl (N := 3) rfl (cs := #[.int .i64 a0_0, .slice Ao4 l0_1.length co4]) (t := 26) sE ?_; intro gb106 hg w5 hbox hb; replace HO0_1 := Aside0.mk (Kd.R_below (rU HO0_1.out) hb); have BK106 := Aside0.mk hbox; have GW106 := Aside0.mk ((by rw [hg]; exact (by first | exact HK.out.1 | exact (show Kept w _ (fun k_ => P0_1_ k_) from by repeat (first | (with_reducible first | exact HK.out | apply Kept.alloc | apply Kept.drewN | apply Kept.drew) | exact HK.out)).1) : w.heap.size ≤ gb106)); replace HK := Aside0.mk (Kept.below (S := (fun k_ => P0_1_ k_)) (by repeat (first | (with_reducible first | exact HK.out | apply Kept.alloc | apply Kept.drewN | apply Kept.drew) | exact HK.out)) hb); have GE106 := Aside0.mk ((by rw [hg]; exact (below_size (lU)) : w0.heap.size ≤ gb106)); replace HB := bH (lU) hb; clear hb hbox hg) | ((with_reducible refine gate_dst (N := 6) rfl ?_); refine box_event rfl (N := 6) rfl (cs := #[.int .i64 0, .slice none 0 0]) (t := 26) sE ?_; intro gb107 hg w6 hbox hb; replace HO0_1 := Aside0.mk (Kd.R_below (rU HO0_1.out) hb); have BK107 := Aside0.mk hbox; have GW107 := Aside0.mk ((by rw [hg]; exact (by first | exact HK.out.1 | exact (show Kept w _ (fun k_ => P0_1_ k_) from by repeat (first | (with_reducible first | exact HK.out | apply Kept.alloc | apply Kept.drewN | apply Kept.drew | refine Kept.setCell ?_ (.inr GW106.out) _) | exact HK.out)).1) : w.heap.size ≤ gb107)); replace HK := Aside0.mk (Kept.below (S := (fun k_ => P0_1_ k_)) (by repeat (first | (with_reducible first | exact HK.out | apply Kept.alloc | apply Kept.drewN | apply Kept.drew | refine Kept.setCell ?_ (.inr GW106.out) _) | exact HK.out)) hb); have GE107 := Aside0.mk ((by rw [hg]; exact (below_size (lV1 GE106)) : w0.heap.size ≤ gb107)); replace HB := bH (lV1 GE106) hb; have NB106_107 := nL hg (bV BK106); have NB107_106 := nG hg (bV BK106); replace BK106 := bB (bV BK106) hb; clear hb hbox hg))
 (try simp only [Act.put, List.setIfInBounds_toArray, List.set_cons_zero, List.set_cons_succ])
 go_loopg [7] k (fun kq v7 w' => ∃ (x7_1 : Int) (x107000_1 : Int) (x107001_1 : List Int) (u107001 : Value), v7 = .int .i64 x7_1 ∧ Aside0 (spec_l23Put.l0 kq a1 x7_1 x107000_1 x107001_1 = some (r1, r2)) ∧ Aside0 (kq ≤ k) ∧ Aside0 (Kd.R (Kd.int .u8) 5 w' w0.heap.size (fun k_ => (P0_1_ k_ ∨ w.heap.size ≤ k_)) u107001 x107001_1) ∧ Aside0 (w'.heap[gb106]? = some (.cells #[.int .i64 x107000_1, u107001] 26 (0, 0))) ∧ Aside0 (w'.heap[gb107]? = some (.cells #[.int .i64 0, (.slice none 0 0)] 26 (0, 0))) ∧ Aside0 (Kept w w' (fun k_ => P0_1_ k_)) ∧ Aside0 (Below w0.heap.size w0 w'))
 case atStart => exact ⟨(wrap64 (a2 - 1)), (a0_0), (l0_1), (.slice Ao4 l0_1.length co4), tE, H', ⟨Nat.le_refl _⟩, ⟨by (with_reducible repeat (first | apply Kd.R_alloc | apply Kd.R_drewN | apply Kd.R_drew)); exact HO0_1.out⟩, ⟨by refine bU ?_; exact BK106.out⟩, ⟨by refine bU ?_; exact BK107.out⟩, ⟨by repeat (first | (with_reducible first | exact HK.out | apply Kept.alloc | apply Kept.drewN | apply Kept.drew | refine Kept.setCell ?_ (.inr GW106.out) _ | refine Kept.setCell ?_ (.inr GW107.out) _) | exact HK.out)⟩, ⟨by repeat (first | (with_reducible first | exact HB.out | apply below_alloc | apply pw_below_drewN | apply below_drew1 | refine below_set ?_ GE106.out | refine below_set ?_ GE107.out) | exact HB.out)⟩⟩
 case round =>
  clear H'
  try clear c1
  try clear p2
  try clear p6
  obtain ⟨x7_1, x107000_1, x107001_1, u107001, rfl, HA, HK1, HO_107001, BK106, BK107, HK, HB⟩ := hrel
  cases gk with
  | zero => exact absurd HA.out (by simp [spec_l23Put.l0])
  | succ k1 =>
   have H := HA.out
   clear HA
   simp only [spec_l23Put.l0] at H
   by_cases c7 : x7_1 ≥ 0
   ·rw [if_pos c7] at H
    have c7b0 : decide (0 ≤ x7_1) = true := decide_eq_true c7
    clear c7
    by_cases c8 : (Int.tmod x107000_1 8) = 0
    ·rw [if_pos c8] at H
     have c8b0 : ((Int.tmod x107000_1 8) == 0) = true := beq_iff_eq.mpr c8
     have c8b1 : ((Int.tmod x107000_1 8) != 0) = false := bne_eq_false_iff_eq.mpr c8
     clear c8
     by_cases c9 : x107001_1.length < 140737488355328
     ·rw [if_pos c9] at H
      have LMc9 := Aside0.mk c9
      clear c9
      obtain ⟨y108, hy108⟩ : ∃ y_ : List Int, y_ = (x107001_1 ++ [0]) := ⟨_, rfl⟩
      replace H : (if 0 ≤ (IntKind.u64.wrap (x7_1)) then (if (Go.bits .and .i64 (shr .i64 a1 (IntKind.u64.wrap (x7_1))) 1) = 1 then (if 0 ≤ (wrap64 (Int.tdiv x107000_1 8)) then (if (wrap64 (Int.tdiv x107000_1 8)) < (y108.length : Int) then (if 0 ≤ (IntKind.u64.wrap (Int.tmod x107000_1 8)) then (spec_l23Put.l0 k1 a1 (wrap64 (x7_1 - 1)) (wrap64 (x107000_1 + 1)) (y108.set ((wrap64 (Int.tdiv x107000_1 8)) : Int).toNat (Go.bits .or .u8 (rd y108 (wrap64 (Int.tdiv x107000_1 8))) (shr .u8 128 (IntKind.u64.wrap (Int.tmod x107000_1 8)))))) else (none)) else (none)) else (none)) else (spec_l23Put.l0 k1 a1 (wrap64 (x7_1 - 1)) (wrap64 (x107000_1 + 1)) y108)) else (none)) = some (r1, r2) := by first | (rw [hy108]; with_reducible exact H) | (have H2_ := (Option.bind_some _ _).symm.trans H; rw [hy108]; with_reducible exact H2_) | (have H2_ := (Option.bind_some _ _).symm.trans H; with_reducible exact H2_) | with_reducible exact H | (rw [hy108]; exact H) | exact H
      have Ny108 := Aside0.mk hy108
      clear hy108
      obtain ⟨ji10, hji10⟩ : ∃ j_ : Int, (IntKind.u64.wrap (x7_1)) = j_ := ⟨_, rfl⟩
      replace H : (if 0 ≤ (ji10) then (if (Go.bits .and .i64 (shr .i64 a1 (ji10)) 1) = 1 then (if 0 ≤ (wrap64 (Int.tdiv x107000_1 8)) then (if (wrap64 (Int.tdiv x107000_1 8)) < (y108.length : Int) then (if 0 ≤ (IntKind.u64.wrap (Int.tmod x107000_1 8)) then (spec_l23Put.l0 k1 a1 (wrap64 (x7_1 - 1)) (wrap64 (x107000_1 + 1)) (y108.set ((wrap64 (Int.tdiv x107000_1 8)) : Int).toNat (Go.bits .or .u8 (rd y108 (wrap64 (Int.tdiv x107000_1 8))) (shr .u8 128 (IntKind.u64.wrap (Int.tmod x107000_1 8)))))) else (none)) else (none)) else (none)) else (spec_l23Put.l0 k1 a1 (wrap64 (x7_1 - 1)) (wrap64 (x107000_1 + 1)) y108)) else (none)) = some (r1, r2) := by first | (rw [hji10] at H; exact H) | (simp only [hji10] at H ⊢; exact H)
      by_cases c11 : 0 ≤ (ji10)
      ·rw [if_pos c11] at H
       have c11b0 := eq_true c11
       have c11b1 : decide (0 ≤ (ji10)) = true := decide_eq_true c11
       clear c11
       obtain ⟨ji12, hji12⟩ : ∃ j_ : Int, (shr .i64 a1 (ji10)) = j_ := ⟨_, rfl⟩
       replace H : (if (Go.bits .and .i64 (ji12) 1) = 1 then (if 0 ≤ (wrap64 (Int.tdiv x107000_1 8)) then (if (wrap64 (Int.tdiv x107000_1 8)) < (y108.length : Int) then (if 0 ≤ (IntKind.u64.wrap (Int.tmod x107000_1 8)) then (spec_l23Put.l0 k1 a1 (wrap64 (x7_1 - 1)) (wrap64 (x107000_1 + 1)) (y108.set ((wrap64 (Int.tdiv x107000_1 8)) : Int).toNat (Go.bits .or .u8 (rd y108 (wrap64 (Int.tdiv x107000_1 8))) (shr .u8 128 (IntKind.u64.wrap (Int.tmod x107000_1 8)))))) else (none)) else (none)) else (none)) else (spec_l23Put.l0 k1 a1 (wrap64 (x7_1 - 1)) (wrap64 (x107000_1 + 1)) y108)) = some (r1, r2) := by first | (rw [hji12] at H; exact H) | (simp only [hji12] at H ⊢; exact H)
       have hji12_ : (a1 / 2 ^ min (ji10).toNat 64) = ji12 := hji12
       have hji12z : (ji10) ≤ 64 → (a1 / 2 ^ (ji10).toNat) = ji12 := shr_small hji12
       by_cases c13 : (Go.bits .and .i64 (ji12) 1) = 1
       ·rw [if_pos c13] at H
        have c13b0 : ((Go.bits .and .i64 (ji12) 1) == 1) = true := beq_iff_eq.mpr c13
        have c13b1 : ((Go.bits .and .i64 (ji12) 1) != 1) = false := bne_eq_false_iff_eq.mpr c13
        clear c13
        obtain ⟨ji14, hji14⟩ : ∃ j_ : Int, (wrap64 (Int.tdiv x107000_1 8)) = j_ := ⟨_, rfl⟩
        replace H : (if 0 ≤ (ji14) then (if (ji14) < (y108.length : Int) then (if 0 ≤ (IntKind.u64.wrap (Int.tmod x107000_1 8)) then (spec_l23Put.l0 k1 a1 (wrap64 (x7_1 - 1)) (wrap64 (x107000_1 + 1)) (y108.set ((ji14) : Int).toNat (Go.bits .or .u8 (rd y108 (ji14)) (shr .u8 128 (IntKind.u64.wrap (Int.tmod x107000_1 8)))))) else (none)) else (none)) else (none)) = some (r1, r2) := by first | (rw [hji14] at H; exact H) | (simp only [hji14] at H ⊢; exact H)
        have hji14w : (IntKind.i64.wrap (Int.tdiv x107000_1 8)) = ji14 := (i64_w _).trans hji14
        by_cases c15 : 0 ≤ (ji14)
        ·rw [if_pos c15] at H
         have c15b0 : decide (0 ≤ (ji14)) = true := decide_eq_true c15
         clear c15
         by_cases c16 : (ji14) < (y108.length : Int)
         ·rw [if_pos c16] at H
          have c16b0 : decide ((ji14) < (y108.length : Int)) = true := decide_eq_true c16
          clear c16
          obtain ⟨ji17, hji17⟩ : ∃ j_ : Int, (IntKind.u64.wrap (Int.tmod x107000_1 8)) = j_ := ⟨_, rfl⟩
          replace H : (if 0 ≤ (ji17) then (spec_l23Put.l0 k1 a1 (wrap64 (x7_1 - 1)) (wrap64 (x107000_1 + 1)) (y108.set ((ji14) : Int).toNat (Go.bits .or .u8 (rd y108 (ji14)) (shr .u8 128 (ji17))))) else (none)) = some (r1, r2) := by first | (rw [hji17] at H; exact H) | (simp only [hji17] at H ⊢; exact H)
          by_cases c18 : 0 ≤ (ji17)
          ·rw [if_pos c18] at H
           have c18b0 := eq_true c18
           have c18b1 : decide (0 ≤ (ji17)) = true := decide_eq_true c18
           clear c18
           obtain ⟨ji19, hji19⟩ : ∃ j_ : Int, (shr .u8 128 (ji17)) = j_ := ⟨_, rfl⟩
           replace H : (spec_l23Put.l0 k1 a1 (wrap64 (x7_1 - 1)) (wrap64 (x107000_1 + 1)) (y108.set ((ji14) : Int).toNat (Go.bits .or .u8 (rd y108 (ji14)) (ji19)))) = some (r1, r2) := by first | (rw [hji19] at H; exact H) | (simp only [hji19] at H ⊢; exact H)
           have hji19_ : (128 / 2 ^ min (ji17).toNat 8) = ji19 := hji19
           have hji19z : (ji17) ≤ 8 → (128 / 2 ^ (ji17).toNat) = ji19 := shr_small hji19
           obtain ⟨y112, hy112⟩ : ∃ y_ : List Int, y_ = (y108.set ((ji14) : Int).toNat (Go.bits .or .u8 (rd y108 (ji14)) (ji19))) := ⟨_, rfl⟩
           replace H : (spec_l23Put.l0 k1 a1 (wrap64 (x7_1 - 1)) (wrap64 (x107000_1 + 1)) y112) = some (r1, r2) := by first | (rw [hy112]; with_reducible exact H) | (have H2_ := (Option.bind_some _ _).symm.trans H; rw [hy112]; with_reducible exact H2_) | (have H2_ := (Option.bind_some _ _).symm.trans H; with_reducible exact H2_) | with_reducible exact H | (rw [hy112]; exact H) | exact H
           have Ny112 := Aside0.mk hy112
           clear hy112
           have H' := Aside0.mk H
           clear H
           have hnb21 := NB106_107.out
           have hnc21 := NB107_106.out
           have hcz22_0 := cz BK106 0 (.int .i64 x107000_1)
           have hcz22_1 := cz BK106 1 (u107001)
           have hfz22_0 := fz BK106 0
           have hfz22_1 := fz BK106 1
           try go_wp2_with (first | ((with_reducible refine gate_builtin (b := .append) (xs := #[.tmp 19, .tmp 20]) rfl ?_); at_builtin; refine Kd.R_append (Kd.int .u8) (w0 := w0) w0.heap.size rfl (.tmp 19) (.tmp 20) 22 5 (.int .u8 0) 1 rfl Try.underlying22 info5 rfl (by decide) (by omega) u107001 x107001_1 0 [.int .u8 0] (fun k_ => (P0_1_ k_ ∨ w.heap.size ≤ k_)) (fun _ => False) rfl rfl ?aP (fun _ hk => hk.elim) ?aF ?aO ?aB ?aS ?aL ?_; (case aP => exact rfl); (case aB => exact (lV2 GE106 GE107)); (case aF => exact (fun k_ hk => (.inr (Nat.le_trans (by first | exact HK.out.1 | exact (show Kept w _ (fun k_ => P0_1_ k_) from by repeat (first | (with_reducible first | exact HK.out | apply Kept.alloc | apply Kept.drewN | apply Kept.drew | refine Kept.setCell ?_ (.inr GW106.out) _ | refine Kept.setCell ?_ (.inr GW107.out) _) | exact HK.out)).1) hk)))); (case aO => exact (rU HO_107001.out)); (case aS => exact (below_size (lV2 GE106 GE107))); (case aL => have := LMc9.out; omega); intro v109 w23 ho hb hg hat; rw [← Ny108.out] at ho; replace BK106 := Aside0.mk (blk_grown (g := gb106) (o := .cells #[.int .i64 x107000_1, u107001] 26 (0, 0)) (bV BK106) hg (Kd.R_ne HO_107001.out BK106.out (by decide))); replace BK107 := Aside0.mk (blk_grown (g := gb107) (o := .cells #[.int .i64 0, .slice none 0 0] 26 (0, 0)) (bV BK107) hg (Kd.R_ne HO_107001.out BK107.out (by decide))); replace HB := Aside0.mk hb; replace HK := Aside0.mk (Kept.of_grown (S := (fun k_ => P0_1_ k_)) hg (by repeat (first | (with_reducible first | exact HK.out | apply Kept.alloc | apply Kept.drewN | apply Kept.drew | refine Kept.setCell ?_ (.inr GW106.out) _ | refine Kept.setCell ?_ (.inr GW107.out) _) | exact HK.out)) (fun k_ e_ => (HO_107001.out.1 k_ e_))); have HO110 := Aside0.mk ho; clear HO_107001; clear ho hb hg hat; obtain ⟨Ao24, co24, eo24⟩ := Kd.R_slice HO110.out; subst eo24; have hcz25_0 := cz BK106 0 (.int .i64 x107000_1); have hcz25_1 := cz BK106 1 (u107001); have hfz25_0 := fz BK106 0; have hfz25_1 := fz BK106 1) | ((with_reducible refine gate_store (t := 22) (p := 22) rfl ?_); refine store_event (t := 22) (p := 22) (v := ?vo_w26) (w1 := (w23.setCell ⟨gb106, 1, none⟩ (.slice Ao24 y108.length co24))) ?hg ?ho ?hn ?hr ?_; (case ho => rfl); (case hg => rfl); (case hn => rfl); (case hr => first | (go_simp; done) | (go_simp; rfl) | (have hq0_ := (blk_cell BK106.out 1).trans (show _ = some _ from rfl); have hf0_ := blk_frozen BK106.out 1; first | (go_simp; done) | (go_simp; rfl))); intro w26 hw; replace HO110 : Aside0 (Kd.R (Kd.int .u8) 5 w26 w0.heap.size (fun k_ => (P0_1_ k_ ∨ w.heap.size ≤ k_)) (.slice Ao24 y108.length co24) y108) := ⟨(by rw [hw]; exact (by (with_reducible repeat (first | apply Kd.R_alloc | apply Kd.R_drewN | apply Kd.R_drew)); exact Kd.R_mono (Kd.R_far (p := ⟨gb106, 1, none⟩) (Kd.R_types HO110.out BK106.out (by decide)) (fun _ hk => hk.2) (.slice Ao24 y108.length co24)) (fun _ hk => hk.1)))⟩; replace BK106 : Aside0 (w26.heap[gb106]? = some (.cells #[.int .i64 x107000_1, .slice Ao24 y108.length co24] 26 (0, 0))) := ⟨(by rw [hw]; exact (by refine bU ?_; refine blk_put (cs := #[.int .i64 x107000_1, u107001]) ?_ 1 _ rfl; refine bU ?_; exact BK106.out))⟩; replace BK107 : Aside0 (w26.heap[gb107]? = some (.cells #[.int .i64 0, .slice none 0 0] 26 (0, 0))) := ⟨(by rw [hw]; exact (bG NB107_106 BK107))⟩; replace HK : Aside0 (Kept w w26 (fun k_ => P0_1_ k_)) := ⟨(by rw [hw]; exact (by repeat (first | (with_reducible first | exact HK.out | apply Kept.alloc | apply Kept.drewN | apply Kept.drew | refine Kept.setCell ?_ (.inr GW106.out) _ | refine Kept.setCell ?_ (.inr GW107.out) _) | exact HK.out)))⟩; replace HB : Aside0 (Below w0.heap.size w0 w26) := ⟨(by rw [hw]; exact (lV2 GE106 GE107))⟩; clear hw))
           replace HO110 := Aside0.mk (Kd.R_drew HO110.out)
           replace BK106 := Aside0.mk (blk_drew BK106.out)
           replace BK107 := Aside0.mk (blk_drew BK107.out)
           replace HK := Aside0.mk (Kept.drew HK.out)
           replace HB := Aside0.mk (below_drew1 HB.out)
           have p111 : 0 ≤ ((ji14) : Int) := of_decide_eq_true hE
           have q111 : (ji14) < (y108.length : Int) := of_decide_eq_true hE
           obtain ⟨ad111, e111, hx111_0⟩ := Kd.at_int (Kd.R_reads' HO110.out).2.2 (ji14) p111 q111
           cases e111
           replace p111 := eq_true p111
           replace q111 := eq_true q111
           have p20 : 0 ≤ ((ji14) : Int) := of_decide_eq_true hE
           have q20 : ((ji14) : Int) < ((y108.length : Int) : Int) := of_decide_eq_true hE
           obtain ⟨go20, co20, eo20, gb20, gl20, cl20, HG20⟩ := Kd.R_form HO110.out (by omega)
           (first | cases eo20 | (injection eo20 with ea_ en_ ec_; (first | subst ea_ | (injection ea_ with ea_; subst ea_)); subst ec_; clear en_))
           have GB20 := Aside0.mk gb20
           have GG20 := Aside0.mk HG20
           clear gb20 gl20 HG20
           have HMgo20 := Aside0.mk (show (P0_1_ go20 ∨ w.heap.size ≤ go20) from (HO110.out.1 _ rfl))
           (first | simp only [add_plain] at hx111_0 | skip)
           obtain ⟨hx20_0, hf20_0⟩ := Kd.R_celln 0 HO110.out ((ji14) : Int) p20 q20
           replace p20 := eq_true p20
           replace q20 := eq_true q20
           have HP28 := Kd.R_putn HO110.out ((ji14) : Int) (Go.bits .or .u8 (rd y108 (ji14)) (ji19))
           rw [← Ny112.out] at HP28
           have HQ28 := Aside0.mk HP28
           clear HP28
           refine start_ (n := 15) (S := fun w' => w'.cell? ⟨gb106, 0, none⟩ = some (.int .i64 x107000_1) ∧ w'.cell? ⟨gb106, 1, none⟩ = some (.slice (some ⟨go20, 0, none⟩) y108.length co24) ∧ w'.cell? ⟨go20, ((ji14)).toNat, none⟩ = some (.int .u8 (rd y108 (ji14)))) (ds := [14]) #[false, false, false, false, false, false, false, false, false, false, false, false, false, false, false] (by kernel_rfl) rfl rfl ⟨cz BK106 0 _, cz BK106 1 _, hx111_0⟩ (fun hHeld => ?_); refine with_tabW spec_l23Put.tab7 spec_l23Put.bits7 (fun HT_ HW_ => ?_)
           generalize w26.drew = w27 at HO110 BK106 BK107 HK HB GG20 HQ28 hf20_0 hx111_0 hx20_0 hHeld ⊢
           refine pureA 0 29 (bz 15 1) rfl rfl (any_of HT_.out (by kernel_rfl)) ?_
           refine pureA 2 31 (bz 15 5) rfl rfl (any_of HT_.out (by kernel_rfl)) ?_
           refine pureA 7 36 (bz 15 133) rfl rfl (any_of HT_.out (by kernel_rfl)) ?_
           refine takeA 1 30 (bz 15 135) rfl rfl (take_ofW HT_.out HW_.out (by kernel_rfl)) hHeld (by rintro w' ⟨s0, s1, s2⟩; go_simp; with_reducible rfl) ?_
           refine takeA 3 32 (bz 15 143) rfl rfl (take_ofW HT_.out HW_.out (by kernel_rfl)) hHeld (by rintro w' ⟨s0, s1, s2⟩; go_simp; with_reducible rfl) ?_
           refine pureA 4 33 (bz 15 159) rfl rfl (any_of HT_.out (by kernel_rfl)) ?_
           refine pureA 5 34 (bz 15 191) rfl rfl (any_of HT_.out (by kernel_rfl)) ?_
           refine takeA 6 35 (bz 15 255) rfl rfl (take_ofW HT_.out HW_.out (by kernel_rfl)) hHeld (by rintro w' ⟨s0, s1, s2⟩; go_simp; with_reducible rfl) ?_
           refine takeA 8 37 (bz 15 511) rfl rfl (take_ofW HT_.out HW_.out (by kernel_rfl)) hHeld (by rintro w' ⟨s0, s1, s2⟩; go_simp; with_reducible rfl) ?_
           refine pureA 9 38 (bz 15 1023) rfl rfl (any_of HT_.out (by kernel_rfl)) ?_
           refine pureA 10 39 (bz 15 2047) rfl rfl (any_of HT_.out (by kernel_rfl)) ?_
           refine pureA 11 40 (bz 15 4095) rfl rfl (any_of HT_.out (by kernel_rfl)) ?_
           refine pureA 12 41 (bz 15 8191) rfl rfl (any_of HT_.out (by kernel_rfl)) ?_
           refine pureA 13 42 (bz 15 16383) rfl rfl (any_of HT_.out (by kernel_rfl)) ?_
           refine last_ (i := 14) (N := none) (bz 15 32767) rfl rfl (one_of HT_.out (by kernel_rfl)) (by decide) (fun K hK => ?_)
           refine skip_ (w1 := ?_) (by rfl) rfl ?_ ?_
           rotate_left
           ·go_simp
            rfl
           refine hK.out _ _ ?_
           clear hK K
           refine done_ (done_of HT_.out (by kernel_rfl)) ?_
           have n0_ : Aside0 (Kd.R (Kd.int .u8) 5 (w27.setCell ⟨go20, ((ji14) : Int).toNat, none⟩ (.int .u8 (Go.bits .or .u8 (rd y108 (ji14)) (ji19)))) w0.heap.size (fun k_ => (P0_1_ k_ ∨ w.heap.size ≤ k_)) (.slice (some ⟨go20, 0, none⟩) y108.length co24) y112) := ⟨by (with_reducible repeat (first | apply Kd.R_alloc | apply Kd.R_drewN | apply Kd.R_drew)); exact HQ28.out⟩
           have n1_ : Aside0 ((w27.setCell ⟨go20, ((ji14) : Int).toNat, none⟩ (.int .u8 (Go.bits .or .u8 (rd y108 (ji14)) (ji19)))).heap[gb106]? = some (.cells #[.int .i64 x107000_1, .slice (some ⟨go20, 0, none⟩) y108.length co24] 26 (0, 0))) := ⟨by refine bU ?_; refine blk_far ?_ (by have h_ := Kd.R_ne HO110.out BK106.out (by decide); intro e_; exact h_ (by rw [e_]; rfl)) _; refine bU ?_; exact BK106.out⟩
           have n2_ : Aside0 ((w27.setCell ⟨go20, ((ji14) : Int).toNat, none⟩ (.int .u8 (Go.bits .or .u8 (rd y108 (ji14)) (ji19)))).heap[gb107]? = some (.cells #[.int .i64 0, .slice none 0 0] 26 (0, 0))) := ⟨by refine bU ?_; refine blk_far ?_ (by have h_ := Kd.R_ne HO110.out BK107.out (by decide); intro e_; exact h_ (by rw [e_]; rfl)) _; refine bU ?_; exact BK107.out⟩
           have n3_ : Aside0 (Kept w (w27.setCell ⟨go20, ((ji14) : Int).toNat, none⟩ (.int .u8 (Go.bits .or .u8 (rd y108 (ji14)) (ji19)))) (fun k_ => P0_1_ k_)) := ⟨by repeat (first | (with_reducible first | exact HK.out | apply Kept.alloc | apply Kept.drewN | apply Kept.drew | refine Kept.setCell ?_ HMgo20.out _ | refine Kept.setCell ?_ (.inr GW106.out) _ | refine Kept.setCell ?_ (.inr GW107.out) _) | exact HK.out)⟩
           have n4_ : Aside0 (Below w0.heap.size w0 (w27.setCell ⟨go20, ((ji14) : Int).toNat, none⟩ (.int .u8 (Go.bits .or .u8 (rd y108 (ji14)) (ji19))))) := ⟨by repeat (first | (with_reducible first | exact HB.out | apply below_alloc | apply pw_below_drewN | apply below_drew1 | refine below_set ?_ GB20.out | refine below_set ?_ GE106.out | refine below_set ?_ GE107.out) | exact HB.out)⟩
           (try clear HO110)
           (try clear BK106)
           (try clear BK107)
           (try clear HK)
           (try clear HB)
           generalize (w27.setCell ⟨go20, ((ji14) : Int).toNat, none⟩ (.int .u8 (Go.bits .or .u8 (rd y108 (ji14)) (ji19)))) = w29 at n0_ n1_ n2_ n3_ n4_ ⊢
           have HO110 := n0_
           have BK106 := n1_
           have BK107 := n2_
           have HK := n3_
           have HB := n4_
           clear n0_ n1_ n2_ n3_ n4_
           have hcz30_0 := cz BK106 0 (.int .i64 x107000_1)
           have hcz30_1 := cz BK106 1 (.slice (some ⟨go20, 0, none⟩) y108.length co24)
           have hfz30_0 := fz BK106 0
           have hfz30_1 := fz BK106 1
           try go_wp2_with (first | ((with_reducible refine gate_store (t := 3) (p := 46) rfl ?_); refine store_event (t := 3) (p := 46) (v := ?vo_w31) (w1 := (w29.setCell ⟨gb106, 0, none⟩ (.int .i64 (wrap64 (x107000_1 + 1))))) ?hg ?ho ?hn ?hr ?_; (case ho => rfl); (case hg => rfl); (case hn => rfl); (case hr => first | (go_simp; done) | (go_simp; rfl) | (have hq0_ := (blk_cell BK106.out 0).trans (show _ = some _ from rfl); have hf0_ := blk_frozen BK106.out 0; first | (go_simp; done) | (go_simp; rfl))); intro w31 hw; replace HO110 : Aside0 (Kd.R (Kd.int .u8) 5 w31 w0.heap.size (fun k_ => (P0_1_ k_ ∨ w.heap.size ≤ k_)) (.slice (some ⟨go20, 0, none⟩) y108.length co24) y112) := ⟨(by rw [hw]; exact (by (with_reducible repeat (first | apply Kd.R_alloc | apply Kd.R_drewN | apply Kd.R_drew)); exact Kd.R_mono (Kd.R_far (p := ⟨gb106, 0, none⟩) (Kd.R_types HO110.out BK106.out (by decide)) (fun _ hk => hk.2) (.int .i64 (wrap64 (x107000_1 + 1)))) (fun _ hk => hk.1)))⟩; replace BK106 : Aside0 (w31.heap[gb106]? = some (.cells #[.int .i64 (wrap64 (x107000_1 + 1)), .slice (some ⟨go20, 0, none⟩) y108.length co24] 26 (0, 0))) := ⟨(by rw [hw]; exact (by refine bU ?_; refine blk_put (cs := #[.int .i64 x107000_1, .slice (some ⟨go20, 0, none⟩) y108.length co24]) ?_ 0 _ rfl; refine bU ?_; exact BK106.out))⟩; replace BK107 : Aside0 (w31.heap[gb107]? = some (.cells #[.int .i64 0, .slice none 0 0] 26 (0, 0))) := ⟨(by rw [hw]; exact (bG NB107_106 BK107))⟩; replace HK : Aside0 (Kept w w31 (fun k_ => P0_1_ k_)) := ⟨(by rw [hw]; exact (by repeat (first | (with_reducible first | exact HK.out | apply Kept.alloc | apply Kept.drewN | apply Kept.drew | refine Kept.setCell ?_ (.inr GW106.out) _ | refine Kept.setCell ?_ (.inr GW107.out) _) | exact HK.out)))⟩; replace HB : Aside0 (Below w0.heap.size w0 w31) := ⟨(by rw [hw]; exact (lV2 GE106 GE107))⟩; clear hw))
           go_roundg k1
           case measure => have := HK1.out; omega
           case rel => exact ⟨(wrap64 (x7_1 - 1)), (wrap64 (x107000_1 + 1)), (y112), (.slice (some ⟨go20, 0, none⟩) y108.length co24), tE, H', ⟨by have := HK1.out; omega⟩, ⟨by (with_reducible repeat (first | apply Kd.R_alloc | apply Kd.R_drewN | apply Kd.R_drew)); exact HO110.out⟩, ⟨by refine bU ?_; exact BK106.out⟩, ⟨by refine bU ?_; exact BK107.out⟩, ⟨by repeat (first | (with_reducible first | exact HK.out | apply Kept.alloc | apply Kept.drewN | apply Kept.drew | refine Kept.setCell ?_ (.inr GW106.out) _ | refine Kept.setCell ?_ (.inr GW107.out) _) | exact HK.out)⟩, ⟨by repeat (first | (with_reducible first | exact HB.out | apply below_alloc | apply pw_below_drewN | apply below_drew1 | refine below_set ?_ GE106.out | refine below_set ?_ GE107.out) | exact HB.out)⟩⟩
          ·rw [if_neg c18] at H
           exact absurd H (by simp)
         ·rw [if_neg c16] at H
          exact absurd H (by simp)
        ·rw [if_neg c15] at H
         exact absurd H (by simp)
       ·rw [if_neg c13] at H
        have c13b0 : ((Go.bits .and .i64 (ji12) 1) == 1) = false := beq_eq_false_iff_ne.mpr c13
        have c13b1 : ((Go.bits .and .i64 (ji12) 1) != 1) = true := bne_iff_ne.mpr c13
        have H' := Aside0.mk H
        clear H
        have hnb32 := NB106_107.out
        have hnc32 := NB107_106.out
        have hcz33_0 := cz BK106 0 (.int .i64 x107000_1)
        have hcz33_1 := cz BK106 1 (u107001)
        have hfz33_0 := fz BK106 0
        have hfz33_1 := fz BK106 1
        go_wp2_with (first | ((with_reducible refine gate_builtin (b := .append) (xs := #[.tmp 19, .tmp 20]) rfl ?_); at_builtin; refine Kd.R_append (Kd.int .u8) (w0 := w0) w0.heap.size rfl (.tmp 19) (.tmp 20) 22 5 (.int .u8 0) 1 rfl Try.underlying22 info5 rfl (by decide) (by omega) u107001 x107001_1 0 [.int .u8 0] (fun k_ => (P0_1_ k_ ∨ w.heap.size ≤ k_)) (fun _ => False) rfl rfl ?aP (fun _ hk => hk.elim) ?aF ?aO ?aB ?aS ?aL ?_; (case aP => exact rfl); (case aB => exact (lV2 GE106 GE107)); (case aF => exact (fun k_ hk => (.inr (Nat.le_trans (by first | exact HK.out.1 | exact (show Kept w _ (fun k_ => P0_1_ k_) from by repeat (first | (with_reducible first | exact HK.out | apply Kept.alloc | apply Kept.drewN | apply Kept.drew | refine Kept.setCell ?_ (.inr GW106.out) _ | refine Kept.setCell ?_ (.inr GW107.out) _) | exact HK.out)).1) hk)))); (case aO => exact (rU HO_107001.out)); (case aS => exact (below_size (lV2 GE106 GE107))); (case aL => have := LMc9.out; omega); intro v109 w34 ho hb hg hat; rw [← Ny108.out] at ho; replace BK106 := Aside0.mk (blk_grown (g := gb106) (o := .cells #[.int .i64 x107000_1, u107001] 26 (0, 0)) (bV BK106) hg (Kd.R_ne HO_107001.out BK106.out (by decide))); replace BK107 := Aside0.mk (blk_grown (g := gb107) (o := .cells #[.int .i64 0, .slice none 0 0] 26 (0, 0)) (bV BK107) hg (Kd.R_ne HO_107001.out BK107.out (by decide))); replace HB := Aside0.mk hb; replace HK := Aside0.mk (Kept.of_grown (S := (fun k_ => P0_1_ k_)) hg (by repeat (first | (with_reducible first | exact HK.out | apply Kept.alloc | apply Kept.drewN | apply Kept.drew | refine Kept.setCell ?_ (.inr GW106.out) _ | refine Kept.setCell ?_ (.inr GW107.out) _) | exact HK.out)) (fun k_ e_ => (HO_107001.out.1 k_ e_))); have HO110 := Aside0.mk ho; clear HO_107001; clear ho hb hg hat; obtain ⟨Ao35, co35, eo35⟩ := Kd.R_slice HO110.out; subst eo35; have hcz36_0 := cz BK106 0 (.int .i64 x107000_1); have hcz36_1 := cz BK106 1 (u107001); have hfz36_0 := fz BK106 0; have hfz36_1 := fz BK106 1) | ((with_reducible refine gate_store (t := 22) (p := 22) rfl ?_); refine store_event (t := 22) (p := 22) (v := ?vo_w37) (w1 := (w34.setCell ⟨gb106, 1, none⟩ (.slice Ao35 y108.length co35))) ?hg ?ho ?hn ?hr ?_; (case ho => rfl); (case hg => rfl); (case hn => rfl); (case hr => first | (go_simp; done) | (go_simp; rfl) | (have hq0_ := (blk_cell BK106.out 1).trans (show _ = some _ from rfl); have hf0_ := blk_frozen BK106.out 1; first | (go_simp; done) | (go_simp; rfl))); intro w37 hw; replace HO110 : Aside0 (Kd.R (Kd.int .u8) 5 w37 w0.heap.size (fun k_ => (P0_1_ k_ ∨ w.heap.size ≤ k_)) (.slice Ao35 y108.length co35) y108) := ⟨(by rw [hw]; exact (by (with_reducible repeat (first | apply Kd.R_alloc | apply Kd.R_drewN | apply Kd.R_drew)); exact Kd.R_mono (Kd.R_far (p := ⟨gb106, 1, none⟩) (Kd.R_types HO110.out BK106.out (by decide)) (fun _ hk => hk.2) (.slice Ao35 y108.length co35)) (fun _ hk => hk.1)))⟩; replace BK106 : Aside0 (w37.heap[gb106]? = some (.cells #[.int .i64 x107000_1, .slice Ao35 y108.length co35] 26 (0, 0))) := ⟨(by rw [hw]; exact (by refine bU ?_; refine blk_put (cs := #[.int .i64 x107000_1, u107001]) ?_ 1 _ rfl; refine bU ?_; exact BK106.out))⟩; replace BK107 : Aside0 (w37.heap[gb107]? = some (.cells #[.int .i64 0, .slice none 0 0] 26 (0, 0))) := ⟨(by rw [hw]; exact (bG NB107_106 BK107))⟩; replace HK : Aside0 (Kept w w37 (fun k_ => P0_1_ k_)) := ⟨(by rw [hw]; exact (by repeat (first | (with_reducible first | exact HK.out | apply Kept.alloc | apply Kept.drewN | apply Kept.drew | refine Kept.setCell ?_ (.inr GW106.out) _ | refine Kept.setCell ?_ (.inr GW107.out) _) | exact HK.out)))⟩; replace HB : Aside0 (Below w0.heap.size w0 w37) := ⟨(by rw [hw]; exact (lV2 GE106 GE107))⟩; clear hw; have hcz38_0 := cz BK106 0 (.int .i64 x107000_1); have hcz38_1 := cz BK106 1 (.slice Ao35 y108.length co35); have hfz38_0 := fz BK106 0; have hfz38_1 := fz BK106 1) | ((with_reducible refine gate_store (t := 3) (p := 46) rfl ?_); refine store_event (t := 3) (p := 46) (v := ?vo_w39) (w1 := (w37.setCell ⟨gb106, 0, none⟩ (.int .i64 (wrap64 (x107000_1 + 1))))) ?hg ?ho ?hn ?hr ?_; (case ho => rfl); (case hg => rfl); (case hn => rfl); (case hr => first | (go_simp; done) | (go_simp; rfl) | (have hq0_ := (blk_cell BK106.out 0).trans (show _ = some _ from rfl); have hf0_ := blk_frozen BK106.out 0; first | (go_simp; done) | (go_simp; rfl))); intro w39 hw; replace HO110 : Aside0 (Kd.R (Kd.int .u8) 5 w39 w0.heap.size (fun k_ => (P0_1_ k_ ∨ w.heap.size ≤ k_)) (.slice Ao35 y108.length co35) y108) := ⟨(by rw [hw]; exact (by (with_reducible repeat (first | apply Kd.R_alloc | apply Kd.R_drewN | apply Kd.R_drew)); exact Kd.R_mono (Kd.R_far (p := ⟨gb106, 0, none⟩) (Kd.R_types HO110.out BK106.out (by decide)) (fun _ hk => hk.2) (.int .i64 (wrap64 (x107000_1 + 1)))) (fun _ hk => hk.1)))⟩; replace BK106 : Aside0 (w39.heap[gb106]? = some (.cells #[.int .i64 (wrap64 (x107000_1 + 1)), .slice Ao35 y108.length co35] 26 (0, 0))) := ⟨(by rw [hw]; exact (by refine bU ?_; refine blk_put (cs := #[.int .i64 x107000_1, .slice Ao35 y108.length co35]) ?_ 0 _ rfl; refine bU ?_; exact BK106.out))⟩; replace BK107 : Aside0 (w39.heap[gb107]? = some (.cells #[.int .i64 0, .slice none 0 0] 26 (0, 0))) := ⟨(by rw [hw]; exact (bG NB107_106 BK107))⟩; replace HK : Aside0 (Kept w w39 (fun k_ => P0_1_ k_)) := ⟨(by rw [hw]; exact (by repeat (first | (with_reducible first | exact HK.out | apply Kept.alloc | apply Kept.drewN | apply Kept.drew | refine Kept.setCell ?_ (.inr GW106.out) _ | refine Kept.setCell ?_ (.inr GW107.out) _) | exact HK.out)))⟩; replace HB : Aside0 (Below w0.heap.size w0 w39) := ⟨(by rw [hw]; exact (lV2 GE106 GE107))⟩; clear hw))
        go_roundg k1
        case measure => have := HK1.out; omega
        case rel => exact ⟨(wrap64 (x7_1 - 1)), (wrap64 (x107000_1 + 1)), (y108), (.slice Ao35 y108.length co35), tE, H', ⟨by have := HK1.out; omega⟩, ⟨by (with_reducible repeat (first | apply Kd.R_alloc | apply Kd.R_drewN | apply Kd.R_drew)); exact HO110.out⟩, ⟨by refine bU ?_; exact BK106.out⟩, ⟨by refine bU ?_; exact BK107.out⟩, ⟨by repeat (first | (with_reducible first | exact HK.out | apply Kept.alloc | apply Kept.drewN | apply Kept.drew | refine Kept.setCell ?_ (.inr GW106.out) _ | refine Kept.setCell ?_ (.inr GW107.out) _) | exact HK.out)⟩, ⟨by repeat (first | (with_reducible first | exact HB.out | apply below_alloc | apply pw_below_drewN | apply below_drew1 | refine below_set ?_ GE106.out | refine below_set ?_ GE107.out) | exact HB.out)⟩⟩
      ·rw [if_neg c11] at H
       exact absurd H (by simp)
     ·rw [if_neg c9] at H
      exact absurd H (by simp)
    ·rw [if_neg c8] at H
     have c8b0 : ((Int.tmod x107000_1 8) == 0) = false := beq_eq_false_iff_ne.mpr c8
     have c8b1 : ((Int.tmod x107000_1 8) != 0) = true := bne_iff_ne.mpr c8
     obtain ⟨ji40, hji40⟩ : ∃ j_ : Int, (IntKind.u64.wrap (x7_1)) = j_ := ⟨_, rfl⟩
     replace H : (if 0 ≤ (ji40) then (if (Go.bits .and .i64 (shr .i64 a1 (ji40)) 1) = 1 then (if 0 ≤ (wrap64 (Int.tdiv x107000_1 8)) then (if (wrap64 (Int.tdiv x107000_1 8)) < (x107001_1.length : Int) then (if 0 ≤ (IntKind.u64.wrap (Int.tmod x107000_1 8)) then (spec_l23Put.l0 k1 a1 (wrap64 (x7_1 - 1)) (wrap64 (x107000_1 + 1)) (x107001_1.set ((wrap64 (Int.tdiv x107000_1 8)) : Int).toNat (Go.bits .or .u8 (rd x107001_1 (wrap64 (Int.tdiv x107000_1 8))) (shr .u8 128 (IntKind.u64.wrap (Int.tmod x107000_1 8)))))) else (none)) else (none)) else (none)) else (spec_l23Put.l0 k1 a1 (wrap64 (x7_1 - 1)) (wrap64 (x107000_1 + 1)) x107001_1)) else (none)) = some (r1, r2) := by first | (rw [hji40] at H; exact H) | (simp only [hji40] at H ⊢; exact H)
     by_cases c41 : 0 ≤ (ji40)
     ·rw [if_pos c41] at H
      have c41b0 := eq_true c41
      have c41b1 : decide (0 ≤ (ji40)) = true := decide_eq_true c41
      clear c41
      obtain ⟨ji42, hji42⟩ : ∃ j_ : Int, (shr .i64 a1 (ji40)) = j_ := ⟨_, rfl⟩
      replace H : (if (Go.bits .and .i64 (ji42) 1) = 1 then (if 0 ≤ (wrap64 (Int.tdiv x107000_1 8)) then (if (wrap64 (Int.tdiv x107000_1 8)) < (x107001_1.length : Int) then (if 0 ≤ (IntKind.u64.wrap (Int.tmod x107000_1 8)) then (spec_l23Put.l0 k1 a1 (wrap64 (x7_1 - 1)) (wrap64 (x107000_1 + 1)) (x107001_1.set ((wrap64 (Int.tdiv x107000_1 8)) : Int).toNat (Go.bits .or .u8 (rd x107001_1 (wrap64 (Int.tdiv x107000_1 8))) (shr .u8 128 (IntKind.u64.wrap (Int.tmod x107000_1 8)))))) else (none)) else (none)) else (none)) else (spec_l23Put.l0 k1 a1 (wrap64 (x7_1 - 1)) (wrap64 (x107000_1 + 1)) x107001_1)) = some (r1, r2) := by first | (rw [hji42] at H; exact H) | (simp only [hji42] at H ⊢; exact H)
      have hji42_ : (a1 / 2 ^ min (ji40).toNat 64) = ji42 := hji42
      have hji42z : (ji40) ≤ 64 → (a1 / 2 ^ (ji40).toNat) = ji42 := shr_small hji42
      by_cases c43 : (Go.bits .and .i64 (ji42) 1) = 1
      ·rw [if_pos c43] at H
       have c43b0 : ((Go.bits .and .i64 (ji42) 1) == 1) = true := beq_iff_eq.mpr c43
       have c43b1 : ((Go.bits .and .i64 (ji42) 1) != 1) = false := bne_eq_false_iff_eq.mpr c43
       clear c43
       obtain ⟨ji44, hji44⟩ : ∃ j_ : Int, (wrap64 (Int.tdiv x107000_1 8)) = j_ := ⟨_, rfl⟩
       replace H : (if 0 ≤ (ji44) then (if (ji44) < (x107001_1.length : Int) then (if 0 ≤ (IntKind.u64.wrap (Int.tmod x107000_1 8)) then (spec_l23Put.l0 k1 a1 (wrap64 (x7_1 - 1)) (wrap64 (x107000_1 + 1)) (x107001_1.set ((ji44) : Int).toNat (Go.bits .or .u8 (rd x107001_1 (ji44)) (shr .u8 128 (IntKind.u64.wrap (Int.tmod x107000_1 8)))))) else (none)) else (none)) else (none)) = some (r1, r2) := by first | (rw [hji44] at H; exact H) | (simp only [hji44] at H ⊢; exact H)
       have hji44w : (IntKind.i64.wrap (Int.tdiv x107000_1 8)) = ji44 := (i64_w _).trans hji44
       by_cases c45 : 0 ≤ (ji44)
       ·rw [if_pos c45] at H
        have c45b0 : decide (0 ≤ (ji44)) = true := decide_eq_true c45
        clear c45
        by_cases c46 : (ji44) < (x107001_1.length : Int)
        ·rw [if_pos c46] at H
         have c46b0 : decide ((ji44) < (x107001_1.length : Int)) = true := decide_eq_true c46
         clear c46
         obtain ⟨ji47, hji47⟩ : ∃ j_ : Int, (IntKind.u64.wrap (Int.tmod x107000_1 8)) = j_ := ⟨_, rfl⟩
         replace H : (if 0 ≤ (ji47) then (spec_l23Put.l0 k1 a1 (wrap64 (x7_1 - 1)) (wrap64 (x107000_1 + 1)) (x107001_1.set ((ji44) : Int).toNat (Go.bits .or .u8 (rd x107001_1 (ji44)) (shr .u8 128 (ji47))))) else (none)) = some (r1, r2) := by first | (rw [hji47] at H; exact H) | (simp only [hji47] at H ⊢; exact H)
         by_cases c48 : 0 ≤ (ji47)
         ·rw [if_pos c48] at H
          have c48b0 := eq_true c48
          have c48b1 : decide (0 ≤ (ji47)) = true := decide_eq_true c48
          clear c48
          obtain ⟨ji49, hji49⟩ : ∃ j_ : Int, (shr .u8 128 (ji47)) = j_ := ⟨_, rfl⟩
          replace H : (spec_l23Put.l0 k1 a1 (wrap64 (x7_1 - 1)) (wrap64 (x107000_1 + 1)) (x107001_1.set ((ji44) : Int).toNat (Go.bits .or .u8 (rd x107001_1 (ji44)) (ji49)))) = some (r1, r2) := by first | (rw [hji49] at H; exact H) | (simp only [hji49] at H ⊢; exact H)
          have hji49_ : (128 / 2 ^ min (ji47).toNat 8) = ji49 := hji49
          have hji49z : (ji47) ≤ 8 → (128 / 2 ^ (ji47).toNat) = ji49 := shr_small hji49
          obtain ⟨y114, hy114⟩ : ∃ y_ : List Int, y_ = (x107001_1.set ((ji44) : Int).toNat (Go.bits .or .u8 (rd x107001_1 (ji44)) (ji49))) := ⟨_, rfl⟩
          replace H : (spec_l23Put.l0 k1 a1 (wrap64 (x7_1 - 1)) (wrap64 (x107000_1 + 1)) y114) = some (r1, r2) := by first | (rw [hy114]; with_reducible exact H) | (have H2_ := (Option.bind_some _ _).symm.trans H; rw [hy114]; with_reducible exact H2_) | (have H2_ := (Option.bind_some _ _).symm.trans H; with_reducible exact H2_) | with_reducible exact H | (rw [hy114]; exact H) | exact H
          have Ny114 := Aside0.mk hy114
          clear hy114
          have H' := Aside0.mk H
          clear H
          have hnb51 := NB106_107.out
          have hnc51 := NB107_106.out
          have hcz52_0 := cz BK106 0 (.int .i64 x107000_1)
          have hcz52_1 := cz BK106 1 (u107001)
          have hfz52_0 := fz BK106 0
          have hfz52_1 := fz BK106 1
          try go_wp2
          replace HO_107001 := Aside0.mk (Kd.R_drew HO_107001.out)
          replace BK106 := Aside0.mk (blk_drew BK106.out)
          replace BK107 := Aside0.mk (blk_drew BK107.out)
          replace HK := Aside0.mk (Kept.drew HK.out)
          replace HB := Aside0.mk (below_drew1 HB.out)
          obtain ⟨Ao54, co54, eo54⟩ := Kd.R_slice HO_107001.out
          (first | subst eo54 | (injection eo54 with f1_ f2_ f3_; have f4_ := f1_.symm; have f5_ := f3_.symm; clear f1_ f2_ f3_; subst f4_; subst f5_))
          have p113 : 0 ≤ ((ji44) : Int) := of_decide_eq_true hE
          have q113 : (ji44) < (x107001_1.length : Int) := of_decide_eq_true hE
          obtain ⟨ad113, e113, hx113_0⟩ := Kd.at_int (Kd.R_reads' HO_107001.out).2.2 (ji44) p113 q113
          cases e113
          replace p113 := eq_true p113
          replace q113 := eq_true q113
          have p50 : 0 ≤ ((ji44) : Int) := of_decide_eq_true hE
          have q50 : ((ji44) : Int) < ((x107001_1.length : Int) : Int) := of_decide_eq_true hE
          obtain ⟨go50, co50, eo50, gb50, gl50, cl50, HG50⟩ := Kd.R_form HO_107001.out (by omega)
          (first | cases eo50 | (injection eo50 with ea_ en_ ec_; (first | subst ea_ | (injection ea_ with ea_; subst ea_)); subst ec_; clear en_))
          have GB50 := Aside0.mk gb50
          have GG50 := Aside0.mk HG50
          clear gb50 gl50 HG50
          have HMgo50 := Aside0.mk (show (P0_1_ go50 ∨ w.heap.size ≤ go50) from (HO_107001.out.1 _ rfl))
          (first | simp only [add_plain] at hx113_0 | skip)
          obtain ⟨hx50_0, hf50_0⟩ := Kd.R_celln 0 HO_107001.out ((ji44) : Int) p50 q50
          replace p50 := eq_true p50
          replace q50 := eq_true q50
          have HP55 := Kd.R_putn HO_107001.out ((ji44) : Int) (Go.bits .or .u8 (rd x107001_1 (ji44)) (ji49))
          rw [← Ny114.out] at HP55
          have HQ55 := Aside0.mk HP55
          clear HP55
          refine start_ (n := 15) (S := fun w' => w'.cell? ⟨gb106, 0, none⟩ = some (.int .i64 x107000_1) ∧ w'.cell? ⟨gb106, 1, none⟩ = some (.slice (some ⟨go50, 0, none⟩) x107001_1.length co54) ∧ w'.cell? ⟨go50, ((ji44)).toNat, none⟩ = some (.int .u8 (rd x107001_1 (ji44)))) (ds := [14]) #[false, false, false, false, false, false, false, false, false, false, false, false, false, false, false] (by kernel_rfl) rfl rfl ⟨cz BK106 0 _, cz BK106 1 _, hx113_0⟩ (fun hHeld => ?_); refine with_tabW spec_l23Put.tab7 spec_l23Put.bits7 (fun HT_ HW_ => ?_)
          generalize wr.drew = w53 at HO_107001 BK106 BK107 HK HB GG50 HQ55 hf50_0 hx113_0 hx50_0 hHeld ⊢
          refine pureA 0 29 (bz 15 1) rfl rfl (any_of HT_.out (by kernel_rfl)) ?_
          refine pureA 2 31 (bz 15 5) rfl rfl (any_of HT_.out (by kernel_rfl)) ?_
          refine pureA 7 36 (bz 15 133) rfl rfl (any_of HT_.out (by kernel_rfl)) ?_
          refine takeA 1 30 (bz 15 135) rfl rfl (take_ofW HT_.out HW_.out (by kernel_rfl)) hHeld (by rintro w' ⟨s0, s1, s2⟩; go_simp; with_reducible rfl) ?_
          refine takeA 3 32 (bz 15 143) rfl rfl (take_ofW HT_.out HW_.out (by kernel_rfl)) hHeld (by rintro w' ⟨s0, s1, s2⟩; go_simp; with_reducible rfl) ?_
          refine pureA 4 33 (bz 15 159) rfl rfl (any_of HT_.out (by kernel_rfl)) ?_
          refine pureA 5 34 (bz 15 191) rfl rfl (any_of HT_.out (by kernel_rfl)) ?_
          refine takeA 6 35 (bz 15 255) rfl rfl (take_ofW HT_.out HW_.out (by kernel_rfl)) hHeld (by rintro w' ⟨s0, s1, s2⟩; go_simp; with_reducible rfl) ?_
          refine takeA 8 37 (bz 15 511) rfl rfl (take_ofW HT_.out HW_.out (by kernel_rfl)) hHeld (by rintro w' ⟨s0, s1, s2⟩; go_simp; with_reducible rfl) ?_
          refine pureA 9 38 (bz 15 1023) rfl rfl (any_of HT_.out (by kernel_rfl)) ?_
          refine pureA 10 39 (bz 15 2047) rfl rfl (any_of HT_.out (by kernel_rfl)) ?_
          refine pureA 11 40 (bz 15 4095) rfl rfl (any_of HT_.out (by kernel_rfl)) ?_
          refine pureA 12 41 (bz 15 8191) rfl rfl (any_of HT_.out (by kernel_rfl)) ?_
          refine pureA 13 42 (bz 15 16383) rfl rfl (any_of HT_.out (by kernel_rfl)) ?_
          refine last_ (i := 14) (N := none) (bz 15 32767) rfl rfl (one_of HT_.out (by kernel_rfl)) (by decide) (fun K hK => ?_)
          refine skip_ (w1 := ?_) (by rfl) rfl ?_ ?_
          rotate_left
          ·go_simp
           rfl
          refine hK.out _ _ ?_
          clear hK K
          refine done_ (done_of HT_.out (by kernel_rfl)) ?_
          have n0_ : Aside0 (Kd.R (Kd.int .u8) 5 (w53.setCell ⟨go50, ((ji44) : Int).toNat, none⟩ (.int .u8 (Go.bits .or .u8 (rd x107001_1 (ji44)) (ji49)))) w0.heap.size (fun k_ => (P0_1_ k_ ∨ w.heap.size ≤ k_)) (.slice (some ⟨go50, 0, none⟩) x107001_1.length co54) y114) := ⟨by (with_reducible repeat (first | apply Kd.R_alloc | apply Kd.R_drewN | apply Kd.R_drew)); exact HQ55.out⟩
          have n1_ : Aside0 ((w53.setCell ⟨go50, ((ji44) : Int).toNat, none⟩ (.int .u8 (Go.bits .or .u8 (rd x107001_1 (ji44)) (ji49)))).heap[gb106]? = some (.cells #[.int .i64 x107000_1, .slice (some ⟨go50, 0, none⟩) x107001_1.length co54] 26 (0, 0))) := ⟨by refine bU ?_; refine blk_far ?_ (by have h_ := Kd.R_ne HO_107001.out BK106.out (by decide); intro e_; exact h_ (by rw [e_]; rfl)) _; refine bU ?_; exact BK106.out⟩
          have n2_ : Aside0 ((w53.setCell ⟨go50, ((ji44) : Int).toNat, none⟩ (.int .u8 (Go.bits .or .u8 (rd x107001_1 (ji44)) (ji49)))).heap[gb107]? = some (.cells #[.int .i64 0, .slice none 0 0] 26 (0, 0))) := ⟨by refine bU ?_; refine blk_far ?_ (by have h_ := Kd.R_ne HO_107001.out BK107.out (by decide); intro e_; exact h_ (by rw [e_]; rfl)) _; refine bU ?_; exact BK107.out⟩
          have n3_ : Aside0 (Kept w (w53.setCell ⟨go50, ((ji44) : Int).toNat, none⟩ (.int .u8 (Go.bits .or .u8 (rd x107001_1 (ji44)) (ji49)))) (fun k_ => P0_1_ k_)) := ⟨by repeat (first | (with_reducible first | exact HK.out | apply Kept.alloc | apply Kept.drewN | apply Kept.drew | refine Kept.setCell ?_ HMgo50.out _ | refine Kept.setCell ?_ (.inr GW106.out) _ | refine Kept.setCell ?_ (.inr GW107.out) _) | exact HK.out)⟩
          have n4_ : Aside0 (Below w0.heap.size w0 (w53.setCell ⟨go50, ((ji44) : Int).toNat, none⟩ (.int .u8 (Go.bits .or .u8 (rd x107001_1 (ji44)) (ji49))))) := ⟨by repeat (first | (with_reducible first | exact HB.out | apply below_alloc | apply pw_below_drewN | apply below_drew1 | refine below_set ?_ GB50.out | refine below_set ?_ GE106.out | refine below_set ?_ GE107.out) | exact HB.out)⟩
          (try clear HO_107001)
          (try clear BK106)
          (try clear BK107)
          (try clear HK)
          (try clear HB)
          generalize (w53.setCell ⟨go50, ((ji44) : Int).toNat, none⟩ (.int .u8 (Go.bits .or .u8 (rd x107001_1 (ji44)) (ji49)))) = w56 at n0_ n1_ n2_ n3_ n4_ ⊢
          have HO_107001 := n0_
          have BK106 := n1_
          have BK107 := n2_
          have HK := n3_
          have HB := n4_
          clear n0_ n1_ n2_ n3_ n4_
          have hcz57_0 := cz BK106 0 (.int .i64 x107000_1)
          have hcz57_1 := cz BK106 1 (.slice (some ⟨go50, 0, none⟩) x107001_1.length co54)
          have hfz57_0 := fz BK106 0
          have hfz57_1 := fz BK106 1
          try go_wp2_with (first | ((with_reducible refine gate_store (t := 3) (p := 46) rfl ?_); refine store_event (t := 3) (p := 46) (v := ?vo_w58) (w1 := (w56.setCell ⟨gb106, 0, none⟩ (.int .i64 (wrap64 (x107000_1 + 1))))) ?hg ?ho ?hn ?hr ?_; (case ho => rfl); (case hg => rfl); (case hn => rfl); (case hr => first | (go_simp; done) | (go_simp; rfl) | (have hq0_ := (blk_cell BK106.out 0).trans (show _ = some _ from rfl); have hf0_ := blk_frozen BK106.out 0; first | (go_simp; done) | (go_simp; rfl))); intro w58 hw; replace HO_107001 : Aside0 (Kd.R (Kd.int .u8) 5 w58 w0.heap.size (fun k_ => (P0_1_ k_ ∨ w.heap.size ≤ k_)) (.slice (some ⟨go50, 0, none⟩) x107001_1.length co54) y114) := ⟨(by rw [hw]; exact (by (with_reducible repeat (first | apply Kd.R_alloc | apply Kd.R_drewN | apply Kd.R_drew)); exact Kd.R_mono (Kd.R_far (p := ⟨gb106, 0, none⟩) (Kd.R_types HO_107001.out BK106.out (by decide)) (fun _ hk => hk.2) (.int .i64 (wrap64 (x107000_1 + 1)))) (fun _ hk => hk.1)))⟩; replace BK106 : Aside0 (w58.heap[gb106]? = some (.cells #[.int .i64 (wrap64 (x107000_1 + 1)), .slice (some ⟨go50, 0, none⟩) x107001_1.length co54] 26 (0, 0))) := ⟨(by rw [hw]; exact (by refine bU ?_; refine blk_put (cs := #[.int .i64 x107000_1, .slice (some ⟨go50, 0, none⟩) x107001_1.length co54]) ?_ 0 _ rfl; refine bU ?_; exact BK106.out))⟩; replace BK107 : Aside0 (w58.heap[gb107]? = some (.cells #[.int .i64 0, .slice none 0 0] 26 (0, 0))) := ⟨(by rw [hw]; exact (bG NB107_106 BK107))⟩; replace HK : Aside0 (Kept w w58 (fun k_ => P0_1_ k_)) := ⟨(by rw [hw]; exact (by repeat (first | (with_reducible first | exact HK.out | apply Kept.alloc | apply Kept.drewN | apply Kept.drew | refine Kept.setCell ?_ (.inr GW106.out) _ | refine Kept.setCell ?_ (.inr GW107.out) _) | exact HK.out)))⟩; replace HB : Aside0 (Below w0.heap.size w0 w58) := ⟨(by rw [hw]; exact (lV2 GE106 GE107))⟩; clear hw))
          go_roundg k1
          case measure => have := HK1.out; omega
          case rel => exact ⟨(wrap64 (x7_1 - 1)), (wrap64 (x107000_1 + 1)), (y114), (.slice (some ⟨go50, 0, none⟩) x107001_1.length co54), tE, H', ⟨by have := HK1.out; omega⟩, ⟨by (with_reducible repeat (first | apply Kd.R_alloc | apply Kd.R_drewN | apply Kd.R_drew)); exact HO_107001.out⟩, ⟨by refine bU ?_; exact BK106.out⟩, ⟨by refine bU ?_; exact BK107.out⟩, ⟨by repeat (first | (with_reducible first | exact HK.out | apply Kept.alloc | apply Kept.drewN | apply Kept.drew | refine Kept.setCell ?_ (.inr GW106.out) _ | refine Kept.setCell ?_ (.inr GW107.out) _) | exact HK.out)⟩, ⟨by repeat (first | (with_reducible first | exact HB.out | apply below_alloc | apply pw_below_drewN | apply below_drew1 | refine below_set ?_ GE106.out | refine below_set ?_ GE107.out) | exact HB.out)⟩⟩
         ·rw [if_neg c48] at H
          exact absurd H (by simp)
        ·rw [if_neg c46] at H
         exact absurd H (by simp)
       ·rw [if_neg c45] at H
        exact absurd H (by simp)
      ·rw [if_neg c43] at H
       have c43b0 : ((Go.bits .and .i64 (ji42) 1) == 1) = false := beq_eq_false_iff_ne.mpr c43
       have c43b1 : ((Go.bits .and .i64 (ji42) 1) != 1) = true := bne_iff_ne.mpr c43
       have H' := Aside0.mk H
       clear H
       have hnb59 := NB106_107.out
       have hnc59 := NB107_106.out
       have hcz60_0 := cz BK106 0 (.int .i64 x107000_1)
       have hcz60_1 := cz BK106 1 (u107001)
       have hfz60_0 := fz BK106 0
       have hfz60_1 := fz BK106 1
       go_wp2_with (first | ((with_reducible refine gate_store (t := 3) (p := 46) rfl ?_); refine store_event (t := 3) (p := 46) (v := ?vo_w61) (w1 := (wr.setCell ⟨gb106, 0, none⟩ (.int .i64 (wrap64 (x107000_1 + 1))))) ?hg ?ho ?hn ?hr ?_; (case ho => rfl); (case hg => rfl); (case hn => rfl); (case hr => first | (go_simp; done) | (go_simp; rfl) | (have hq0_ := (blk_cell BK106.out 0).trans (show _ = some _ from rfl); have hf0_ := blk_frozen BK106.out 0; first | (go_simp; done) | (go_simp; rfl))); intro w61 hw; replace HO_107001 : Aside0 (Kd.R (Kd.int .u8) 5 w61 w0.heap.size (fun k_ => (P0_1_ k_ ∨ w.heap.size ≤ k_)) u107001 x107001_1) := ⟨(by rw [hw]; exact (by (with_reducible repeat (first | apply Kd.R_alloc | apply Kd.R_drewN | apply Kd.R_drew)); exact Kd.R_mono (Kd.R_far (p := ⟨gb106, 0, none⟩) (Kd.R_types HO_107001.out BK106.out (by decide)) (fun _ hk => hk.2) (.int .i64 (wrap64 (x107000_1 + 1)))) (fun _ hk => hk.1)))⟩; replace BK106 : Aside0 (w61.heap[gb106]? = some (.cells #[.int .i64 (wrap64 (x107000_1 + 1)), u107001] 26 (0, 0))) := ⟨(by rw [hw]; exact (by refine bU ?_; refine blk_put (cs := #[.int .i64 x107000_1, u107001]) ?_ 0 _ rfl; refine bU ?_; exact BK106.out))⟩; replace BK107 : Aside0 (w61.heap[gb107]? = some (.cells #[.int .i64 0, .slice none 0 0] 26 (0, 0))) := ⟨(by rw [hw]; exact (bG NB107_106 BK107))⟩; replace HK : Aside0 (Kept w w61 (fun k_ => P0_1_ k_)) := ⟨(by rw [hw]; exact (by repeat (first | (with_reducible first | exact HK.out | apply Kept.alloc | apply Kept.drewN | apply Kept.drew | refine Kept.setCell ?_ (.inr GW106.out) _ | refine Kept.setCell ?_ (.inr GW107.out) _) | exact HK.out)))⟩; replace HB : Aside0 (Below w0.heap.size w0 w61) := ⟨(by rw [hw]; exact (lV2 GE106 GE107))⟩; clear hw))
       go_roundg k1
       case measure => have := HK1.out; omega
       case rel => exact ⟨(wrap64 (x7_1 - 1)), (wrap64 (x107000_1 + 1)), (x107001_1), (u107001), tE, H', ⟨by have := HK1.out; omega⟩, ⟨by (with_reducible repeat (first | apply Kd.R_alloc | apply Kd.R_drewN | apply Kd.R_drew)); exact HO_107001.out⟩, ⟨by refine bU ?_; exact BK106.out⟩, ⟨by refine bU ?_; exact BK107.out⟩, ⟨by repeat (first | (with_reducible first | exact HK.out | apply Kept.alloc | apply Kept.drewN | apply Kept.drew | refine Kept.setCell ?_ (.inr GW106.out) _ | refine Kept.setCell ?_ (.inr GW107.out) _) | exact HK.out)⟩, ⟨by repeat (first | (with_reducible first | exact HB.out | apply below_alloc | apply pw_below_drewN | apply below_drew1 | refine below_set ?_ GE106.out | refine below_set ?_ GE107.out) | exact HB.out)⟩⟩
     ·rw [if_neg c41] at H
      exact absurd H (by simp)
   ·rw [if_neg c7] at H
    have c7b0 : decide (0 ≤ x7_1) = false := decide_eq_false c7
    clear c7
    simp only [Option.some.injEq, Prod.mk.injEq] at H
    obtain ⟨rfl, rfl⟩ := H
    have hnb62 := NB106_107.out
    have hnc62 := NB107_106.out
    have hcz63_0 := cz BK106 0 (.int .i64 x107000_1)
    have hcz63_1 := cz BK106 1 (u107001)
    have hfz63_0 := fz BK106 0
    have hfz63_1 := fz BK106 1
    have hcz64_0 := cz BK107 0 (.int .i64 0)
    have hcz64_1 := cz BK107 1 (.slice none 0 0)
    have hfz64_0 := fz BK107 0
    have hfz64_1 := fz BK107 1
    obtain ⟨Ao65, co65, eo65⟩ := Kd.R_slice HO_107001.out
    subst eo65
    go_wp2_with (first | ((with_reducible refine gate_store (t := 26) (p := 6) rfl ?_); refine store_event (t := 26) (p := 6) (v := ?vo_w66) (w1 := ((wr.setCell ⟨gb107, 0, none⟩ (.int .i64 x107000_1)).setCell ⟨gb107, 1, none⟩ (.slice Ao65 x107001_1.length co65))) ?hg ?ho ?hn ?hr ?_; (case ho => rfl); (case hg => rfl); (case hn => rfl); (case hr => first | (go_simp; done) | (go_simp; rfl) | (have hq0_ := (blk_cell BK107.out 0).trans (show _ = some _ from rfl); have hf0_ := blk_frozen BK107.out 0; have hq1_ := (blk_cell BK107.out 1).trans (show _ = some _ from rfl); have hf1_ := blk_frozen BK107.out 1; first | (go_simp; done) | (go_simp; rfl))); intro w66 hw; replace HO_107001 : Aside0 (Kd.R (Kd.int .u8) 5 w66 w0.heap.size (fun k_ => (P0_1_ k_ ∨ w.heap.size ≤ k_)) (.slice Ao65 x107001_1.length co65) x107001_1) := ⟨(by rw [hw]; exact (by (with_reducible repeat (first | apply Kd.R_alloc | apply Kd.R_drewN | apply Kd.R_drew)); exact Kd.R_mono (Kd.R_far (p := ⟨gb107, 1, none⟩) (Kd.R_far (p := ⟨gb107, 0, none⟩) (Kd.R_types HO_107001.out BK107.out (by decide)) (fun _ hk => hk.2) (.int .i64 x107000_1)) (fun _ hk => hk.2) (.slice Ao65 x107001_1.length co65)) (fun _ hk => hk.1)))⟩; replace BK106 : Aside0 (w66.heap[gb106]? = some (.cells #[.int .i64 x107000_1, .slice Ao65 x107001_1.length co65] 26 (0, 0))) := ⟨(by rw [hw]; exact (bG NB106_107 BK106))⟩; replace BK107 : Aside0 (w66.heap[gb107]? = some (.cells #[.int .i64 x107000_1, .slice Ao65 x107001_1.length co65] 26 (0, 0))) := ⟨(by rw [hw]; exact (by refine bU ?_; refine blk_put (cs := #[.int .i64 x107000_1, .slice none 0 0]) ?_ 1 _ rfl; refine bU ?_; refine blk_put (cs := #[.int .i64 0, .slice none 0 0]) ?_ 0 _ rfl; refine bU ?_; exact BK107.out))⟩; replace HK : Aside0 (Kept w w66 (fun k_ => P0_1_ k_)) := ⟨(by rw [hw]; exact (by repeat (first | (with_reducible first | exact HK.out | apply Kept.alloc | apply Kept.drewN | apply Kept.drew | refine Kept.setCell ?_ (.inr GW106.out) _ | refine Kept.setCell ?_ (.inr GW107.out) _) | exact HK.out)))⟩; replace HB : Aside0 (Below w0.heap.size w0 w66) := ⟨(by rw [hw]; exact (lV2 GE106 GE107))⟩; clear hw))
    refine bodyPost_ret (results_cell_row rfl _ _ gb107 26 #[.int .i64 x107000_1, .slice Ao65 x107001_1.length co65] (0, 0) _ rfl (bV BK107) Try.underlying26 rfl (by kernel_rfl)) rfl ?_
    exact ⟨_, eE, by (with_reducible repeat (first | apply Kd.R_alloc | apply Kd.R_drewN | apply Kd.R_drew)); exact HO_107001.out, lV2 GE106 GE107, by repeat (first | (with_reducible first | exact HK.out | apply Kept.alloc | apply Kept.drewN | apply Kept.drew | refine Kept.setCell ?_ (.inr GW106.out) _ | refine Kept.setCell ?_ (.inr GW107.out) _) | exact HK.out)⟩
def spec_l23Own.f (a0_0 : Int) (l0_1 : List Int) : Option (Int × List Int) := (some (([] : List Int) : List Int)).bind fun y117 => (if y117.length + l0_1.length < 140737488355328 then (some (a0_0, (y117 ++ l0_1))) else (none))
set_option maxHeartbeats 8000000 in
set_option maxRecDepth 100000 in
theorem spec_l23Own.calls (a0_0 : Int) (A0_1 : Option Addr) (c0_1 : Nat) (l0_1 : List Int) (r1 : Int) (r2 : List Int) (w : World) (hr0_1 : Kd.C (Kd.int .u8) w A0_1 l0_1.length l0_1) (hc0_1 : l0_1.length ≤ c0_1) (h : spec_l23Own.f a0_0 l0_1 = some (r1, r2)) :
  Calls Try.prog 15 #[.agg #[.int .i64 a0_0, .slice A0_1 l0_1.length c0_1]] w fun e w' => ∃ v1_ : Value, e = .returned (.agg #[.int .i64 r1, v1_]) ∧ Kd.R (Kd.int .u8) 5 w' w.heap.size (fun _ => True) v1_ r2 ∧ Below w.heap.size w w' := by
 have hu26 := Try.underlying26
 have HR0_1 := Aside0.mk hr0_1
 have HC0_1 := Aside0.mk hc0_1
 clear hr0_1 hc0_1
 have HB := Aside0.mk (Below.refl w.heap.size w)
 have H : ((some (([] : List Int) : List Int)).bind fun y117 => (if y117.length + l0_1.length < 140737488355328 then (some (a0_0, (y117 ++ l0_1))) else (none))) = some (r1, r2) := h
 clear h
 obtain ⟨y117, hy117⟩ : ∃ y_ : List Int, y_ = (([] : List Int)) := ⟨_, rfl⟩
 replace H : (if y117.length + l0_1.length < 140737488355328 then (some (a0_0, (y117 ++ l0_1))) else (none)) = some (r1, r2) := by first | (rw [hy117]; with_reducible exact H) | (have H2_ := (Option.bind_some _ _).symm.trans H; rw [hy117]; with_reducible exact H2_) | (have H2_ := (Option.bind_some _ _).symm.trans H; with_reducible exact H2_) | with_reducible exact H | (rw [hy117]; exact H) | exact H
 have Ny117 := Aside0.mk hy117
 clear hy117
 by_cases c2 : y117.length + l0_1.length < 140737488355328
 ·rw [if_pos c2] at H
  have LMc2 := Aside0.mk c2
  clear c2
  obtain ⟨y120, hy120⟩ : ∃ y_ : List Int, y_ = (y117 ++ l0_1) := ⟨_, rfl⟩
  replace H : (some (a0_0, y120)) = some (r1, r2) := by first | (rw [hy120]; with_reducible exact H) | (have H2_ := (Option.bind_some _ _).symm.trans H; rw [hy120]; with_reducible exact H2_) | (have H2_ := (Option.bind_some _ _).symm.trans H; with_reducible exact H2_) | with_reducible exact H | (rw [hy120]; exact H) | exact H
  have Ny120 := Aside0.mk hy120
  clear hy120
  simp only [Option.some.injEq, Prod.mk.injEq] at H
  obtain ⟨rfl, rfl⟩ := H
  go_enter Try.func15, Try.ntmps15
  go_wp2_with (first | ((with_reducible refine gate_dst (N := 1) rfl ?_); refine box_event rfl (N := 1) rfl (cs := #[.int .i64 a0_0, .slice A0_1 l0_1.length c0_1]) (t := 26) sE ?_; intro gb115 hg w3 hbox hb; have BK115 := Aside0.mk hbox; have GW115 := gS w hg (lU); have GE115 := gS w hg (lU); replace HB := bH (lU) hb; clear hb hbox hg) | ((with_reducible refine gate_dst (N := 2) rfl ?_); refine box_event rfl (N := 2) rfl (cs := #[.int .i64 0, .slice none 0 0]) (t := 26) sE ?_; intro gb116 hg w4 hbox hb; have BK116 := Aside0.mk hbox; have GW116 := gS w hg (lV1 GE115); have GE116 := gS w hg (lV1 GE115); replace HB := bH (lV1 GE115) hb; have NB115_116 := nL hg (bV BK115); have NB116_115 := nG hg (bV BK115); replace BK115 := bB (bV BK115) hb; clear hb hbox hg) | ((with_reducible refine gate_dst (N := 3) rfl ?_); refine Kd.R_lit (Kd.int .u8) _ 5 ?hg (N := 3) ?hd (xs := ([] : List Int)) (inner := []) (ok := fun _ => True) (okp := fun _ => True) ?hr ?hp (fun _ hk => hk) trivial (Below.refl _ _) (Nat.le_refl _) (by simp) ?_; (case hd => rfl); (case hg => rfl); (case hr => exact sE); (case hp => exact (Reps.none _ _)); intro v118 w5 ho6 hb hg_ hnew_; clear hg_ hnew_; (first | rw [← Ny117.out] at ho6 | (simp only [Int.reduceToNat] at ho6; rw [← Ny117.out] at ho6)); have HO119 := Aside0.mk (Kd.R_lower ho6 (below_size (lV2 GE115 GE116))); replace BK115 := bB (bV BK115) hb; replace BK116 := bB (bV BK116) hb; replace HB := bH (lV2 GE115 GE116) hb; clear hb ho6; have hnb7 := NB115_116.out; have hnc7 := NB116_115.out; have hcz8_0 := cz BK115 0 (.int .i64 a0_0); have hcz8_1 := cz BK115 1 (.slice A0_1 l0_1.length c0_1); have hfz8_0 := fz BK115 0; have hfz8_1 := fz BK115 1) | ((with_reducible refine gate_builtin (b := .append) (xs := #[.tmp 3, .tmp 5]) rfl ?_); at_builtin; refine Kd.R_append_rows (Kd.int .u8) (w0 := w) w.heap.size rfl (.tmp 3) (.tmp 5) 22 5 (.int .u8 0) 1 rfl Try.underlying22 info5 rfl (by decide) (by omega) v118 y117 l0_1 _ _ _ (fun _ => True) (fun _ => False) rfl rfl ?aO ?aR (fun _ _ h => h) (fun _ h => h.elim) ?aF ?aB ?aS ?aL ?_; (case aR => repeat (first | exact (Kd.C_below HR0_1.out HB.out) | exact (Kd.C_drewN (Kd.C_below HR0_1.out HB.out) _) | exact (Kd.C_drew (Kd.C_below HR0_1.out HB.out)) | exact (Kd.C_alloc (Kd.C_below HR0_1.out HB.out) _) | (with_reducible refine Kd.C_alloc ?_ _) | (with_reducible refine Kd.C_drewN ?_ _) | (with_reducible refine Kd.C_drew ?_))); (case aB => exact (lV2 GE115 GE116)); (case aF => exact (fun _ _ => trivial)); (case aO => exact (rU HO119.out)); (case aS => exact (below_size (lV2 GE115 GE116))); (case aL => have := LMc2.out; omega); intro v121 w9 ho hb hg hat; rw [← Ny120.out] at ho; replace BK115 := Aside0.mk (blk_grown (g := gb115) (o := .cells #[.int .i64 a0_0, .slice A0_1 l0_1.length c0_1] 26 (0, 0)) (bV BK115) hg (Kd.R_ne HO119.out BK115.out (by decide))); replace BK116 := Aside0.mk (blk_grown (g := gb116) (o := .cells #[.int .i64 0, .slice none 0 0] 26 (0, 0)) (bV BK116) hg (Kd.R_ne HO119.out BK116.out (by decide))); replace HB := Aside0.mk hb; have HO122 := Aside0.mk ho; clear HO119; clear ho hb hg hat; obtain ⟨Ao10, co10, eo10⟩ := Kd.R_slice HO122.out; subst eo10; have hcz11_0 := cz BK115 0 (.int .i64 a0_0); have hcz11_1 := cz BK115 1 (.slice A0_1 l0_1.length c0_1); have hfz11_0 := fz BK115 0; have hfz11_1 := fz BK115 1) | ((with_reducible refine gate_store (t := 22) (p := 7) rfl ?_); refine store_event (t := 22) (p := 7) (v := ?vo_w12) (w1 := (w9.setCell ⟨gb115, 1, none⟩ (.slice Ao10 y120.length co10))) ?hg ?ho ?hn ?hr ?_; (case ho => rfl); (case hg => rfl); (case hn => rfl); (case hr => first | (go_simp; done) | (go_simp; rfl) | (have hq0_ := (blk_cell BK115.out 1).trans (show _ = some _ from rfl); have hf0_ := blk_frozen BK115.out 1; first | (go_simp; done) | (go_simp; rfl))); intro w12 hw; replace HO122 : Aside0 (Kd.R (Kd.int .u8) 5 w12 w.heap.size (fun _ => True) (.slice Ao10 y120.length co10) y120) := ⟨(by rw [hw]; exact (by (with_reducible repeat (first | apply Kd.R_alloc | apply Kd.R_drewN | apply Kd.R_drew)); exact Kd.R_mono (Kd.R_far (p := ⟨gb115, 1, none⟩) (Kd.R_types HO122.out BK115.out (by decide)) (fun _ hk => hk.2) (.slice Ao10 y120.length co10)) (fun _ hk => trivial)))⟩; replace BK115 : Aside0 (w12.heap[gb115]? = some (.cells #[.int .i64 a0_0, .slice Ao10 y120.length co10] 26 (0, 0))) := ⟨(by rw [hw]; exact (by refine bU ?_; refine blk_put (cs := #[.int .i64 a0_0, .slice A0_1 l0_1.length c0_1]) ?_ 1 _ rfl; refine bU ?_; exact BK115.out))⟩; replace BK116 : Aside0 (w12.heap[gb116]? = some (.cells #[.int .i64 0, .slice none 0 0] 26 (0, 0))) := ⟨(by rw [hw]; exact (bG NB116_115 BK116))⟩; replace HB : Aside0 (Below w.heap.size w w12) := ⟨(by rw [hw]; exact (lV2 GE115 GE116))⟩; clear hw; have hcz13_0 := cz BK115 0 (.int .i64 a0_0); have hcz13_1 := cz BK115 1 (.slice Ao10 y120.length co10); have hfz13_0 := fz BK115 0; have hfz13_1 := fz BK115 1; have hcz14_0 := cz BK116 0 (.int .i64 0); have hcz14_1 := cz BK116 1 (.slice none 0 0); have hfz14_0 := fz BK116 0; have hfz14_1 := fz BK116 1) | ((with_reducible refine gate_store (t := 26) (p := 2) rfl ?_); refine store_event (t := 26) (p := 2) (v := ?vo_w15) (w1 := ((w12.setCell ⟨gb116, 0, none⟩ (.int .i64 a0_0)).setCell ⟨gb116, 1, none⟩ (.slice Ao10 y120.length co10))) ?hg ?ho ?hn ?hr ?_; (case ho => rfl); (case hg => rfl); (case hn => rfl); (case hr => first | (go_simp; done) | (go_simp; rfl) | (have hq0_ := (blk_cell BK116.out 0).trans (show _ = some _ from rfl); have hf0_ := blk_frozen BK116.out 0; have hq1_ := (blk_cell BK116.out 1).trans (show _ = some _ from rfl); have hf1_ := blk_frozen BK116.out 1; first | (go_simp; done) | (go_simp; rfl))); intro w15 hw; replace HO122 : Aside0 (Kd.R (Kd.int .u8) 5 w15 w.heap.size (fun _ => True) (.slice Ao10 y120.length co10) y120) := ⟨(by rw [hw]; exact (by (with_reducible repeat (first | apply Kd.R_alloc | apply Kd.R_drewN | apply Kd.R_drew)); exact Kd.R_mono (Kd.R_far (p := ⟨gb116, 1, none⟩) (Kd.R_far (p := ⟨gb116, 0, none⟩) (Kd.R_types HO122.out BK116.out (by decide)) (fun _ hk => hk.2) (.int .i64 a0_0)) (fun _ hk => hk.2) (.slice Ao10 y120.length co10)) (fun _ hk => trivial)))⟩; replace BK115 : Aside0 (w15.heap[gb115]? = some (.cells #[.int .i64 a0_0, .slice Ao10 y120.length co10] 26 (0, 0))) := ⟨(by rw [hw]; exact (bG NB115_116 BK115))⟩; replace BK116 : Aside0 (w15.heap[gb116]? = some (.cells #[.int .i64 a0_0, .slice Ao10 y120.length co10] 26 (0, 0))) := ⟨(by rw [hw]; exact (by refine bU ?_; refine blk_put (cs := #[.int .i64 a0_0, .slice none 0 0]) ?_ 1 _ rfl; refine bU ?_; refine blk_put (cs := #[.int .i64 0, .slice none 0 0]) ?_ 0 _ rfl; refine bU ?_; exact BK116.out))⟩; replace HB : Aside0 (Below w.heap.size w w15) := ⟨(by rw [hw]; exact (lV2 GE115 GE116))⟩; clear hw))
  refine bodyPost_ret (results_cell_row rfl _ _ gb116 26 #[.int .i64 a0_0, .slice Ao10 y120.length co10] (0, 0) _ rfl (bV BK116) Try.underlying26 rfl (by kernel_rfl)) rfl ?_
  exact ⟨_, eE, by (with_reducible repeat (first | apply Kd.R_alloc | apply Kd.R_drewN | apply Kd.R_drew)); exact HO122.out, lV2 GE115 GE116⟩
 ·rw [if_neg c2] at H
  exact absurd H (by simp)
end Go.Proofs.Ytggfmjfgfjphgaa.PFnExactPutBits
namespace Go.Proofs.Ytggfmjfgfjphgaa.PFnExactPutBits
open Go.RowKit Go.Proofs.YtggfmjfgfjphgaaW.PrintWords Go.Proofs.YtggfmjfgfjphgaaW.PrintLast Go.Proofs.YtggfmjfgfjphgaaW.PrintMore
attribute [local go_sem] max2_int min2_int max_two min_two max_three min_three max_four min_four   -- for this text's walks alone
set_option linter.unusedVariables false
set_option linter.unusedSimpArgs false
def spec_PutBits.j0 : Nat → Int → Int → Bool → Int → List Int → Option (Int × List Int × Bool)
 | 0, _, _, _, _, _ => none
 | k + 1, x1, x2, x31, x124000, x124001 => if x31 = true then (some (0, ([] : List Int), false)) else ((spec_l23Own.f x124000 x124001).bind fun bt128 => ((spec_l23Put.f k bt128.1 bt128.2 x1 x2).bind fun bt132 => (some (bt132.1, bt132.2, true))))
def spec_PutBits.f (k : Nat) (a0_0 : Int) (l0_1 : List Int) (a1 : Int) (a2 : Int) : Option (Int × List Int × Bool) := (spec_GoodBits.f a0_0 l0_1).bind fun t125 => (if t125 = true then ((spec_l1In.f a2 0 32).bind fun t126 => (if t126 = true then (if 0 ≤ (IntKind.u64.wrap (a2)) then ((spec_l1In.f a1 0 (wrap64 ((shl .i64 1 (IntKind.u64.wrap (a2))) - 1))).bind fun t127 => (if t127 = true then (spec_PutBits.j0 k a1 a2 (decide (a0_0 > (wrap64 (4000 - a2)))) a0_0 l0_1) else (spec_PutBits.j0 k a1 a2 true a0_0 l0_1))) else (none)) else (spec_PutBits.j0 k a1 a2 true a0_0 l0_1))) else (spec_PutBits.j0 k a1 a2 true a0_0 l0_1))
theorem spec_PutBits.mono_l : ∀ k, (∀ y0 y1 y2 y3 y4, LeO (spec_PutBits.j0 k y0 y1 y2 y3 y4) (spec_PutBits.j0 (k + 1) y0 y1 y2 y3 y4))
 | 0 => fun _ _ _ _ _ r h => by simp [spec_PutBits.j0] at h
 | k + 1 => by
  have ih0 := spec_PutBits.mono_l k
  ·intro y0 y1 y2 y3 y4
   unfold spec_PutBits.j0
   repeat' first
   | (with_reducible exact ih0 _ _ _ _ _)
   | (with_reducible exact spec_l23Put.mono _ _ _ _ _)
   | (with_reducible first | exact LeO.refl _ | exact LeO.none _ | refine LeO.ite ?_ ?_ | refine LeO.bind ?_ (fun _ => ?_))
   | exact ih0 _ _ _ _ _
   | exact spec_l23Put.mono _ _ _ _ _ | exact LeO.none _ | refine LeO.ite ?_ ?_ | refine LeO.bind ?_ (fun _ => ?_)
theorem spec_PutBits.mono : ∀ a0 a1 a2 a3 k, LeO (spec_PutBits.f k a0 a1 a2 a3) (spec_PutBits.f (k + 1) a0 a1 a2 a3) := by
 intro a0 a1 a2 a3 k
 have ih0 := spec_PutBits.mono_l k
 unfold spec_PutBits.f
 repeat' first
   | (with_reducible exact ih0 _ _ _ _ _)
   | (with_reducible exact spec_l23Put.mono _ _ _ _ _)
   | (with_reducible first | exact LeO.refl _ | exact LeO.none _ | refine LeO.ite ?_ ?_ | refine LeO.bind ?_ (fun _ => ?_))
   | exact ih0 _ _ _ _ _
   | exact spec_l23Put.mono _ _ _ _ _ | exact LeO.none _ | refine LeO.ite ?_ ?_ | refine LeO.bind ?_ (fun _ => ?_)
set_option maxHeartbeats 8000000 in
set_option maxRecDepth 100000 in
theorem spec_PutBits.calls (k : Nat) (a0_0 : Int) (A0_1 : Option Addr) (c0_1 : Nat) (l0_1 : List Int) (a1 : Int) (a2 : Int) (r1 : Int) (r2 : List Int) (r3 : Bool) (w : World) (hr0_1 : Kd.C (Kd.int .u8) w A0_1 l0_1.length l0_1) (hc0_1 : l0_1.length ≤ c0_1) (h : spec_PutBits.f k a0_0 l0_1 a1 a2 = some (r1, r2, r3)) :
  Calls Try.prog 5 #[.agg #[.int .i64 a0_0, .slice A0_1 l0_1.length c0_1], .int .i64 a1, .int .i64 a2] w fun e w' => ∃ v1_ : Value, e = .returned (.tuple #[.agg #[.int .i64 r1, v1_], .bool r3]) ∧ Kd.R (Kd.int .u8) 5 w' w.heap.size (fun _ => True) v1_ r2 ∧ Below w.heap.size w w' := by
 have hu26 := Try.underlying26
 have HR0_1 := Aside0.mk hr0_1
 have HC0_1 := Aside0.mk hc0_1
 clear hr0_1 hc0_1
 have HB := Aside0.mk (Below.refl w.heap.size w)
 have H : ((spec_GoodBits.f a0_0 l0_1).bind fun t125 => (if t125 = true then ((spec_l1In.f a2 0 32).bind fun t126 => (if t126 = true then (if 0 ≤ (IntKind.u64.wrap (a2)) then ((spec_l1In.f a1 0 (wrap64 ((shl .i64 1 (IntKind.u64.wrap (a2))) - 1))).bind fun t127 => (if t127 = true then (spec_PutBits.j0 k a1 a2 (decide (a0_0 > (wrap64 (4000 - a2)))) a0_0 l0_1) else (spec_PutBits.j0 k a1 a2 true a0_0 l0_1))) else (none)) else (spec_PutBits.j0 k a1 a2 true a0_0 l0_1))) else (spec_PutBits.j0 k a1 a2 true a0_0 l0_1))) = some (r1, r2, r3) := h
 clear h
 have HC4 := Aside0.mk H
 clear H
 go_enter Try.func5, Try.ntmps5
 go_upto_region 1 with (first | ((with_reducible refine gate_dst (N := 3) rfl ?_); refine box_event rfl (N := 3) rfl (cs := #[.int .i64 a0_0, .slice A0_1 l0_1.length c0_1]) (t := 26) sE ?_; intro gb123 hg w5 hbox hb; have BK123 := Aside0.mk hbox; have GW123 := gS w hg (lU); have GE123 := gS w hg (lU); replace HB := bH (lU) hb; clear hb hbox hg) | ((with_reducible refine gate_dst (N := 6) rfl ?_); refine box_event rfl (N := 6) rfl (cs := #[.int .i64 0, .slice none 0 0]) (t := 26) sE ?_; intro gb124 hg w6 hbox hb; have BK124 := Aside0.mk hbox; have GW124 := gS w hg (lV1 GE123); have GE124 := gS w hg (lV1 GE123); replace HB := bH (lV1 GE123) hb; have NB123_124 := nL hg (bV BK123); have NB124_123 := nG hg (bV BK123); replace BK123 := bB (bV BK123) hb; clear hb hbox hg))
 (try simp only [Act.put, List.setIfInBounds_toArray, List.set_cons_zero, List.set_cons_succ])
 go_cut [31] (fun v31 wc => ∃ (kq : Nat) (x31_3 : Bool), v31 = .bool x31_3 ∧ Aside0 (spec_PutBits.j0 kq a1 a2 x31_3 a0_0 l0_1 = some (r1, r2, r3)) ∧ Aside0 (kq ≤ k) ∧ Aside0 (wc.heap[gb123]? = some (.cells #[.int .i64 a0_0, (.slice A0_1 l0_1.length c0_1)] 26 (0, 0))) ∧ Aside0 (wc.heap[gb124]? = some (.cells #[.int .i64 0, (.slice none 0 0)] 26 (0, 0))) ∧ Aside0 (Below w.heap.size w wc))
 case first =>
  have H := HC4.out
  clear HC4
  replace H := Option.bind_eq_some_iff.mp H
  obtain ⟨t125, A70, H⟩ := H
  replace H : (if t125 = true then ((spec_l1In.f a2 0 32).bind fun t126 => (if t126 = true then (if 0 ≤ (IntKind.u64.wrap (a2)) then ((spec_l1In.f a1 0 (wrap64 ((shl .i64 1 (IntKind.u64.wrap (a2))) - 1))).bind fun t127 => (if t127 = true then (spec_PutBits.j0 k a1 a2 (decide (a0_0 > (wrap64 (4000 - a2)))) a0_0 l0_1) else (spec_PutBits.j0 k a1 a2 true a0_0 l0_1))) else (none)) else (spec_PutBits.j0 k a1 a2 true a0_0 l0_1))) else (spec_PutBits.j0 k a1 a2 true a0_0 l0_1)) = some (r1, r2, r3) := H
  have A7 := Aside0.mk A70
  clear A70
  by_cases c8 : t125 = true
  ·subst c8
   have H1 : ((spec_l1In.f a2 0 32).bind fun t126 => (if t126 = true then (if 0 ≤ (IntKind.u64.wrap (a2)) then ((spec_l1In.f a1 0 (wrap64 ((shl .i64 1 (IntKind.u64.wrap (a2))) - 1))).bind fun t127 => (if t127 = true then (spec_PutBits.j0 k a1 a2 (decide (a0_0 > (wrap64 (4000 - a2)))) a0_0 l0_1) else (spec_PutBits.j0 k a1 a2 true a0_0 l0_1))) else (none)) else (spec_PutBits.j0 k a1 a2 true a0_0 l0_1))) = some (r1, r2, r3) := by rw [if_pos rfl] at H; exact H
   clear H
   have H := H1
   clear H1
   replace H := Option.bind_eq_some_iff.mp H
   obtain ⟨t126, A90, H⟩ := H
   replace H : (if t126 = true then (if 0 ≤ (IntKind.u64.wrap (a2)) then ((spec_l1In.f a1 0 (wrap64 ((shl .i64 1 (IntKind.u64.wrap (a2))) - 1))).bind fun t127 => (if t127 = true then (spec_PutBits.j0 k a1 a2 (decide (a0_0 > (wrap64 (4000 - a2)))) a0_0 l0_1) else (spec_PutBits.j0 k a1 a2 true a0_0 l0_1))) else (none)) else (spec_PutBits.j0 k a1 a2 true a0_0 l0_1)) = some (r1, r2, r3) := H
   have A9 := Aside0.mk A90
   clear A90
   by_cases c10 : t126 = true
   ·subst c10
    have H1 : (if 0 ≤ (IntKind.u64.wrap (a2)) then ((spec_l1In.f a1 0 (wrap64 ((shl .i64 1 (IntKind.u64.wrap (a2))) - 1))).bind fun t127 => (if t127 = true then (spec_PutBits.j0 k a1 a2 (decide (a0_0 > (wrap64 (4000 - a2)))) a0_0 l0_1) else (spec_PutBits.j0 k a1 a2 true a0_0 l0_1))) else (none)) = some (r1, r2, r3) := by rw [if_pos rfl] at H; exact H
    clear H
    have H := H1
    clear H1
    obtain ⟨ji11, hji11⟩ : ∃ j_ : Int, (IntKind.u64.wrap (a2)) = j_ := ⟨_, rfl⟩
    replace H : (if 0 ≤ (ji11) then ((spec_l1In.f a1 0 (wrap64 ((shl .i64 1 (ji11)) - 1))).bind fun t127 => (if t127 = true then (spec_PutBits.j0 k a1 a2 (decide (a0_0 > (wrap64 (4000 - a2)))) a0_0 l0_1) else (spec_PutBits.j0 k a1 a2 true a0_0 l0_1))) else (none)) = some (r1, r2, r3) := by first | (rw [hji11] at H; exact H) | (simp only [hji11] at H ⊢; exact H)
    (try rw [hji11] at A7)
    (try rw [hji11] at A9)
    by_cases c12 : 0 ≤ (ji11)
    ·rw [if_pos c12] at H
     have c12b0 := eq_true c12
     have c12b1 : decide (0 ≤ (ji11)) = true := decide_eq_true c12
     clear c12
     obtain ⟨ji13, hji13⟩ : ∃ j_ : Int, (shl .i64 1 (ji11)) = j_ := ⟨_, rfl⟩
     replace H : ((spec_l1In.f a1 0 (wrap64 ((ji13) - 1))).bind fun t127 => (if t127 = true then (spec_PutBits.j0 k a1 a2 (decide (a0_0 > (wrap64 (4000 - a2)))) a0_0 l0_1) else (spec_PutBits.j0 k a1 a2 true a0_0 l0_1))) = some (r1, r2, r3) := by first | (rw [hji13] at H; exact H) | (simp only [hji13] at H ⊢; exact H)
     (try rw [hji13] at A7)
     (try rw [hji13] at A9)
     have hji13_ : (IntKind.i64.wrap (1 * 2 ^ min (ji11).toNat 64)) = ji13 := hji13
     have hji13z : (ji11) ≤ 64 → (IntKind.i64.wrap (1 * 2 ^ (ji11).toNat)) = ji13 := shl_small hji13
     have hji13u : (IntKind.i64.wrap (2 ^ min (ji11).toNat 64)) = ji13 := by have h_ := hji13_; rw [Int.one_mul] at h_; exact h_
     have hji13v : (ji11) ≤ 64 → (IntKind.i64.wrap (2 ^ (ji11).toNat)) = ji13 := fun hle_ => by have h_ := hji13z hle_; rw [Int.one_mul] at h_; exact h_
     have hji13y : (wrap64 (1 * 2 ^ min (ji11).toNat 64)) = ji13 := (i64_w _).symm.trans hji13_
     have hji13x : (ji11) ≤ 64 → (wrap64 (1 * 2 ^ (ji11).toNat)) = ji13 := fun h_ => (i64_w _).symm.trans (hji13z h_)
     replace H := Option.bind_eq_some_iff.mp H
     obtain ⟨t127, A140, H⟩ := H
     replace H : (if t127 = true then (spec_PutBits.j0 k a1 a2 (decide (a0_0 > (wrap64 (4000 - a2)))) a0_0 l0_1) else (spec_PutBits.j0 k a1 a2 true a0_0 l0_1)) = some (r1, r2, r3) := H
     have A14 := Aside0.mk A140
     clear A140
     by_cases c15 : t127 = true
     ·subst c15
      have H1 : (spec_PutBits.j0 k a1 a2 (decide (a0_0 > (wrap64 (4000 - a2)))) a0_0 l0_1) = some (r1, r2, r3) := by rw [if_pos rfl] at H; exact H
      clear H
      have H := H1
      clear H1
      have H' := Aside0.mk H
      clear H
      have hnb16 := NB123_124.out
      have hnc16 := NB124_123.out
      have hcz17_0 := cz BK123 0 (.int .i64 a0_0)
      have hcz17_1 := cz BK123 1 (.slice A0_1 l0_1.length c0_1)
      have hfz17_0 := fz BK123 0
      have hfz17_1 := fz BK123 1
      go_wp2_with (first | ((with_reducible refine gate_callee (f := 12) rfl ?_); refine goesL_ (some 9) rfl rfl Try.func12 (by kernel_rfl) rfl #[.agg #[.int .i64 a0_0, .slice A0_1 l0_1.length c0_1]] rfl aE ?_; (with_reducible refine (spec_GoodBits.calls a0_0 _ _ l0_1 true _ ?side1 ?side2 A7.out).mono ?_); (case side1 => exact cU (Kd.C_below HR0_1.out HB.out)); (case side2 => exact HC0_1.out); rintro e w18 ⟨rfl, hb⟩; refine ⟨_, rfl, ?_⟩; replace BK123 := bB (bV BK123) hb; replace BK124 := bB (bV BK124) hb; replace HB := bH (lV2 GE123 GE124) hb; (try clear hb)) | (go_at_call 13; (with_reducible refine (spec_l1In.calls a2 0 32 true _ A9.out).mono ?_); rintro e w' ⟨rfl, ⟨nd, rfl⟩⟩) | (go_at_call 13; (with_reducible refine (spec_l1In.calls a1 0 (wrap64 ((ji13) - 1)) true _ A14.out).mono ?_); rintro e w' ⟨rfl, ⟨nd, rfl⟩⟩; have hcz19_0 := cz BK123 0 (.int .i64 a0_0); have hcz19_1 := cz BK123 1 (.slice A0_1 l0_1.length c0_1); have hfz19_0 := fz BK123 0; have hfz19_1 := fz BK123 1))
      go_meet
      case rel => exact ⟨_, (decide (a0_0 > (wrap64 (4000 - a2)))), tE, H', ⟨by first | omega | exact Nat.le_refl _⟩, ⟨by refine bU ?_; exact BK123.out⟩, ⟨by refine bU ?_; exact BK124.out⟩, ⟨by repeat (first | (with_reducible first | exact HB.out | apply below_alloc | apply pw_below_drewN | apply below_drew1 | refine below_set ?_ GE123.out | refine below_set ?_ GE124.out) | exact HB.out)⟩⟩
     ·replace c15 := Bool.eq_false_iff.mpr c15
      subst c15
      have H1 : (spec_PutBits.j0 k a1 a2 true a0_0 l0_1) = some (r1, r2, r3) := by rw [if_neg (show ¬ (false = true) by decide)] at H; exact H
      clear H
      have H := H1
      clear H1
      have H' := Aside0.mk H
      clear H
      have hnb20 := NB123_124.out
      have hnc20 := NB124_123.out
      have hcz21_0 := cz BK123 0 (.int .i64 a0_0)
      have hcz21_1 := cz BK123 1 (.slice A0_1 l0_1.length c0_1)
      have hfz21_0 := fz BK123 0
      have hfz21_1 := fz BK123 1
      go_wp2_with (first | ((with_reducible refine gate_callee (f := 12) rfl ?_); refine goesL_ (some 9) rfl rfl Try.func12 (by kernel_rfl) rfl #[.agg #[.int .i64 a0_0, .slice A0_1 l0_1.length c0_1]] rfl aE ?_; (with_reducible refine (spec_GoodBits.calls a0_0 _ _ l0_1 true _ ?side1 ?side2 A7.out).mono ?_); (case side1 => exact cU (Kd.C_below HR0_1.out HB.out)); (case side2 => exact HC0_1.out); rintro e w22 ⟨rfl, hb⟩; refine ⟨_, rfl, ?_⟩; replace BK123 := bB (bV BK123) hb; replace BK124 := bB (bV BK124) hb; replace HB := bH (lV2 GE123 GE124) hb; (try clear hb)) | (go_at_call 13; (with_reducible refine (spec_l1In.calls a2 0 32 true _ A9.out).mono ?_); rintro e w' ⟨rfl, ⟨nd, rfl⟩⟩) | (go_at_call 13; (with_reducible refine (spec_l1In.calls a1 0 (wrap64 ((ji13) - 1)) false _ A14.out).mono ?_); rintro e w' ⟨rfl, ⟨nd, rfl⟩⟩))
      go_meet
      case rel => exact ⟨_, (true), tE, H', ⟨by first | omega | exact Nat.le_refl _⟩, ⟨by refine bU ?_; exact BK123.out⟩, ⟨by refine bU ?_; exact BK124.out⟩, ⟨by repeat (first | (with_reducible first | exact HB.out | apply below_alloc | apply pw_below_drewN | apply below_drew1 | refine below_set ?_ GE123.out | refine below_set ?_ GE124.out) | exact HB.out)⟩⟩
    ·rw [if_neg c12] at H
     exact absurd H (by simp)
   ·replace c10 := Bool.eq_false_iff.mpr c10
    subst c10
    have H1 : (spec_PutBits.j0 k a1 a2 true a0_0 l0_1) = some (r1, r2, r3) := by rw [if_neg (show ¬ (false = true) by decide)] at H; exact H
    clear H
    have H := H1
    clear H1
    have H' := Aside0.mk H
    clear H
    have hnb23 := NB123_124.out
    have hnc23 := NB124_123.out
    have hcz24_0 := cz BK123 0 (.int .i64 a0_0)
    have hcz24_1 := cz BK123 1 (.slice A0_1 l0_1.length c0_1)
    have hfz24_0 := fz BK123 0
    have hfz24_1 := fz BK123 1
    go_wp2_with (first | ((with_reducible refine gate_callee (f := 12) rfl ?_); refine goesL_ (some 9) rfl rfl Try.func12 (by kernel_rfl) rfl #[.agg #[.int .i64 a0_0, .slice A0_1 l0_1.length c0_1]] rfl aE ?_; (with_reducible refine (spec_GoodBits.calls a0_0 _ _ l0_1 true _ ?side1 ?side2 A7.out).mono ?_); (case side1 => exact cU (Kd.C_below HR0_1.out HB.out)); (case side2 => exact HC0_1.out); rintro e w25 ⟨rfl, hb⟩; refine ⟨_, rfl, ?_⟩; replace BK123 := bB (bV BK123) hb; replace BK124 := bB (bV BK124) hb; replace HB := bH (lV2 GE123 GE124) hb; (try clear hb)) | (go_at_call 13; (with_reducible refine (spec_l1In.calls a2 0 32 false _ A9.out).mono ?_); rintro e w' ⟨rfl, ⟨nd, rfl⟩⟩))
    go_meet
    case rel => exact ⟨_, (true), tE, H', ⟨by first | omega | exact Nat.le_refl _⟩, ⟨by refine bU ?_; exact BK123.out⟩, ⟨by refine bU ?_; exact BK124.out⟩, ⟨by repeat (first | (with_reducible first | exact HB.out | apply below_alloc | apply pw_below_drewN | apply below_drew1 | refine below_set ?_ GE123.out | refine below_set ?_ GE124.out) | exact HB.out)⟩⟩
  ·replace c8 := Bool.eq_false_iff.mpr c8
   subst c8
   have H1 : (spec_PutBits.j0 k a1 a2 true a0_0 l0_1) = some (r1, r2, r3) := by rw [if_neg (show ¬ (false = true) by decide)] at H; exact H
   clear H
   have H := H1
   clear H1
   have H' := Aside0.mk H
   clear H
   have hnb26 := NB123_124.out
   have hnc26 := NB124_123.out
   have hcz27_0 := cz BK123 0 (.int .i64 a0_0)
   have hcz27_1 := cz BK123 1 (.slice A0_1 l0_1.length c0_1)
   have hfz27_0 := fz BK123 0
   have hfz27_1 := fz BK123 1
   go_wp2_with (first | ((with_reducible refine gate_callee (f := 12) rfl ?_); refine goesL_ (some 9) rfl rfl Try.func12 (by kernel_rfl) rfl #[.agg #[.int .i64 a0_0, .slice A0_1 l0_1.length c0_1]] rfl aE ?_; (with_reducible refine (spec_GoodBits.calls a0_0 _ _ l0_1 false _ ?side1 ?side2 A7.out).mono ?_); (case side1 => exact cU (Kd.C_below HR0_1.out HB.out)); (case side2 => exact HC0_1.out); rintro e w28 ⟨rfl, hb⟩; refine ⟨_, rfl, ?_⟩; replace BK123 := bB (bV BK123) hb; replace BK124 := bB (bV BK124) hb; replace HB := bH (lV2 GE123 GE124) hb; (try clear hb)))
   go_meet
   case rel => exact ⟨_, (true), tE, H', ⟨by first | omega | exact Nat.le_refl _⟩, ⟨by refine bU ?_; exact BK123.out⟩, ⟨by refine bU ?_; exact BK124.out⟩, ⟨by repeat (first | (with_reducible first | exact HB.out | apply below_alloc | apply pw_below_drewN | apply below_drew1 | refine below_set ?_ GE123.out | refine below_set ?_ GE124.out) | exact HB.out)⟩⟩
 case rest =>
  clear HC4
  try clear c1
  try clear c2
  try clear p2
  try clear c5
  try clear p6
  try clear c8
  try clear c10
  try clear c12
  try clear c12b0
  try clear c12b1
  try clear c15
  try clear c16
  try clear c20
  try clear c23
  try clear c26
  try clear hcz17_0
  try clear hcz17_1
  try clear hcz19_0
  try clear hcz19_1
  try clear hcz21_0
  try clear hcz21_1
  try clear hcz24_0
  try clear hcz24_1
  try clear hcz27_0
  try clear hcz27_1
  try clear hfz17_0
  try clear hfz17_1
  try clear hfz19_0
  try clear hfz19_1
  try clear hfz21_0
  try clear hfz21_1
  try clear hfz24_0
  try clear hfz24_1
  try clear hfz27_0
  try clear hfz27_1
  obtain ⟨kq, x31_3, rfl, HA, HJ3, BK123, BK124, HB⟩ := hcut
  cases kq with
  | zero => exact absurd HA.out (by simp [spec_PutBits.j0])
  | succ kj3 =>
   have H := HA.out
   clear HA
   simp only [spec_PutBits.j0] at H
   by_cases c29 : x31_3 = true
   ·subst c29
    have H1 : (some (0, ([] : List Int), false)) = some (r1, r2, r3) := by rw [if_pos rfl] at H; exact H
    clear H
    have H := H1
    clear H1
    simp only [Option.some.injEq, Prod.mk.injEq] at H
    obtain ⟨rfl, rfl, rfl⟩ := H
    have hnb30 := NB124_123.out
    have hnc30 := NB123_124.out
    have hcz31_0 := cz BK124 0 (.int .i64 0)
    have hcz31_1 := cz BK124 1 (.slice none 0 0)
    have hfz31_0 := fz BK124 0
    have hfz31_1 := fz BK124 1
    go_wp2_with (first | ((with_reducible refine gate_store (t := 26) (p := 6) rfl ?_); refine store_event (t := 26) (p := 6) (v := ?vo_w32) (w1 := ((wc.setCell ⟨gb124, 0, none⟩ (.int .i64 0)).setCell ⟨gb124, 1, none⟩ (.slice none 0 0))) ?hg ?ho ?hn ?hr ?_; (case ho => rfl); (case hg => rfl); (case hn => rfl); (case hr => first | (go_simp; done) | (go_simp; rfl) | (have hq0_ := (blk_cell BK124.out 0).trans (show _ = some _ from rfl); have hf0_ := blk_frozen BK124.out 0; have hq1_ := (blk_cell BK124.out 1).trans (show _ = some _ from rfl); have hf1_ := blk_frozen BK124.out 1; first | (go_simp; done) | (go_simp; rfl))); intro w32 hw; replace BK123 : Aside0 (w32.heap[gb123]? = some (.cells #[.int .i64 a0_0, .slice A0_1 l0_1.length c0_1] 26 (0, 0))) := ⟨(by rw [hw]; exact (bG NB123_124 BK123))⟩; replace BK124 : Aside0 (w32.heap[gb124]? = some (.cells #[.int .i64 0, .slice none 0 0] 26 (0, 0))) := ⟨(by rw [hw]; exact (by refine bU ?_; refine blk_put (cs := #[.int .i64 0, .slice none 0 0]) ?_ 1 _ rfl; refine bU ?_; refine blk_put (cs := #[.int .i64 0, .slice none 0 0]) ?_ 0 _ rfl; refine bU ?_; exact BK124.out))⟩; replace HB : Aside0 (Below w.heap.size w w32) := ⟨(by rw [hw]; exact (lV2 GE123 GE124))⟩; clear hw))
    refine bodyPost_ret (results_ct rfl _ _ gb124 26 #[.int .i64 0, .slice none 0 0] (0, 0) _ rfl (bV BK124) Try.underlying26 rfl (by kernel_rfl)) rfl ?_
    exact ⟨_, eE, by first | exact Kd.R_nil _ _ _ _ _ | exact Kd.N_nil _ _ _ _ _ | exact Kd.V_nil _ _ _ _ _ | exact Kd.Q_nil _ _ _ _ _ | exact Kd.S_nil _ _ _ _ _, lV2 GE123 GE124⟩
   ·replace c29 := Bool.eq_false_iff.mpr c29
    subst c29
    have H1 : ((spec_l23Own.f a0_0 l0_1).bind fun bt128 => ((spec_l23Put.f kj3 bt128.1 bt128.2 a1 a2).bind fun bt132 => (some (bt132.1, bt132.2, true)))) = some (r1, r2, r3) := by rw [if_neg (show ¬ (false = true) by decide)] at H; exact H
    clear H
    have H := H1
    clear H1
    replace H := Option.bind_eq_some_iff.mp H
    obtain ⟨⟨t128, t129⟩, A330, H⟩ := H
    replace H : ((spec_l23Put.f kj3 t128 t129 a1 a2).bind fun bt132 => (some (bt132.1, bt132.2, true))) = some (r1, r2, r3) := H
    have A33 := Aside0.mk A330
    clear A330
    replace H := Option.bind_eq_some_iff.mp H
    obtain ⟨⟨t132, t133⟩, A340, H⟩ := H
    replace H : (some (t132, t133, true)) = some (r1, r2, r3) := H
    have A34 := Aside0.mk A340
    clear A340
    simp only [Option.some.injEq, Prod.mk.injEq] at H
    obtain ⟨rfl, rfl, rfl⟩ := H
    have hnb35 := NB123_124.out
    have hnc35 := NB124_123.out
    have hcz36_0 := cz BK123 0 (.int .i64 a0_0)
    have hcz36_1 := cz BK123 1 (.slice A0_1 l0_1.length c0_1)
    have hfz36_0 := fz BK123 0
    have hfz36_1 := fz BK123 1
    go_wp2_with (first | ((with_reducible refine gate_callee (f := 15) rfl ?_); refine goesL_ (some 34) rfl rfl Try.func15 (by kernel_rfl) rfl #[.agg #[.int .i64 a0_0, .slice A0_1 l0_1.length c0_1]] rfl aE ?_; (with_reducible refine (spec_l23Own.calls a0_0 _ _ l0_1 t128 t129 _ ?side1 ?side2 A33.out).mono ?_); (case side1 => exact cU (Kd.C_below HR0_1.out HB.out)); (case side2 => exact HC0_1.out); rintro e w37 ⟨v130, rfl, ho0, hb⟩; refine ⟨_, rfl, ?_⟩; have HO131 := Aside0.mk (Kd.R_lower ho0 (below_size (lV2 GE123 GE124))); replace BK123 := bB (bV BK123) hb; replace BK124 := bB (bV BK124) hb; replace HB := bH (lV2 GE123 GE124) hb; (try clear hb); (try clear ho0); obtain ⟨Ao38, co38, eo38⟩ := Kd.R_slice HO131.out; subst eo38) | ((with_reducible refine gate_callee (f := 14) rfl ?_); refine goesL_ (some 37) rfl rfl Try.func14 (by kernel_rfl) rfl #[.agg #[.int .i64 t128, .slice Ao38 t129.length co38], .int .i64 a1, .int .i64 a2] rfl aE ?_; (with_reducible refine (spec_l23Put.calls kj3 t128 (fun k_ => some k_ = (.slice Ao38 t129.length co38 : Value).ownBlock) (.slice Ao38 t129.length co38) t129 a1 a2 t132 t133 w _ ?side1 ?side2 A34.out).mono ?_); (case side1 => repeat (first | (with_reducible first | exact HB.out | apply below_alloc | apply pw_below_drewN | apply below_drew1 | refine below_set ?_ GE123.out | refine below_set ?_ GE124.out) | exact HB.out)); (case side2 => exact Kd.R_tight rfl HO131.out); rintro e w39 ⟨v134, rfl, ho0, hb, hkp⟩; refine ⟨_, rfl, ?_⟩; replace BK123 := Aside0.mk (blk_kept (bV BK123) hkp (fun hs_ => (fun e_ => (Kd.R_ne HO131.out BK123.out (by decide)) e_) hs_)); replace BK124 := Aside0.mk (blk_kept (bV BK124) hkp (fun hs_ => (fun e_ => (Kd.R_ne HO131.out BK124.out (by decide)) e_) hs_)); have HO135 := Aside0.mk (Kd.R_mono (ok' := fun k_ => True) ho0 (fun k_ hk_ => trivial)); replace HB := Aside0.mk hb; clear HO131; (try clear hb); (try clear hkp); (try clear hg_); (try clear hp_); (try clear ho0); have hcz40_0 := cz BK124 0 (.int .i64 0); have hcz40_1 := cz BK124 1 (.slice none 0 0); have hfz40_0 := fz BK124 0; have hfz40_1 := fz BK124 1; obtain ⟨Ao41, co41, eo41⟩ := Kd.R_slice HO135.out; subst eo41) | ((with_reducible refine gate_store (t := 26) (p := 6) rfl ?_); refine store_event (t := 26) (p := 6) (v := ?vo_w42) (w1 := ((w39.setCell ⟨gb124, 0, none⟩ (.int .i64 t132)).setCell ⟨gb124, 1, none⟩ (.slice Ao41 t133.length co41))) ?hg ?ho ?hn ?hr ?_; (case ho => rfl); (case hg => rfl); (case hn => rfl); (case hr => first | (go_simp; done) | (go_simp; rfl) | (have hq0_ := (blk_cell BK124.out 0).trans (show _ = some _ from rfl); have hf0_ := blk_frozen BK124.out 0; have hq1_ := (blk_cell BK124.out 1).trans (show _ = some _ from rfl); have hf1_ := blk_frozen BK124.out 1; first | (go_simp; done) | (go_simp; rfl))); intro w42 hw; replace HO135 : Aside0 (Kd.R (Kd.int .u8) 5 w42 w.heap.size (fun _ => True) (.slice Ao41 t133.length co41) t133) := ⟨(by rw [hw]; exact (by (with_reducible repeat (first | apply Kd.R_alloc | apply Kd.R_drewN | apply Kd.R_drew)); exact Kd.R_mono (Kd.R_far (p := ⟨gb124, 1, none⟩) (Kd.R_far (p := ⟨gb124, 0, none⟩) (Kd.R_types HO135.out BK124.out (by decide)) (fun _ hk => hk.2) (.int .i64 t132)) (fun _ hk => hk.2) (.slice Ao41 t133.length co41)) (fun _ hk => trivial)))⟩; replace BK123 : Aside0 (w42.heap[gb123]? = some (.cells #[.int .i64 a0_0, .slice A0_1 l0_1.length c0_1] 26 (0, 0))) := ⟨(by rw [hw]; exact (bG NB123_124 BK123))⟩; replace BK124 : Aside0 (w42.heap[gb124]? = some (.cells #[.int .i64 t132, .slice Ao41 t133.length co41] 26 (0, 0))) := ⟨(by rw [hw]; exact (by refine bU ?_; refine blk_put (cs := #[.int .i64 t132, .slice none 0 0]) ?_ 1 _ rfl; refine bU ?_; refine blk_put (cs := #[.int .i64 0, .slice none 0 0]) ?_ 0 _ rfl; refine bU ?_; exact BK124.out))⟩; replace HB : Aside0 (Below w.heap.size w w42) := ⟨(by rw [hw]; exact (lV2 GE123 GE124))⟩; clear hw))
    refine bodyPost_ret (results_ct rfl _ _ gb124 26 #[.int .i64 t132, .slice Ao41 t133.length co41] (0, 0) _ rfl (bV BK124) Try.underlying26 rfl (by kernel_rfl)) rfl ?_
    exact ⟨_, eE, by (with_reducible repeat (first | apply Kd.R_alloc | apply Kd.R_drewN | apply Kd.R_drew)); exact HO135.out, lV2 GE123 GE124⟩
def laws_toByteS.l0 : Nat → List Int → List Int → Int → Option (List Int)
 | 0, _, _, _ => none
 | k + 1, x0, x3, x4 => if x4 < (x0.length : Int) then (if 0 ≤ x4 then (if x4 < (x3.length : Int) then (laws_toByteS.l0 k x0 (x3.set (x4 : Int).toNat (rd x0 x4)) (wrap64 (x4 + 1))) else (none)) else (none)) else (some x3)
def laws_toByteS.f (k : Nat) (l0 : List Int) : Option (List Int) := if 0 ≤ (l0.length : Int) then (if ((l0.length : Int) : Int).toNat ≤ 281474976710656 then (laws_toByteS.l0 k l0 (List.replicate ((l0.length : Int) : Int).toNat 0) 0) else (none)) else (none)
theorem laws_toByteS.mono_l : ∀ k, (∀ y0 y1 y2, LeO (laws_toByteS.l0 k y0 y1 y2) (laws_toByteS.l0 (k + 1) y0 y1 y2))
 | 0 => fun _ _ _ r h => by simp [laws_toByteS.l0] at h
 | k + 1 => by
  have ih0 := laws_toByteS.mono_l k
  ·intro y0 y1 y2
   unfold laws_toByteS.l0
   repeat' first
   | (with_reducible exact ih0 _ _ _)
   | (with_reducible first | exact LeO.refl _ | exact LeO.none _ | refine LeO.ite ?_ ?_ | refine LeO.bind ?_ (fun _ => ?_))
   | exact ih0 _ _ _ | exact LeO.none _ | refine LeO.ite ?_ ?_ | refine LeO.bind ?_ (fun _ => ?_)
theorem laws_toByteS.mono : ∀ a0 k, LeO (laws_toByteS.f k a0) (laws_toByteS.f (k + 1) a0) := by
 intro a0 k
 have ih0 := laws_toByteS.mono_l k
 unfold laws_toByteS.f
 repeat' first
   | (with_reducible exact ih0 _ _ _)
   | (with_reducible first | exact LeO.refl _ | exact LeO.none _ | refine LeO.ite ?_ ?_ | refine LeO.bind ?_ (fun _ => ?_))
   | exact ih0 _ _ _ | exact LeO.none _ | refine LeO.ite ?_ ?_ | refine LeO.bind ?_ (fun _ => ?_)
set_option maxHeartbeats 8000000 in
set_option maxRecDepth 100000 in
theorem laws_toByteS.calls (k : Nat) (A0 : Option Addr) (c0 : Nat) (l0 : List Int) (r : List Int) (w : World) (hr0 : Kd.C (Kd.int .u8) w A0 l0.length l0) (hc0 : l0.length ≤ c0) (h : laws_toByteS.f k l0 = some r) :
  Calls Try.prog 16 #[.slice A0 l0.length c0] w fun e w' => ∃ v0_ : Value, e = .returned (v0_) ∧ Kd.R (Kd.int .u8) 5 w' w.heap.size (fun _ => True) v0_ r ∧ Below w.heap.size w w' := by
 have HR0 := Aside0.mk hr0
 have HC0 := Aside0.mk hc0
 clear hr0 hc0
 have HB := Aside0.mk (Below.refl w.heap.size w)
 have H : (if 0 ≤ (l0.length : Int) then (if ((l0.length : Int) : Int).toNat ≤ 281474976710656 then (laws_toByteS.l0 k l0 (List.replicate ((l0.length : Int) : Int).toNat 0) 0) else (none)) else (none)) = some r := h
 clear h
 by_cases c2 : 0 ≤ (l0.length : Int)
 ·rw [if_pos c2] at H
  have c2b0 := eq_true c2
  have c2b1 : decide (0 ≤ (l0.length : Int)) = true := decide_eq_true c2
  clear c2
  by_cases c3 : ((l0.length : Int) : Int).toNat ≤ 281474976710656
  ·rw [if_pos c3] at H
   have c3b0 := eq_true c3
   have c3b1 : decide (((l0.length : Int) : Int).toNat ≤ 281474976710656) = true := decide_eq_true c3
   clear c3
   obtain ⟨y136, hy136⟩ : ∃ y_ : List Int, y_ = (List.replicate ((l0.length : Int) : Int).toNat 0) := ⟨_, rfl⟩
   replace H : (laws_toByteS.l0 k l0 y136 0) = some r := by first | (rw [hy136]; with_reducible exact H) | (have H2_ := (Option.bind_some _ _).symm.trans H; rw [hy136]; with_reducible exact H2_) | (have H2_ := (Option.bind_some _ _).symm.trans H; with_reducible exact H2_) | with_reducible exact H | (rw [hy136]; exact H) | exact H
   have Ny136 := Aside0.mk hy136
   clear hy136
   have H' := Aside0.mk H
   clear H
   go_enter Try.func16, Try.ntmps16
   go_wp2_with (first | ((with_reducible refine gate_dst (N := 7) rfl ?_); refine Kd.R_make (Kd.int .u8) _ 5 rfl (N := 7) rfl 22 _ _ rfl (l0.length : Int) rfl rfl Try.underlying22 (.int .u8 0) 1 info5 rfl (by decide) (by omega) 0 (ok := fun _ => True) (okp := fun _ => True) rfl (fun _ hk => hk) trivial (of_decide_eq_true hE) (Nat.le_trans (Nat.mul_le_mul_right _ (of_decide_eq_true hE : (l0.length : Int).toNat ≤ 281474976710656)) (by omega)) (Below.refl _ _) (Nat.le_refl _) ?_; intro v137 w4 ho5 hb hg_ hnew_; clear hg_ hnew_; (first | rw [← Ny136.out] at ho5 | (simp only [Int.reduceToNat] at ho5; rw [← Ny136.out] at ho5)); have HO138 := Aside0.mk (Kd.R_lower ho5 (below_size (lU))); replace HB := bH (lU) hb; clear hb ho5))
   (try simp only [Act.put, List.setIfInBounds_toArray, List.set_cons_zero, List.set_cons_succ])
   go_loopg [4] k (fun kq v4 w' => ∃ (x3_1 : List Int) (x4_1 : Int), v4 = .int .i64 x4_1 ∧ Aside0 (laws_toByteS.l0 kq l0 x3_1 x4_1 = some r) ∧ Aside0 (kq ≤ k) ∧ Aside0 (Kd.R (Kd.int .u8) 5 w' w.heap.size (fun _ => True) v137 x3_1) ∧ Aside0 (Below w.heap.size w w'))
   case atStart => exact ⟨(y136), (0), tE, H', ⟨Nat.le_refl _⟩, ⟨by (with_reducible repeat (first | apply Kd.R_alloc | apply Kd.R_drewN | apply Kd.R_drew)); exact HO138.out⟩, ⟨by repeat (first | (with_reducible first | exact HB.out | apply below_alloc | apply pw_below_drewN | apply below_drew1) | exact HB.out)⟩⟩
   case round =>
    clear H'
    try clear c1
    try clear c2
    try clear c2b0
    try clear c2b1
    try clear p2
    try clear c3
    try clear c3b0
    try clear c3b1
    obtain ⟨x3_1, x4_1, rfl, HA, HK1, HO_3, HB⟩ := hrel
    cases gk with
    | zero => exact absurd HA.out (by simp [laws_toByteS.l0])
    | succ k1 =>
     have H := HA.out
     clear HA
     simp only [laws_toByteS.l0] at H
     by_cases c6 : x4_1 < (l0.length : Int)
     ·rw [if_pos c6] at H
      have c6b0 : decide (x4_1 < (l0.length : Int)) = true := decide_eq_true c6
      clear c6
      by_cases c7 : 0 ≤ x4_1
      ·rw [if_pos c7] at H
       have c7b0 : decide (0 ≤ x4_1) = true := decide_eq_true c7
       clear c7
       by_cases c8 : x4_1 < (x3_1.length : Int)
       ·rw [if_pos c8] at H
        have c8b0 : decide (x4_1 < (x3_1.length : Int)) = true := decide_eq_true c8
        clear c8
        obtain ⟨y140, hy140⟩ : ∃ y_ : List Int, y_ = (x3_1.set (x4_1 : Int).toNat (rd l0 x4_1)) := ⟨_, rfl⟩
        replace H : (laws_toByteS.l0 k1 l0 y140 (wrap64 (x4_1 + 1))) = some r := by first | (rw [hy140]; with_reducible exact H) | (have H2_ := (Option.bind_some _ _).symm.trans H; rw [hy140]; with_reducible exact H2_) | (have H2_ := (Option.bind_some _ _).symm.trans H; with_reducible exact H2_) | with_reducible exact H | (rw [hy140]; exact H) | exact H
        have Ny140 := Aside0.mk hy140
        clear hy140
        have H' := Aside0.mk H
        clear H
        have p139 : 0 ≤ (x4_1 : Int) := of_decide_eq_true hE
        have q139 : x4_1 < (l0.length : Int) := of_decide_eq_true hE
        obtain ⟨ad139, e139, hx139_0⟩ := Kd.at_int HR0.out x4_1 p139 q139
        cases e139
        replace hx139_0 := (HB.out.cell (World.block_lt_of_cell? w _ hx139_0)).trans hx139_0
        replace p139 := eq_true p139
        replace q139 := eq_true q139
        have p9 : 0 ≤ (x4_1 : Int) := of_decide_eq_true hE
        have q9 : (x4_1 : Int) < ((x3_1.length : Int) : Int) := of_decide_eq_true hE
        obtain ⟨go9, co9, eo9, gb9, gl9, cl9, HG9⟩ := Kd.R_form HO_3.out (by omega)
        (first | cases eo9 | (injection eo9 with ea_ en_ ec_; (first | subst ea_ | (injection ea_ with ea_; subst ea_)); subst ec_; clear en_))
        have GB9 := Aside0.mk gb9
        have GG9 := Aside0.mk HG9
        clear gb9 gl9 HG9
        obtain ⟨hx9_0, hf9_0⟩ := Kd.R_celln 0 HO_3.out (x4_1 : Int) p9 q9
        replace p9 := eq_true p9
        replace q9 := eq_true q9
        have HP10 := Kd.R_putg HO_3.out (x4_1 : Int) (rd l0 x4_1)
        go_wp2_with (first | ((with_reducible refine gate_store (t := 5) (p := 20) rfl ?_); refine store_event (t := 5) (p := 20) (v := ?vo_w11) (w1 := (wr.setCell ⟨go9, (x4_1 : Int).toNat, none⟩ (.int .u8 (rd l0 x4_1)))) ?hg ?ho ?hn ?hr ?_; (case ho => rfl); (case hg => rfl); (case hn => rfl); (case hr => exact sE); intro w11 hw; have hg : wr.grownBy w11 (some go9) := (by rw [hw]; exact HP10.2); have hp_ : Kd.R (Kd.int .u8) 5 w11 w.heap.size (fun _ => True) (.slice (some ⟨go9, 0, none⟩) x3_1.length co9) y140 := (by rw [hw, Ny140.out]; exact HP10.1); clear HP10; replace HO_3 := Aside0.mk hp_; replace HB := Aside0.mk ((by rw [hw]; exact below_set (HB.out) GB9.out : Below w.heap.size w w11)); clear hg hw hp_))
        go_roundg k1
        case measure => have := HK1.out; omega
        case rel => exact ⟨(y140), (wrap64 (x4_1 + 1)), tE, H', ⟨by have := HK1.out; omega⟩, ⟨by (with_reducible repeat (first | apply Kd.R_alloc | apply Kd.R_drewN | apply Kd.R_drew)); exact HO_3.out⟩, ⟨by repeat (first | (with_reducible first | exact HB.out | apply below_alloc | apply pw_below_drewN | apply below_drew1) | exact HB.out)⟩⟩
       ·rw [if_neg c8] at H
        exact absurd H (by simp)
      ·rw [if_neg c7] at H
       exact absurd H (by simp)
     ·rw [if_neg c6] at H
      have c6b0 : decide (x4_1 < (l0.length : Int)) = false := decide_eq_false c6
      clear c6
      obtain rfl := Option.some.inj H
      go_wp2
      go_ret
      exact ⟨_, eE, by (with_reducible repeat (first | apply Kd.R_alloc | apply Kd.R_drewN | apply Kd.R_drew)); exact HO_3.out, lU⟩
  ·rw [if_neg c3] at H
   exact absurd H (by simp)
 ·rw [if_neg c2] at H
  exact absurd H (by simp)
def laws_toBits.f (k : Nat) (a0_0 : Int) (l0_1 : List Int) : Option (Int × List Int) := (laws_toByteS.f k l0_1).bind fun t144 => (some (a0_0, t144))
theorem laws_toBits.mono : ∀ a0 a1 k, LeO (laws_toBits.f k a0 a1) (laws_toBits.f (k + 1) a0 a1) := by
 intro a0 a1 k
 unfold laws_toBits.f
 repeat' first
   | (with_reducible exact laws_toByteS.mono _ _)
   | (with_reducible first | exact LeO.refl _ | exact LeO.none _ | refine LeO.ite ?_ ?_ | refine LeO.bind ?_ (fun _ => ?_))
   | exact laws_toByteS.mono _ _ | exact LeO.none _ | refine LeO.ite ?_ ?_ | refine LeO.bind ?_ (fun _ => ?_)
set_option maxHeartbeats 8000000 in
set_option maxRecDepth 100000 in
theorem laws_toBits.calls (k : Nat) (a0_0 : Int) (A0_1 : Option Addr) (c0_1 : Nat) (l0_1 : List Int) (r1 : Int) (r2 : List Int) (w : World) (hr0_1 : Kd.C (Kd.int .u8) w A0_1 l0_1.length l0_1) (hc0_1 : l0_1.length ≤ c0_1) (h : laws_toBits.f k a0_0 l0_1 = some (r1, r2)) :
  Calls Try.prog 6 #[.agg #[.int .i64 a0_0, .slice A0_1 l0_1.length c0_1]] w fun e w' => ∃ v1_ : Value, e = .returned (.agg #[.int .i64 r1, v1_]) ∧ Kd.R (Kd.int .u8) 5 w' w.heap.size (fun _ => True) v1_ r2 ∧ Below w.heap.size w w' := by
 have hu24 := Try.underlying24
 have hu26 := Try.underlying26
 have HR0_1 := Aside0.mk hr0_1
 have HC0_1 := Aside0.mk hc0_1
 clear hr0_1 hc0_1
 have HB := Aside0.mk (Below.refl w.heap.size w)
 have H : ((laws_toByteS.f k l0_1).bind fun t144 => (some (a0_0, t144))) = some (r1, r2) := h
 clear h
 replace H := Option.bind_eq_some_iff.mp H
 obtain ⟨t144, A20, H⟩ := H
 replace H : (some (a0_0, t144)) = some (r1, r2) := H
 have A2 := Aside0.mk A20
 clear A20
 simp only [Option.some.injEq, Prod.mk.injEq] at H
 obtain ⟨rfl, rfl⟩ := H
 go_enter Try.func6, Try.ntmps6
 go_wp2_with (first | ((with_reducible refine gate_dst (N := 1) rfl ?_); refine box_event rfl (N := 1) rfl (cs := #[.int .i64 a0_0, .slice A0_1 l0_1.length c0_1]) (t := 24) sE ?_; intro gb141 hg w3 hbox hb; have BK141 := Aside0.mk hbox; have GW141 := gS w hg (lU); have GE141 := gS w hg (lU); replace HB := bH (lU) hb; clear hb hbox hg) | ((with_reducible refine gate_dst (N := 2) rfl ?_); refine box_event rfl (N := 2) rfl (cs := #[.int .i64 0, .slice none 0 0]) (t := 26) sE ?_; intro gb142 hg w4 hbox hb; have BK142 := Aside0.mk hbox; have GW142 := gS w hg (lV1 GE141); have GE142 := gS w hg (lV1 GE141); replace HB := bH (lV1 GE141) hb; have NB141_142 := nL hg (bV BK141); have NB142_141 := nG hg (bV BK141); replace BK141 := bB (bV BK141) hb; clear hb hbox hg) | ((with_reducible refine gate_dst (N := 3) rfl ?_); refine box_event rfl (N := 3) rfl (cs := #[.int .i64 0, .slice none 0 0]) (t := 26) sE ?_; intro gb143 hg w5 hbox hb; have BK143 := Aside0.mk hbox; have GW143 := gS w hg (lV2 GE141 GE142); have GE143 := gS w hg (lV2 GE141 GE142); replace HB := bH (lV2 GE141 GE142) hb; have NB141_143 := nL hg (bV BK141); have NB143_141 := nG hg (bV BK141); replace BK141 := bB (bV BK141) hb; have NB142_143 := nL hg (bV BK142); have NB143_142 := nG hg (bV BK142); replace BK142 := bB (bV BK142) hb; clear hb hbox hg; have hnb6 := NB141_142.out; have hnc6 := NB142_141.out; have hnb7 := NB141_143.out; have hnc7 := NB143_141.out; have hcz8_0 := cz BK141 0 (.int .i64 a0_0); have hcz8_1 := cz BK141 1 (.slice A0_1 l0_1.length c0_1); have hfz8_0 := fz BK141 0; have hfz8_1 := fz BK141 1; have hnb9 := NB143_142.out; have hnc9 := NB142_143.out; have hcz10_0 := cz BK143 0 (.int .i64 0); have hcz10_1 := cz BK143 1 (.slice none 0 0); have hfz10_0 := fz BK143 0; have hfz10_1 := fz BK143 1) | ((with_reducible refine gate_store (t := 3) (p := 6) rfl ?_); refine store_event (t := 3) (p := 6) (v := ?vo_w11) (w1 := (w5.setCell ⟨gb143, 0, none⟩ (.int .i64 a0_0))) ?hg ?ho ?hn ?hr ?_; (case ho => rfl); (case hg => rfl); (case hn => rfl); (case hr => first | (go_simp; done) | (go_simp; rfl) | (have hq0_ := (blk_cell BK143.out 0).trans (show _ = some _ from rfl); have hf0_ := blk_frozen BK143.out 0; first | (go_simp; done) | (go_simp; rfl))); intro w11 hw; replace BK141 : Aside0 (w11.heap[gb141]? = some (.cells #[.int .i64 a0_0, .slice A0_1 l0_1.length c0_1] 24 (0, 0))) := ⟨(by rw [hw]; exact (bG NB141_143 BK141))⟩; replace BK142 : Aside0 (w11.heap[gb142]? = some (.cells #[.int .i64 0, .slice none 0 0] 26 (0, 0))) := ⟨(by rw [hw]; exact (bG NB142_143 BK142))⟩; replace BK143 : Aside0 (w11.heap[gb143]? = some (.cells #[.int .i64 a0_0, .slice none 0 0] 26 (0, 0))) := ⟨(by rw [hw]; exact (by refine bU ?_; refine blk_put (cs := #[.int .i64 0, .slice none 0 0]) ?_ 0 _ rfl; refine bU ?_; exact BK143.out))⟩; replace HB : Aside0 (Below w.heap.size w w11) := ⟨(by rw [hw]; exact (lV3 GE141 GE142 GE143))⟩; clear hw; have hcz12_0 := cz BK141 0 (.int .i64 a0_0); have hcz12_1 := cz BK141 1 (.slice A0_1 l0_1.length c0_1); have hfz12_0 := fz BK141 0; have hfz12_1 := fz BK141 1) | ((with_reducible refine gate_callee (f := 16) rfl ?_); refine goesL_ (some 9) rfl rfl Try.func16 (by kernel_rfl) rfl #[.slice A0_1 l0_1.length c0_1] rfl aE ?_; (with_reducible refine (laws_toByteS.calls k _ _ l0_1 t144 _ ?side1 ?side2 A2.out).mono ?_); (case side1 => exact cU (Kd.C_below HR0_1.out HB.out)); (case side2 => exact HC0_1.out); rintro e w13 ⟨v145, rfl, ho0, hb⟩; refine ⟨_, rfl, ?_⟩; have HO146 := Aside0.mk (Kd.R_lower ho0 (below_size (lV3 GE141 GE142 GE143))); replace BK141 := bB (bV BK141) hb; replace BK142 := bB (bV BK142) hb; replace BK143 := bB (bV BK143) hb; replace HB := bH (lV3 GE141 GE142 GE143) hb; (try clear hb); (try clear ho0); obtain ⟨Ao14, co14, eo14⟩ := Kd.R_slice HO146.out; subst eo14; have hcz15_0 := cz BK143 0 (.int .i64 a0_0); have hcz15_1 := cz BK143 1 (.slice none 0 0); have hfz15_0 := fz BK143 0; have hfz15_1 := fz BK143 1) | ((with_reducible refine gate_store (t := 22) (p := 10) rfl ?_); refine store_event (t := 22) (p := 10) (v := ?vo_w16) (w1 := (w13.setCell ⟨gb143, 1, none⟩ (.slice Ao14 t144.length co14))) ?hg ?ho ?hn ?hr ?_; (case ho => rfl); (case hg => rfl); (case hn => rfl); (case hr => first | (go_simp; done) | (go_simp; rfl) | (have hq0_ := (blk_cell BK143.out 1).trans (show _ = some _ from rfl); have hf0_ := blk_frozen BK143.out 1; first | (go_simp; done) | (go_simp; rfl))); intro w16 hw; replace HO146 : Aside0 (Kd.R (Kd.int .u8) 5 w16 w.heap.size (fun _ => True) (.slice Ao14 t144.length co14) t144) := ⟨(by rw [hw]; exact (by (with_reducible repeat (first | apply Kd.R_alloc | apply Kd.R_drewN | apply Kd.R_drew)); exact Kd.R_mono (Kd.R_far (p := ⟨gb143, 1, none⟩) (Kd.R_types HO146.out BK143.out (by decide)) (fun _ hk => hk.2) (.slice Ao14 t144.length co14)) (fun _ hk => trivial)))⟩; replace BK141 : Aside0 (w16.heap[gb141]? = some (.cells #[.int .i64 a0_0, .slice A0_1 l0_1.length c0_1] 24 (0, 0))) := ⟨(by rw [hw]; exact (bG NB141_143 BK141))⟩; replace BK142 : Aside0 (w16.heap[gb142]? = some (.cells #[.int .i64 0, .slice none 0 0] 26 (0, 0))) := ⟨(by rw [hw]; exact (bG NB142_143 BK142))⟩; replace BK143 : Aside0 (w16.heap[gb143]? = some (.cells #[.int .i64 a0_0, .slice Ao14 t144.length co14] 26 (0, 0))) := ⟨(by rw [hw]; exact (by refine bU ?_; refine blk_put (cs := #[.int .i64 a0_0, .slice none 0 0]) ?_ 1 _ rfl; refine bU ?_; exact BK143.out))⟩; replace HB : Aside0 (Below w.heap.size w w16) := ⟨(by rw [hw]; exact (lV3 GE141 GE142 GE143))⟩; clear hw; have hcz17_0 := cz BK143 0 (.int .i64 a0_0); have hcz17_1 := cz BK143 1 (.slice Ao14 t144.length co14); have hfz17_0 := fz BK143 0; have hfz17_1 := fz BK143 1; have hcz18_0 := cz BK142 0 (.int .i64 0); have hcz18_1 := cz BK142 1 (.slice none 0 0); have hfz18_0 := fz BK142 0; have hfz18_1 := fz BK142 1) | ((with_reducible refine gate_store (t := 26) (p := 2) rfl ?_); refine store_event (t := 26) (p := 2) (v := ?vo_w19) (w1 := ((w16.setCell ⟨gb142, 0, none⟩ (.int .i64 a0_0)).setCell ⟨gb142, 1, none⟩ (.slice Ao14 t144.length co14))) ?hg ?ho ?hn ?hr ?_; (case ho => rfl); (case hg => rfl); (case hn => rfl); (case hr => first | (go_simp; done) | (go_simp; rfl) | (have hq0_ := (blk_cell BK142.out 0).trans (show _ = some _ from rfl); have hf0_ := blk_frozen BK142.out 0; have hq1_ := (blk_cell BK142.out 1).trans (show _ = some _ from rfl); have hf1_ := blk_frozen BK142.out 1; first | (go_simp; done) | (go_simp; rfl))); intro w19 hw; replace HO146 : Aside0 (Kd.R (Kd.int .u8) 5 w19 w.heap.size (fun _ => True) (.slice Ao14 t144.length co14) t144) := ⟨(by rw [hw]; exact (by (with_reducible repeat (first | apply Kd.R_alloc | apply Kd.R_drewN | apply Kd.R_drew)); exact Kd.R_mono (Kd.R_far (p := ⟨gb142, 1, none⟩) (Kd.R_far (p := ⟨gb142, 0, none⟩) (Kd.R_types HO146.out BK142.out (by decide)) (fun _ hk => hk.2) (.int .i64 a0_0)) (fun _ hk => hk.2) (.slice Ao14 t144.length co14)) (fun _ hk => trivial)))⟩; replace BK141 : Aside0 (w19.heap[gb141]? = some (.cells #[.int .i64 a0_0, .slice A0_1 l0_1.length c0_1] 24 (0, 0))) := ⟨(by rw [hw]; exact (bG NB141_142 BK141))⟩; replace BK142 : Aside0 (w19.heap[gb142]? = some (.cells #[.int .i64 a0_0, .slice Ao14 t144.length co14] 26 (0, 0))) := ⟨(by rw [hw]; exact (by refine bU ?_; refine blk_put (cs := #[.int .i64 a0_0, .slice none 0 0]) ?_ 1 _ rfl; refine bU ?_; refine blk_put (cs := #[.int .i64 0, .slice none 0 0]) ?_ 0 _ rfl; refine bU ?_; exact BK142.out))⟩; replace BK143 : Aside0 (w19.heap[gb143]? = some (.cells #[.int .i64 a0_0, .slice Ao14 t144.length co14] 26 (0, 0))) := ⟨(by rw [hw]; exact (bG NB143_142 BK143))⟩; replace HB : Aside0 (Below w.heap.size w w19) := ⟨(by rw [hw]; exact (lV3 GE141 GE142 GE143))⟩; clear hw))
 refine bodyPost_ret (results_cell_row rfl _ _ gb142 26 #[.int .i64 a0_0, .slice Ao14 t144.length co14] (0, 0) _ rfl (bV BK142) Try.underlying26 rfl (by kernel_rfl)) rfl ?_
 exact ⟨_, eE, by (with_reducible repeat (first | apply Kd.R_alloc | apply Kd.R_drewN | apply Kd.R_drew)); exact HO146.out, lV3 GE141 GE142 GE143⟩
def impl_inRange.f (a0 : Int) (a1 : Int) (a2 : Int) : Option (Bool) := if a1 ≤ a0 then (some (decide (a0 ≤ a2))) else (some false)
set_option maxHeartbeats 8000000 in
set_option maxRecDepth 100000 in
theorem impl_inRange.calls (a0 : Int) (a1 : Int) (a2 : Int) (r : Bool) (w : World) (h : impl_inRange.f a0 a1 a2 = some r) :
  Calls Try.prog 19 #[.int .i64 a0, .int .i64 a1, .int .i64 a2] w fun e w' => e = .returned (.bool r) ∧ Drawn0 w w' := by
 have H : (if a1 ≤ a0 then (some (decide (a0 ≤ a2))) else (some false)) = some r := h
 clear h
 by_cases c4 : a1 ≤ a0
 ·rw [if_pos c4] at H
  have c4b0 : decide (a1 ≤ a0) = true := decide_eq_true c4
  clear c4
  obtain rfl := Option.some.inj H
  go_enter Try.func19, Try.ntmps19
  go_wp2
  go_ret
  exact ⟨by first | rfl | (simp; done) | (simp [*]; done) | exact not_isEmpty _ | exact (not_isEmpty _).symm | exact is_empty _ | exact (is_empty _).symm, by repeat (first | exact Drawn0.refl _ | apply Drawn0.step)⟩
 ·rw [if_neg c4] at H
  have c4b0 : decide (a1 ≤ a0) = false := decide_eq_false c4
  clear c4
  obtain rfl := Option.some.inj H
  go_enter Try.func19, Try.ntmps19
  go_wp2
  go_ret
  exact ⟨by first | rfl | (simp; done) | (simp [*]; done) | exact not_isEmpty _ | exact (not_isEmpty _).symm | exact is_empty _ | exact (is_empty _).symm, by repeat (first | exact Drawn0.refl _ | apply Drawn0.step)⟩
def impl_Bits_bit.f (a0_0 : Int) (l0_1 : List Int) (a1 : Int) : Option (Int) := if 0 ≤ (wrap64 (Int.tdiv a1 8)) then (if (wrap64 (Int.tdiv a1 8)) < (l0_1.length : Int) then (if 0 ≤ (wrap64 (7 - (Int.tmod a1 8))) then (some (wrap64 (Go.bits .and .u8 (shr .u8 (rd l0_1 (wrap64 (Int.tdiv a1 8))) (wrap64 (7 - (Int.tmod a1 8)))) 1))) else (none)) else (none)) else (none)
set_option maxHeartbeats 8000000 in
set_option maxRecDepth 100000 in
theorem impl_Bits_bit.calls (a0_0 : Int) (A0_1 : Option Addr) (c0_1 : Nat) (l0_1 : List Int) (a1 : Int) (r : Int) (w : World) (hr0_1 : Kd.C (Kd.int .u8) w A0_1 l0_1.length l0_1) (hc0_1 : l0_1.length ≤ c0_1) (h : impl_Bits_bit.f a0_0 l0_1 a1 = some r) :
  Calls Try.prog 25 #[.agg #[.int .i64 a0_0, .slice A0_1 l0_1.length c0_1], .int .i64 a1] w fun e w' => e = .returned (.int .i64 r) ∧ Below w.heap.size w w' := by
 have hu26 := Try.underlying26
 have HR0_1 := Aside0.mk hr0_1
 have HC0_1 := Aside0.mk hc0_1
 clear hr0_1 hc0_1
 have HB := Aside0.mk (Below.refl w.heap.size w)
 have H : (if 0 ≤ (wrap64 (Int.tdiv a1 8)) then (if (wrap64 (Int.tdiv a1 8)) < (l0_1.length : Int) then (if 0 ≤ (wrap64 (7 - (Int.tmod a1 8))) then (some (wrap64 (Go.bits .and .u8 (shr .u8 (rd l0_1 (wrap64 (Int.tdiv a1 8))) (wrap64 (7 - (Int.tmod a1 8)))) 1))) else (none)) else (none)) else (none)) = some r := h
 clear h
 obtain ⟨ji3, hji3⟩ : ∃ j_ : Int, (wrap64 (Int.tdiv a1 8)) = j_ := ⟨_, rfl⟩
 replace H : (if 0 ≤ (ji3) then (if (ji3) < (l0_1.length : Int) then (if 0 ≤ (wrap64 (7 - (Int.tmod a1 8))) then (some (wrap64 (Go.bits .and .u8 (shr .u8 (rd l0_1 (ji3)) (wrap64 (7 - (Int.tmod a1 8)))) 1))) else (none)) else (none)) else (none)) = some r := by first | (rw [hji3] at H; exact H) | (simp only [hji3] at H ⊢; exact H)
 have hji3w : (IntKind.i64.wrap (Int.tdiv a1 8)) = ji3 := (i64_w _).trans hji3
 by_cases c4 : 0 ≤ (ji3)
 ·rw [if_pos c4] at H
  have c4b0 : decide (0 ≤ (ji3)) = true := decide_eq_true c4
  clear c4
  by_cases c5 : (ji3) < (l0_1.length : Int)
  ·rw [if_pos c5] at H
   have c5b0 : decide ((ji3) < (l0_1.length : Int)) = true := decide_eq_true c5
   clear c5
   obtain ⟨ji6, hji6⟩ : ∃ j_ : Int, (wrap64 (7 - (Int.tmod a1 8))) = j_ := ⟨_, rfl⟩
   replace H : (if 0 ≤ (ji6) then (some (wrap64 (Go.bits .and .u8 (shr .u8 (rd l0_1 (ji3)) (ji6)) 1))) else (none)) = some r := by first | (rw [hji6] at H; exact H) | (simp only [hji6] at H ⊢; exact H)
   have hji6w : (IntKind.i64.wrap (7 - (Int.tmod a1 8))) = ji6 := (i64_w _).trans hji6
   by_cases c7 : 0 ≤ (ji6)
   ·rw [if_pos c7] at H
    have c7b0 := eq_true c7
    have c7b1 : decide (0 ≤ (ji6)) = true := decide_eq_true c7
    clear c7
    obtain ⟨ji8, hji8⟩ : ∃ j_ : Int, (shr .u8 (rd l0_1 (ji3)) (ji6)) = j_ := ⟨_, rfl⟩
    replace H : (some (wrap64 (Go.bits .and .u8 (ji8) 1))) = some r := by first | (rw [hji8] at H; exact H) | (simp only [hji8] at H ⊢; exact H)
    have hji8_ : ((rd l0_1 (ji3)) / 2 ^ min (ji6).toNat 8) = ji8 := hji8
    have hji8z : (ji6) ≤ 8 → ((rd l0_1 (ji3)) / 2 ^ (ji6).toNat) = ji8 := shr_small hji8
    obtain rfl := Option.some.inj H
    go_enter Try.func25, Try.ntmps25
    go_wp2_with (first | ((with_reducible refine gate_dst (N := 2) rfl ?_); refine box_event rfl (N := 2) rfl (cs := #[.int .i64 a0_0, .slice A0_1 l0_1.length c0_1]) (t := 26) sE ?_; intro gb147 hg w9 hbox hb; have BK147 := Aside0.mk hbox; have GW147 := gS w hg (lU); have GE147 := gS w hg (lU); replace HB := bH (lU) hb; clear hb hbox hg; have hcz10_0 := cz BK147 0 (.int .i64 a0_0); have hcz10_1 := cz BK147 1 (.slice A0_1 l0_1.length c0_1); have hfz10_0 := fz BK147 0; have hfz10_1 := fz BK147 1; have p148 : 0 ≤ ((ji3) : Int) := of_decide_eq_true hE; have q148 : (ji3) < (l0_1.length : Int) := of_decide_eq_true hE; obtain ⟨ad148, e148, hx148_0⟩ := Kd.at_int HR0_1.out (ji3) p148 q148; cases e148; replace hx148_0 := (HB.out.cell (World.block_lt_of_cell? w _ hx148_0)).trans hx148_0; replace p148 := eq_true p148; replace q148 := eq_true q148))
    go_ret
    exact ⟨by first | rfl | (simp [errW_none, errW_some] <;> rfl) | (simp only [← hji3, ← hji6, ← hji8]; first | rfl | (simp [errW_none, errW_some] <;> rfl)) | (simp [*, errW_none, errW_some] <;> rfl), lV1 GE147⟩
   ·rw [if_neg c7] at H
    exact absurd H (by simp)
  ·rw [if_neg c5] at H
   exact absurd H (by simp)
 ·rw [if_neg c4] at H
  exact absurd H (by simp)
mutual
def impl_GoodBits.j0 : Nat → Bool → Int → List Int → Option (Bool)
 | 0, _, _, _ => none
 | k + 1, x17, x150000, x150001 => if x17 = true then (some false) else (impl_GoodBits.l0 k x150000 x150000 x150001)
def impl_GoodBits.l0 : Nat → Int → Int → List Int → Option (Bool)
 | 0, _, _, _ => none
 | k + 1, x3, x150000, x150001 => if x3 < (wrap64 (8 * (x150001.length : Int))) then ((impl_Bits_bit.f x150000 x150001 x3).bind fun t151 => (if t151 = 1 then (some false) else (impl_GoodBits.l0 k (wrap64 (x3 + 1)) x150000 x150001))) else (some true)
end
def impl_GoodBits.f (k : Nat) (a0_0 : Int) (l0_1 : List Int) : Option (Bool) := (impl_inRange.f a0_0 0 4000).bind fun t150 => (if t150 = true then (impl_GoodBits.j0 k ((l0_1.length : Int) != (wrap64 (Int.tdiv (wrap64 (a0_0 + 7)) 8))) a0_0 l0_1) else (impl_GoodBits.j0 k true a0_0 l0_1))
theorem impl_GoodBits.mono_l : ∀ k, (∀ y0 y1 y2, LeO (impl_GoodBits.j0 k y0 y1 y2) (impl_GoodBits.j0 (k + 1) y0 y1 y2)) ∧ (∀ y0 y1 y2, LeO (impl_GoodBits.l0 k y0 y1 y2) (impl_GoodBits.l0 (k + 1) y0 y1 y2))
 | 0 => ⟨fun _ _ _ r h => by simp [impl_GoodBits.j0] at h, fun _ _ _ r h => by simp [impl_GoodBits.l0] at h⟩
 | k + 1 => by
  obtain ⟨ih0, ih1⟩ := impl_GoodBits.mono_l k
  refine ⟨?_, ?_⟩
  ·intro y0 y1 y2
   unfold impl_GoodBits.j0
   repeat' first
   | (with_reducible exact ih0 _ _ _)
   | (with_reducible exact ih1 _ _ _)
   | (with_reducible first | exact LeO.refl _ | exact LeO.none _ | refine LeO.ite ?_ ?_ | refine LeO.bind ?_ (fun _ => ?_))
   | exact ih0 _ _ _
   | exact ih1 _ _ _ | exact LeO.none _ | refine LeO.ite ?_ ?_ | refine LeO.bind ?_ (fun _ => ?_)
  ·intro y0 y1 y2
   unfold impl_GoodBits.l0
   repeat' first
   | (with_reducible exact ih0 _ _ _)
   | (with_reducible exact ih1 _ _ _)
   | (with_reducible first | exact LeO.refl _ | exact LeO.none _ | refine LeO.ite ?_ ?_ | refine LeO.bind ?_ (fun _ => ?_))
   | exact ih0 _ _ _
   | exact ih1 _ _ _ | exact LeO.none _ | refine LeO.ite ?_ ?_ | refine LeO.bind ?_ (fun _ => ?_)
theorem impl_GoodBits.mono : ∀ a0 a1 k, LeO (impl_GoodBits.f k a0 a1) (impl_GoodBits.f (k + 1) a0 a1) := by
 intro a0 a1 k
 obtain ⟨ih0, ih1⟩ := impl_GoodBits.mono_l k
 unfold impl_GoodBits.f
 repeat' first
   | (with_reducible exact ih0 _ _ _)
   | (with_reducible exact ih1 _ _ _)
   | (with_reducible first | exact LeO.refl _ | exact LeO.none _ | refine LeO.ite ?_ ?_ | refine LeO.bind ?_ (fun _ => ?_))
   | exact ih0 _ _ _
   | exact ih1 _ _ _ | exact LeO.none _ | refine LeO.ite ?_ ?_ | refine LeO.bind ?_ (fun _ => ?_)
set_option maxHeartbeats 8000000 in
set_option maxRecDepth 100000 in
theorem impl_GoodBits.calls (k : Nat) (a0_0 : Int) (A0_1 : Option Addr) (c0_1 : Nat) (l0_1 : List Int) (r : Bool) (w : World) (hr0_1 : Kd.C (Kd.int .u8) w A0_1 l0_1.length l0_1) (hc0_1 : l0_1.length ≤ c0_1) (h : impl_GoodBits.f k a0_0 l0_1 = some r) :
  Calls Try.prog 17 #[.agg #[.int .i64 a0_0, .slice A0_1 l0_1.length c0_1]] w fun e w' => e = .returned (.bool r) ∧ Below w.heap.size w w' := by
 have hu26 := Try.underlying26
 have HR0_1 := Aside0.mk hr0_1
 have HC0_1 := Aside0.mk hc0_1
 clear hr0_1 hc0_1
 have HB := Aside0.mk (Below.refl w.heap.size w)
 have H : ((impl_inRange.f a0_0 0 4000).bind fun t150 => (if t150 = true then (impl_GoodBits.j0 k ((l0_1.length : Int) != (wrap64 (Int.tdiv (wrap64 (a0_0 + 7)) 8))) a0_0 l0_1) else (impl_GoodBits.j0 k true a0_0 l0_1))) = some r := h
 clear h
 have HC2 := Aside0.mk H
 clear H
 go_enter Try.func17, Try.ntmps17
 go_upto_region 1 with (first | ((with_reducible refine gate_dst (N := 1) rfl ?_); (try (refine gate_guard (by rfl) ?_; dsimp only)); refine box_event rfl (N := 1) rfl (cs := #[.int .i64 a0_0, .slice A0_1 l0_1.length c0_1]) (t := 26) sE ?_; intro gb149 hg w3 hbox hb; have BK149 := Aside0.mk hbox; have GW149 := gS w hg (lU); have GE149 := gS w hg (lU); replace HB := bH (lU) hb; clear hb hbox hg))
 (try simp only [Act.put, List.setIfInBounds_toArray, List.set_cons_zero, List.set_cons_succ])
 go_cut [17] (fun v17 wc => ∃ (kq : Nat) (x17_1 : Bool), v17 = .bool x17_1 ∧ Aside0 (impl_GoodBits.j0 kq x17_1 a0_0 l0_1 = some r) ∧ Aside0 (kq ≤ k) ∧ Aside0 (wc.heap[gb149]? = some (.cells #[.int .i64 a0_0, (.slice A0_1 l0_1.length c0_1)] 26 (0, 0))) ∧ Aside0 (Below w.heap.size w wc))
 case first =>
  have H := HC2.out
  clear HC2
  replace H := Option.bind_eq_some_iff.mp H
  obtain ⟨t150, A40, H⟩ := H
  replace H : (if t150 = true then (impl_GoodBits.j0 k ((l0_1.length : Int) != (wrap64 (Int.tdiv (wrap64 (a0_0 + 7)) 8))) a0_0 l0_1) else (impl_GoodBits.j0 k true a0_0 l0_1)) = some r := H
  have A4 := Aside0.mk A40
  clear A40
  by_cases c5 : t150 = true
  ·subst c5
   have H1 : (impl_GoodBits.j0 k ((l0_1.length : Int) != (wrap64 (Int.tdiv (wrap64 (a0_0 + 7)) 8))) a0_0 l0_1) = some r := by rw [if_pos rfl] at H; exact H
   clear H
   have H := H1
   clear H1
   have H' := Aside0.mk H
   clear H
   have hcz6_0 := cz BK149 0 (.int .i64 a0_0)
   have hcz6_1 := cz BK149 1 (.slice A0_1 l0_1.length c0_1)
   have hfz6_0 := fz BK149 0
   have hfz6_1 := fz BK149 1
   go_wp2_with (first | ((with_reducible refine gate_callee (f := 19) rfl ?_); refine goesL_ (some 6) rfl rfl Try.func19 (by kernel_rfl) rfl #[.int .i64 a0_0, .int .i64 0, .int .i64 4000] rfl aE ?_; (with_reducible refine (impl_inRange.calls a0_0 0 4000 true _ A4.out).mono ?_); rintro e w' ⟨rfl, ⟨nd, rfl⟩⟩; refine ⟨_, rfl, ?_⟩))
   go_meet
   case rel => exact ⟨_, (((l0_1.length : Int) != (wrap64 (Int.tdiv (wrap64 (a0_0 + 7)) 8)))), tE, H', ⟨by first | omega | exact Nat.le_refl _⟩, ⟨by refine bU ?_; exact BK149.out⟩, ⟨by repeat (first | (with_reducible first | exact HB.out | apply below_alloc | apply pw_below_drewN | apply below_drew1 | refine below_set ?_ GE149.out) | exact HB.out)⟩⟩
  ·replace c5 := Bool.eq_false_iff.mpr c5
   subst c5
   have H1 : (impl_GoodBits.j0 k true a0_0 l0_1) = some r := by rw [if_neg (show ¬ (false = true) by decide)] at H; exact H
   clear H
   have H := H1
   clear H1
   have H' := Aside0.mk H
   clear H
   have hcz7_0 := cz BK149 0 (.int .i64 a0_0)
   have hcz7_1 := cz BK149 1 (.slice A0_1 l0_1.length c0_1)
   have hfz7_0 := fz BK149 0
   have hfz7_1 := fz BK149 1
   go_wp2_with (first | ((with_reducible refine gate_callee (f := 19) rfl ?_); refine goesL_ (some 6) rfl rfl Try.func19 (by kernel_rfl) rfl #[.int .i64 a0_0, .int .i64 0, .int .i64 4000] rfl aE ?_; (with_reducible refine (impl_inRange.calls a0_0 0 4000 false _ A4.out).mono ?_); rintro e w' ⟨rfl, ⟨nd, rfl⟩⟩; refine ⟨_, rfl, ?_⟩))
   go_meet
   case rel => exact ⟨_, (true), tE, H', ⟨by first | omega | exact Nat.le_refl _⟩, ⟨by refine bU ?_; exact BK149.out⟩, ⟨by repeat (first | (with_reducible first | exact HB.out | apply below_alloc | apply pw_below_drewN | apply below_drew1 | refine below_set ?_ GE149.out) | exact HB.out)⟩⟩
 case rest =>
  clear HC2
  try clear c1
  try clear p2
  try clear c5
  try clear p6
  try clear hcz6_0
  try clear hcz6_1
  try clear hcz7_0
  try clear hcz7_1
  try clear hfz6_0
  try clear hfz6_1
  try clear hfz7_0
  try clear hfz7_1
  obtain ⟨kq, x17_1, rfl, HA, HJ1, BK149, HB⟩ := hcut
  cases kq with
  | zero => exact absurd HA.out (by simp [impl_GoodBits.j0])
  | succ kj1 =>
   have H := HA.out
   clear HA
   simp only [impl_GoodBits.j0] at H
   by_cases c8 : x17_1 = true
   ·subst c8
    have H1 : (some false) = some r := by rw [if_pos rfl] at H; exact H
    clear H
    have H := H1
    clear H1
    obtain rfl := Option.some.inj H
    go_wp2
    go_ret
    exact ⟨eE, lV1 GE149⟩
   ·replace c8 := Bool.eq_false_iff.mpr c8
    subst c8
    have H1 : (impl_GoodBits.l0 kj1 a0_0 a0_0 l0_1) = some r := by rw [if_neg (show ¬ (false = true) by decide)] at H; exact H
    clear H
    have H := H1
    clear H1
    have H' := Aside0.mk H
    clear H
    have hcz9_0 := cz BK149 0 (.int .i64 a0_0)
    have hcz9_1 := cz BK149 1 (.slice A0_1 l0_1.length c0_1)
    have hfz9_0 := fz BK149 0
    have hfz9_1 := fz BK149 1
    go_wp2
    go_loopg [3] kj1 (fun kq v3 w' => ∃ (x3_2 : Int), v3 = .int .i64 x3_2 ∧ Aside0 (impl_GoodBits.l0 kq x3_2 a0_0 l0_1 = some r) ∧ Aside0 (kq ≤ kj1) ∧ Aside0 (w'.heap[gb149]? = some (.cells #[.int .i64 a0_0, (.slice A0_1 l0_1.length c0_1)] 26 (0, 0))) ∧ Aside0 (Below w.heap.size w w'))
    case atStart => exact ⟨(a0_0), tE, H', ⟨Nat.le_refl _⟩, ⟨by refine bU ?_; exact BK149.out⟩, ⟨by repeat (first | (with_reducible first | exact HB.out | apply below_alloc | apply pw_below_drewN | apply below_drew1 | refine below_set ?_ GE149.out) | exact HB.out)⟩⟩
    case round =>
     clear H'
     try clear c1
     try clear p2
     try clear c5
     try clear p6
     try clear c8
     try clear hcz6_0
     try clear hcz6_1
     try clear hcz7_0
     try clear hcz7_1
     try clear hcz9_0
     try clear hcz9_1
     try clear hfz6_0
     try clear hfz6_1
     try clear hfz7_0
     try clear hfz7_1
     try clear hfz9_0
     try clear hfz9_1
     try clear p2
     try clear p6
     obtain ⟨x3_2, rfl, HA, HK2, BK149, HB⟩ := hrel
     cases gk with
     | zero => exact absurd HA.out (by simp [impl_GoodBits.l0])
     | succ k2 =>
      have H := HA.out
      clear HA
      simp only [impl_GoodBits.l0] at H
      by_cases c10 : x3_2 < (wrap64 (8 * (l0_1.length : Int)))
      ·rw [if_pos c10] at H
       have c10b0 : decide (x3_2 < (wrap64 (8 * (l0_1.length : Int)))) = true := decide_eq_true c10
       clear c10
       replace H := Option.bind_eq_some_iff.mp H
       obtain ⟨t151, A110, H⟩ := H
       replace H : (if t151 = 1 then (some false) else (impl_GoodBits.l0 k2 (wrap64 (x3_2 + 1)) a0_0 l0_1)) = some r := H
       have A11 := Aside0.mk A110
       clear A110
       by_cases c12 : t151 = 1
       ·rw [if_pos c12] at H
        have c12b0 : (t151 == 1) = true := beq_iff_eq.mpr c12
        have c12b1 : (t151 != 1) = false := bne_eq_false_iff_eq.mpr c12
        clear c12
        obtain rfl := Option.some.inj H
        have hcz13_0 := cz BK149 0 (.int .i64 a0_0)
        have hcz13_1 := cz BK149 1 (.slice A0_1 l0_1.length c0_1)
        have hfz13_0 := fz BK149 0
        have hfz13_1 := fz BK149 1
        go_wp2_with (first | ((with_reducible refine gate_callee (f := 25) rfl ?_); refine goesL_ (some 30) rfl rfl Try.func25 (by kernel_rfl) rfl #[.agg #[.int .i64 a0_0, .slice A0_1 l0_1.length c0_1], .int .i64 x3_2] rfl aE ?_; (with_reducible refine (impl_Bits_bit.calls a0_0 _ _ l0_1 x3_2 t151 _ ?side1 ?side2 A11.out).mono ?_); (case side1 => exact cU (Kd.C_below HR0_1.out HB.out)); (case side2 => exact HC0_1.out); rintro e w14 ⟨rfl, hb⟩; refine ⟨_, rfl, ?_⟩; replace BK149 := bB (bV BK149) hb; replace HB := bH (lV1 GE149) hb; (try clear hb)))
        go_ret
        exact ⟨eE, lV1 GE149⟩
       ·rw [if_neg c12] at H
        have c12b0 : (t151 == 1) = false := beq_eq_false_iff_ne.mpr c12
        have c12b1 : (t151 != 1) = true := bne_iff_ne.mpr c12
        have H' := Aside0.mk H
        clear H
        have hcz15_0 := cz BK149 0 (.int .i64 a0_0)
        have hcz15_1 := cz BK149 1 (.slice A0_1 l0_1.length c0_1)
        have hfz15_0 := fz BK149 0
        have hfz15_1 := fz BK149 1
        go_wp2_with (first | ((with_reducible refine gate_callee (f := 25) rfl ?_); refine goesL_ (some 30) rfl rfl Try.func25 (by kernel_rfl) rfl #[.agg #[.int .i64 a0_0, .slice A0_1 l0_1.length c0_1], .int .i64 x3_2] rfl aE ?_; (with_reducible refine (impl_Bits_bit.calls a0_0 _ _ l0_1 x3_2 t151 _ ?side1 ?side2 A11.out).mono ?_); (case side1 => exact cU (Kd.C_below HR0_1.out HB.out)); (case side2 => exact HC0_1.out); rintro e w16 ⟨rfl, hb⟩; refine ⟨_, rfl, ?_⟩; replace BK149 := bB (bV BK149) hb; replace HB := bH (lV1 GE149) hb; (try clear hb)))
        go_roundg k2
        case measure => have := HJ1.out; have := HK2.out; omega
        case rel => exact ⟨(wrap64 (x3_2 + 1)), tE, H', ⟨by have := HJ1.out; have := HK2.out; omega⟩, ⟨by refine bU ?_; exact BK149.out⟩, ⟨by repeat (first | (with_reducible first | exact HB.out | apply below_alloc | apply pw_below_drewN | apply below_drew1 | refine below_set ?_ GE149.out) | exact HB.out)⟩⟩
      ·rw [if_neg c10] at H
       have c10b0 : decide (x3_2 < (wrap64 (8 * (l0_1.length : Int)))) = false := decide_eq_false c10
       clear c10
       obtain rfl := Option.some.inj H
       have hcz17_0 := cz BK149 0 (.int .i64 a0_0)
       have hcz17_1 := cz BK149 1 (.slice A0_1 l0_1.length c0_1)
       have hfz17_0 := fz BK149 0
       have hfz17_1 := fz BK149 1
       go_wp2
       go_ret
       exact ⟨eE, lV1 GE149⟩
def impl_isMany.f (a0 : Int) : Option (Bool) := (impl_inRange.f a0 0 32).bind fun t152 => (some t152)
set_option maxHeartbeats 8000000 in
set_option maxRecDepth 100000 in
theorem impl_isMany.calls (a0 : Int) (r : Bool) (w : World) (h : impl_isMany.f a0 = some r) :
  Calls Try.prog 18 #[.int .i64 a0] w fun e w' => e = .returned (.bool r) ∧ Drawn0 w w' := by
 have H : ((impl_inRange.f a0 0 32).bind fun t152 => (some t152)) = some r := h
 clear h
 replace H := Option.bind_eq_some_iff.mp H
 obtain ⟨t152, A20, H⟩ := H
 replace H : (some t152) = some r := H
 have A2 := Aside0.mk A20
 clear A20
 obtain rfl := Option.some.inj H
 go_enter Try.func18, Try.ntmps18
 go_wp2_with (first | ((with_reducible refine gate_callee (f := 19) rfl ?_); refine goesL_ (some 4) rfl rfl Try.func19 (by kernel_rfl) rfl #[.int .i64 a0, .int .i64 0, .int .i64 32] rfl aE ?_; (with_reducible refine (impl_inRange.calls a0 0 32 t152 _ A2.out).mono ?_); rintro e w' ⟨rfl, ⟨nd, rfl⟩⟩; refine ⟨_, rfl, ?_⟩))
 go_ret
 exact ⟨by first | rfl | (simp; done) | (simp [*]; done) | exact not_isEmpty _ | exact (not_isEmpty _).symm | exact is_empty _ | exact (is_empty _).symm, by repeat (first | exact Drawn0.refl _ | apply Drawn0.step)⟩
def slices_Clone_byte_byte.f (l0 : List Int) : Option (List Int) := if l0.length < 140737488355328 then (some l0) else (none)
set_option maxHeartbeats 8000000 in
set_option maxRecDepth 100000 in
theorem slices_Clone_byte_byte.calls (A0 : Option Addr) (c0 : Nat) (l0 : List Int) (r : List Int) (w : World) (hr0 : Kd.C (Kd.int .u8) w A0 l0.length l0) (hc0 : l0.length ≤ c0) (h : slices_Clone_byte_byte.f l0 = some r) :
  Calls Try.prog 20 #[.slice A0 l0.length c0] w fun e w' => ∃ v0_ : Value, e = .returned (v0_) ∧ Kd.R (Kd.int .u8) 5 w' w.heap.size (fun _ => True) v0_ r ∧ Below w.heap.size w w' := by
 have hl : l0.length < 140737488355328 ∧ l0 = r := by
  unfold slices_Clone_byte_byte.f at h
  split at h
  ·exact ⟨by assumption, Option.some.inj h⟩
  ·cases h
 clear h
 obtain ⟨hl, rfl⟩ := hl
 have HL := Aside0.mk hl
 have HR0 := Aside0.mk hr0
 clear hr0 hl
 have HT := Try.underlying22
 have u0 : ∀ w, Sem.run Try.prog (underlying 22) w = .ok (TypeDesc.slice 5) w := run_underlying HT
 have q0 : ∀ (w : World) (a : Option Addr) (n c n' c' : Nat), (binOp .eql 22 (.slice a n c) (.slice none n' c')).run Try.prog w = .ok (.bool a.isNone) w := fun w a n c n' c' => Lib.run_eql_slice_nil w _ _ a n c n' c' HT
 cases A0 with
 | none =>
  obtain rfl : l0 = [] := by
   rcases Nat.eq_zero_or_pos l0.length with h0 | h0
   ·exact List.eq_nil_of_length_eq_zero h0
   ·obtain ⟨ad, h1, _⟩ := HR0.out.2.2 h0
    cases h1
  go_enter Try.func20, Try.ntmps20
  go_wp2
  go_ret
  exact ⟨_, rfl, Kd.R_nil _ _ _ _ _, Below.refl _ _⟩
 | some ad =>
  go_enter Try.func20, Try.ntmps20
  go_wp2_with (first | ((with_reducible refine gate_builtin (b := .append) (xs := #[.tmp 5, .tmp 6]) rfl ?_); at_builtin; refine Kd.R_append_rows (Kd.int .u8) (w0 := w) w.heap.size rfl (.tmp 5) (.tmp 6) 22 5 (.int .u8 0) 1 rfl Try.underlying22 info5 rfl (by decide) (by omega) (.slice (some ⟨w.heap.size, 0, none⟩) 0 0) [] l0 (some ad) l0.length c0 (fun _ => True) (fun _ => False) rfl rfl ?aO ?aR (fun _ _ h => h) (fun _ h => h.elim) ?aF ?aB ?aS ?aL ?_; (case aR => exact Kd.C_below HR0.out (below_alloc (Below.refl _ _) _)); (case aB => exact below_alloc (Below.refl _ _) _); (case aF => exact fun _ _ => trivial); (case aO => exact ⟨fun _ _ => trivial, [], World.ownsRow_made w #[] 0 (Nat.le_refl _) (Nat.zero_le _) rfl, ⟨rfl, fun j p hj => by simp at hj⟩⟩); (case aS => simp); (case aL => have := HL.out; simp only [List.length_nil, Nat.zero_add]; omega); intro v1 w1 ho hb hg hat; rw [List.nil_append] at ho; have HO := Aside0.mk ho; have HB := Aside0.mk hb; clear ho hb hg hat))
  go_ret
  exact ⟨_, rfl, HO.out, HB.out⟩
end Go.Proofs.Ytggfmjfgfjphgaa.PFnExactPutBits
namespace Go.Proofs.Ytggfmjfgfjphgaa.PFnExactPutBits
open Go.RowKit Go.Proofs.YtggfmjfgfjphgaaW.PrintWords Go.Proofs.YtggfmjfgfjphgaaW.PrintLast Go.Proofs.YtggfmjfgfjphgaaW.PrintMore
attribute [local go_sem] max2_int min2_int max_two min_two max_three min_three max_four min_four   -- for this text's walks alone
set_option linter.unusedVariables false
set_option linter.unusedSimpArgs false
def impl_Bits_put.l0 : Nat → Int → Int → Int → List Int → Option (Int × List Int)
 | 0, _, _, _, _ => none
 | k + 1, x1, x6, x154000, x154001 => if x6 ≥ 0 then (if (Int.tmod x154000 8) = 0 then (if x154001.length < 140737488355328 then ((some (x154001 ++ [0] : List Int)).bind fun y154 => (if 0 ≤ (wrap64 (Int.tdiv x154000 8)) then (if (wrap64 (Int.tdiv x154000 8)) < (y154.length : Int) then (if 0 ≤ x6 then (if 0 ≤ (wrap64 (7 - (Int.tmod x154000 8))) then (impl_Bits_put.l0 k x1 (wrap64 (x6 - 1)) (wrap64 (x154000 + 1)) (y154.set ((wrap64 (Int.tdiv x154000 8)) : Int).toNat (Go.bits .or .u8 (rd y154 (wrap64 (Int.tdiv x154000 8))) ((shl .i64 (Go.bits .and .i64 (shr .i64 x1 x6) 1) (wrap64 (7 - (Int.tmod x154000 8)))) % 256)))) else (none)) else (none)) else (none)) else (none))) else (none)) else (if 0 ≤ (wrap64 (Int.tdiv x154000 8)) then (if (wrap64 (Int.tdiv x154000 8)) < (x154001.length : Int) then (if 0 ≤ x6 then (if 0 ≤ (wrap64 (7 - (Int.tmod x154000 8))) then (impl_Bits_put.l0 k x1 (wrap64 (x6 - 1)) (wrap64 (x154000 + 1)) (x154001.set ((wrap64 (Int.tdiv x154000 8)) : Int).toNat (Go.bits .or .u8 (rd x154001 (wrap64 (Int.tdiv x154000 8))) ((shl .i64 (Go.bits .and .i64 (shr .i64 x1 x6) 1) (wrap64 (7 - (Int.tmod x154000 8)))) % 256)))) else (none)) else (none)) else (none)) else (none))) else (some (x154000, x154001))
def impl_Bits_put.f (k : Nat) (a0_0 : Int) (l0_1 : List Int) (a1 : Int) (a2 : Int) : Option (Int × List Int) := impl_Bits_put.l0 k a1 (wrap64 (a2 - 1)) a0_0 l0_1
theorem impl_Bits_put.mono_l : ∀ k, (∀ y0 y1 y2 y3, LeO (impl_Bits_put.l0 k y0 y1 y2 y3) (impl_Bits_put.l0 (k + 1) y0 y1 y2 y3))
 | 0 => fun _ _ _ _ r h => by simp [impl_Bits_put.l0] at h
 | k + 1 => by
  have ih0 := impl_Bits_put.mono_l k
  ·intro y0 y1 y2 y3
   unfold impl_Bits_put.l0
   repeat' first
   | (with_reducible exact ih0 _ _ _ _)
   | (with_reducible first | exact LeO.refl _ | exact LeO.none _ | refine LeO.ite ?_ ?_ | refine LeO.bind ?_ (fun _ => ?_))
   | exact ih0 _ _ _ _ | exact LeO.none _ | refine LeO.ite ?_ ?_ | refine LeO.bind ?_ (fun _ => ?_)
theorem impl_Bits_put.mono : ∀ a0 a1 a2 a3 k, LeO (impl_Bits_put.f k a0 a1 a2 a3) (impl_Bits_put.f (k + 1) a0 a1 a2 a3) := by
 intro a0 a1 a2 a3 k
 have ih0 := impl_Bits_put.mono_l k
 unfold impl_Bits_put.f
 repeat' first
   | (with_reducible exact ih0 _ _ _ _)
   | (with_reducible first | exact LeO.refl _ | exact LeO.none _ | refine LeO.ite ?_ ?_ | refine LeO.bind ?_ (fun _ => ?_))
   | exact ih0 _ _ _ _ | exact LeO.none _ | refine LeO.ite ?_ ?_ | refine LeO.bind ?_ (fun _ => ?_)
def impl_Bits_put.T5 : Bool × List (List Nat × List Nat) := (true, [([], []), ([0], [0]), ([1], [1]), ([2], [2]), ([], []), ([4], [4]), ([5], [5]), ([6], [6]), ([7], [7]), ([3, 8], [3, 8]), ([9], [9]), ([], []), ([], []), ([11, 12], [11, 12]), ([13], [13]), ([], []), ([15], [15]), ([16], [16]), ([17], [17]), ([18], [18]), ([19], [19]), ([14, 20], [14, 20]), ([21], [21]), ([10, 22], [10, 22]), ([3, 8, 0, 1, 2, 3, 4, 5, 6, 7, 8, 9, 10, 11, 12, 13, 14, 15, 16, 17, 18, 19, 20, 21, 22, 23], [3, 8]), ([24, 23, 0, 1, 2, 3, 4, 5, 6, 7, 8, 9, 10, 11, 12, 13, 14, 15, 16, 17, 18, 19, 20, 21, 22, 23], [23, 24])])
def impl_Bits_put.B5 : List Nat := [0, 1, 3, 7, 0, 16, 48, 112, 240, 511, 1023, 0, 0, 6144, 14336, 0, 32768, 98304, 229376, 491520, 1015808, 2095104, 4192256, 8388607, 16777215, 33554431]
theorem impl_Bits_put.tab5 : rtab .any (opsOf Try.f21 5) = impl_Bits_put.T5 := by kernel_rfl
theorem impl_Bits_put.bits5 : waitsOk impl_Bits_put.T5.2 impl_Bits_put.B5 = true := by kernel_rfl
set_option maxHeartbeats 8000000 in
set_option maxRecDepth 100000 in
theorem impl_Bits_put.calls (k : Nat) (a0_0 : Int) (P0_1_ : Nat → Prop) (u9000_ : Value) (l0_1 : List Int) (a1 : Int) (a2 : Int) (r1 : Int) (r2 : List Int) (w0 w : World) (gb153 : Nat) (hB : Below w0.heap.size w0 w) (hGE : w0.heap.size ≤ gb153) (hP : P0_1_ gb153) (hBK : w.heap[gb153]? = some (.cells #[.int .i64 a0_0, u9000_] 26 (0, 0))) (ho0_1 : Kd.R (Kd.int .u8) 5 w w0.heap.size P0_1_ u9000_ l0_1) (h : impl_Bits_put.f k a0_0 l0_1 a1 a2 = some (r1, r2)) :
  Calls Try.prog 21 #[.pointer (some ⟨gb153, 0, none⟩), .int .i64 a1, .int .i64 a2] w fun e w' => ∃ v1_ : Value, e = .returned (.tuple #[]) ∧ w'.heap[gb153]? = some (.cells #[.int .i64 r1, v1_] 26 (0, 0)) ∧ Kd.R (Kd.int .u8) 5 w' w0.heap.size (fun k_ => (P0_1_ k_ ∨ w.heap.size ≤ k_)) v1_ r2 ∧ Below w0.heap.size w0 w' ∧ Kept w w' (fun k_ => P0_1_ k_) := by
 have hu26 := Try.underlying26
 have HO0_1 := Aside0.mk (show Kd.R (Kd.int .u8) 5 w w0.heap.size (fun k_ => (P0_1_ k_ ∨ w.heap.size ≤ k_)) u9000_ l0_1 from Kd.R_mono ho0_1 (fun k_ hk => (.inl hk)))
 have HK := Aside0.mk (Kept.refl w (fun k_ => P0_1_ k_))
 have HW0 := Aside0.mk hB.size
 have HB := Aside0.mk hB
 clear hB
 have H : (impl_Bits_put.l0 k a1 (wrap64 (a2 - 1)) a0_0 l0_1) = some (r1, r2) := h
 clear h
 have H' := Aside0.mk H
 clear H
 obtain ⟨Ao4, co4, eo4⟩ := Kd.R_slice HO0_1.out
 subst eo4
 go_enter Try.func21, Try.ntmps21
 have BK153 := Aside0.mk hBK
 have GW153 := Aside0.mk hP
 have GE153 := Aside0.mk hGE
 clear hBK hP hGE
 go_wp2
 (try simp only [Act.put, List.setIfInBounds_toArray, List.set_cons_zero, List.set_cons_succ])
 go_loopg [6] k (fun kq v6 w' => ∃ (x6_1 : Int) (x154000_1 : Int) (x154001_1 : List Int) (u154001 : Value), v6 = .int .i64 x6_1 ∧ Aside0 (impl_Bits_put.l0 kq a1 x6_1 x154000_1 x154001_1 = some (r1, r2)) ∧ Aside0 (kq ≤ k) ∧ Aside0 (Kd.R (Kd.int .u8) 5 w' w0.heap.size (fun k_ => (P0_1_ k_ ∨ w.heap.size ≤ k_)) u154001 x154001_1) ∧ Aside0 (w'.heap[gb153]? = some (.cells #[.int .i64 x154000_1, u154001] 26 (0, 0))) ∧ Aside0 (Kept w w' (fun k_ => P0_1_ k_)) ∧ Aside0 (Below w0.heap.size w0 w'))
 case atStart => exact ⟨(wrap64 (a2 - 1)), (a0_0), (l0_1), (.slice Ao4 l0_1.length co4), tE, H', ⟨Nat.le_refl _⟩, ⟨by (with_reducible repeat (first | apply Kd.R_alloc | apply Kd.R_drewN | apply Kd.R_drew)); exact HO0_1.out⟩, ⟨by refine bU ?_; exact BK153.out⟩, ⟨by repeat (first | (with_reducible first | exact HK.out | apply Kept.alloc | apply Kept.drewN | apply Kept.drew | refine Kept.setCell ?_ (.inl GW153.out) _) | exact HK.out)⟩, ⟨by repeat (first | (with_reducible first | exact HB.out | apply below_alloc | apply pw_below_drewN | apply below_drew1 | refine below_set ?_ GE153.out) | exact HB.out)⟩⟩
 case round =>
  clear H'
  try clear c2
  try clear p2
  obtain ⟨x6_1, x154000_1, x154001_1, u154001, rfl, HA, HK1, HO_154001, BK153, HK, HB⟩ := hrel
  cases gk with
  | zero => exact absurd HA.out (by simp [impl_Bits_put.l0])
  | succ k1 =>
   have H := HA.out
   clear HA
   simp only [impl_Bits_put.l0] at H
   by_cases c6 : x6_1 ≥ 0
   ·rw [if_pos c6] at H
    have c6b0 : decide (0 ≤ x6_1) = true := decide_eq_true c6
    clear c6
    by_cases c7 : (Int.tmod x154000_1 8) = 0
    ·rw [if_pos c7] at H
     have c7b0 : ((Int.tmod x154000_1 8) == 0) = true := beq_iff_eq.mpr c7
     have c7b1 : ((Int.tmod x154000_1 8) != 0) = false := bne_eq_false_iff_eq.mpr c7
     clear c7
     by_cases c8 : x154001_1.length < 140737488355328
     ·rw [if_pos c8] at H
      have LMc8 := Aside0.mk c8
      clear c8
      obtain ⟨y154, hy154⟩ : ∃ y_ : List Int, y_ = (x154001_1 ++ [0]) := ⟨_, rfl⟩
      replace H : (if 0 ≤ (wrap64 (Int.tdiv x154000_1 8)) then (if (wrap64 (Int.tdiv x154000_1 8)) < (y154.length : Int) then (if 0 ≤ x6_1 then (if 0 ≤ (wrap64 (7 - (Int.tmod x154000_1 8))) then (impl_Bits_put.l0 k1 a1 (wrap64 (x6_1 - 1)) (wrap64 (x154000_1 + 1)) (y154.set ((wrap64 (Int.tdiv x154000_1 8)) : Int).toNat (Go.bits .or .u8 (rd y154 (wrap64 (Int.tdiv x154000_1 8))) ((shl .i64 (Go.bits .and .i64 (shr .i64 a1 x6_1) 1) (wrap64 (7 - (Int.tmod x154000_1 8)))) % 256)))) else (none)) else (none)) else (none)) else (none)) = some (r1, r2) := by first | (rw [hy154]; with_reducible exact H) | (have H2_ := (Option.bind_some _ _).symm.trans H; rw [hy154]; with_reducible exact H2_) | (have H2_ := (Option.bind_some _ _).symm.trans H; with_reducible exact H2_) | with_reducible exact H | (rw [hy154]; exact H) | exact H
      have Ny154 := Aside0.mk hy154
      clear hy154
      obtain ⟨ji9, hji9⟩ : ∃ j_ : Int, (wrap64 (Int.tdiv x154000_1 8)) = j_ := ⟨_, rfl⟩
      replace H : (if 0 ≤ (ji9) then (if (ji9) < (y154.length : Int) then (if 0 ≤ x6_1 then (if 0 ≤ (wrap64 (7 - (Int.tmod x154000_1 8))) then (impl_Bits_put.l0 k1 a1 (wrap64 (x6_1 - 1)) (wrap64 (x154000_1 + 1)) (y154.set ((ji9) : Int).toNat (Go.bits .or .u8 (rd y154 (ji9)) ((shl .i64 (Go.bits .and .i64 (shr .i64 a1 x6_1) 1) (wrap64 (7 - (Int.tmod x154000_1 8)))) % 256)))) else (none)) else (none)) else (none)) else (none)) = some (r1, r2) := by first | (rw [hji9] at H; exact H) | (simp only [hji9] at H ⊢; exact H)
      have hji9w : (IntKind.i64.wrap (Int.tdiv x154000_1 8)) = ji9 := (i64_w _).trans hji9
      by_cases c10 : 0 ≤ (ji9)
      ·rw [if_pos c10] at H
       have c10b0 : decide (0 ≤ (ji9)) = true := decide_eq_true c10
       clear c10
       by_cases c11 : (ji9) < (y154.length : Int)
       ·rw [if_pos c11] at H
        have c11b0 : decide ((ji9) < (y154.length : Int)) = true := decide_eq_true c11
        clear c11
        by_cases c12 : 0 ≤ x6_1
        ·rw [if_pos c12] at H
         have c12b0 := eq_true c12
         have c12b1 : decide (0 ≤ x6_1) = true := decide_eq_true c12
         clear c12
         obtain ⟨ji13, hji13⟩ : ∃ j_ : Int, (shr .i64 a1 x6_1) = j_ := ⟨_, rfl⟩
         replace H : (if 0 ≤ (wrap64 (7 - (Int.tmod x154000_1 8))) then (impl_Bits_put.l0 k1 a1 (wrap64 (x6_1 - 1)) (wrap64 (x154000_1 + 1)) (y154.set ((ji9) : Int).toNat (Go.bits .or .u8 (rd y154 (ji9)) ((shl .i64 (Go.bits .and .i64 (ji13) 1) (wrap64 (7 - (Int.tmod x154000_1 8)))) % 256)))) else (none)) = some (r1, r2) := by first | (rw [hji13] at H; exact H) | (simp only [hji13] at H ⊢; exact H)
         have hji13_ : (a1 / 2 ^ min x6_1.toNat 64) = ji13 := hji13
         have hji13z : x6_1 ≤ 64 → (a1 / 2 ^ x6_1.toNat) = ji13 := shr_small hji13
         obtain ⟨ji14, hji14⟩ : ∃ j_ : Int, (wrap64 (7 - (Int.tmod x154000_1 8))) = j_ := ⟨_, rfl⟩
         replace H : (if 0 ≤ (ji14) then (impl_Bits_put.l0 k1 a1 (wrap64 (x6_1 - 1)) (wrap64 (x154000_1 + 1)) (y154.set ((ji9) : Int).toNat (Go.bits .or .u8 (rd y154 (ji9)) ((shl .i64 (Go.bits .and .i64 (ji13) 1) (ji14)) % 256)))) else (none)) = some (r1, r2) := by first | (rw [hji14] at H; exact H) | (simp only [hji14] at H ⊢; exact H)
         have hji14w : (IntKind.i64.wrap (7 - (Int.tmod x154000_1 8))) = ji14 := (i64_w _).trans hji14
         by_cases c15 : 0 ≤ (ji14)
         ·rw [if_pos c15] at H
          have c15b0 := eq_true c15
          have c15b1 : decide (0 ≤ (ji14)) = true := decide_eq_true c15
          clear c15
          obtain ⟨ji16, hji16⟩ : ∃ j_ : Int, (shl .i64 (Go.bits .and .i64 (ji13) 1) (ji14)) = j_ := ⟨_, rfl⟩
          replace H : (impl_Bits_put.l0 k1 a1 (wrap64 (x6_1 - 1)) (wrap64 (x154000_1 + 1)) (y154.set ((ji9) : Int).toNat (Go.bits .or .u8 (rd y154 (ji9)) ((ji16) % 256)))) = some (r1, r2) := by first | (rw [hji16] at H; exact H) | (simp only [hji16] at H ⊢; exact H)
          have hji16_ : (IntKind.i64.wrap ((Go.bits .and .i64 (ji13) 1) * 2 ^ min (ji14).toNat 64)) = ji16 := hji16
          have hji16z : (ji14) ≤ 64 → (IntKind.i64.wrap ((Go.bits .and .i64 (ji13) 1) * 2 ^ (ji14).toNat)) = ji16 := shl_small hji16
          have hji16y : (wrap64 ((Go.bits .and .i64 (ji13) 1) * 2 ^ min (ji14).toNat 64)) = ji16 := (i64_w _).symm.trans hji16_
          have hji16x : (ji14) ≤ 64 → (wrap64 ((Go.bits .and .i64 (ji13) 1) * 2 ^ (ji14).toNat)) = ji16 := fun h_ => (i64_w _).symm.trans (hji16z h_)
          obtain ⟨y158, hy158⟩ : ∃ y_ : List Int, y_ = (y154.set ((ji9) : Int).toNat (Go.bits .or .u8 (rd y154 (ji9)) ((ji16) % 256))) := ⟨_, rfl⟩
          replace H : (impl_Bits_put.l0 k1 a1 (wrap64 (x6_1 - 1)) (wrap64 (x154000_1 + 1)) y158) = some (r1, r2) := by first | (rw [hy158]; with_reducible exact H) | (have H2_ := (Option.bind_some _ _).symm.trans H; rw [hy158]; with_reducible exact H2_) | (have H2_ := (Option.bind_some _ _).symm.trans H; with_reducible exact H2_) | with_reducible exact H | (rw [hy158]; exact H) | exact H
          have Ny158 := Aside0.mk hy158
          clear hy158
          have H' := Aside0.mk H
          clear H
          have hcz18_0 := cz BK153 0 (.int .i64 x154000_1)
          have hcz18_1 := cz BK153 1 (u154001)
          have hfz18_0 := fz BK153 0
          have hfz18_1 := fz BK153 1
          try go_wp2_with (first | ((with_reducible refine gate_builtin (b := .append) (xs := #[.tmp 23, .tmp 24]) rfl ?_); at_builtin; refine Kd.R_append (Kd.int .u8) (w0 := w0) w0.heap.size rfl (.tmp 23) (.tmp 24) 22 5 (.int .u8 0) 1 rfl Try.underlying22 info5 rfl (by decide) (by omega) u154001 x154001_1 0 [.int .u8 0] (fun k_ => (P0_1_ k_ ∨ w.heap.size ≤ k_)) (fun _ => False) rfl rfl ?aP (fun _ hk => hk.elim) ?aF ?aO ?aB ?aS ?aL ?_; (case aP => exact rfl); (case aB => exact (lV1 GE153)); (case aF => exact (fun k_ hk => (.inr (Nat.le_trans (by first | exact HK.out.1 | exact (show Kept w _ (fun k_ => P0_1_ k_) from by repeat (first | (with_reducible first | exact HK.out | apply Kept.alloc | apply Kept.drewN | apply Kept.drew | refine Kept.setCell ?_ (.inl GW153.out) _) | exact HK.out)).1) hk)))); (case aO => exact (rU HO_154001.out)); (case aS => exact (below_size (lV1 GE153))); (case aL => have := LMc8.out; omega); intro v155 w19 ho hb hg hat; rw [← Ny154.out] at ho; replace BK153 := Aside0.mk (blk_grown (g := gb153) (o := .cells #[.int .i64 x154000_1, u154001] 26 (0, 0)) (bV BK153) hg (Kd.R_ne HO_154001.out BK153.out (by decide))); replace HB := Aside0.mk hb; replace HK := Aside0.mk (Kept.of_grown (S := (fun k_ => P0_1_ k_)) hg (by repeat (first | (with_reducible first | exact HK.out | apply Kept.alloc | apply Kept.drewN | apply Kept.drew | refine Kept.setCell ?_ (.inl GW153.out) _) | exact HK.out)) (fun k_ e_ => (HO_154001.out.1 k_ e_))); have HO156 := Aside0.mk ho; clear HO_154001; clear ho hb hg hat; obtain ⟨Ao20, co20, eo20⟩ := Kd.R_slice HO156.out; subst eo20; have hcz21_0 := cz BK153 0 (.int .i64 x154000_1); have hcz21_1 := cz BK153 1 (u154001); have hfz21_0 := fz BK153 0; have hfz21_1 := fz BK153 1) | ((with_reducible refine gate_store (t := 22) (p := 27) rfl ?_); refine store_event (t := 22) (p := 27) (v := ?vo_w22) (w1 := (w19.setCell ⟨gb153, 1, none⟩ (.slice Ao20 y154.length co20))) ?hg ?ho ?hn ?hr ?_; (case ho => rfl); (case hg => rfl); (case hn => rfl); (case hr => first | (go_simp; done) | (go_simp; rfl) | (have hq0_ := (blk_cell BK153.out 1).trans (show _ = some _ from rfl); have hf0_ := blk_frozen BK153.out 1; first | (go_simp; done) | (go_simp; rfl))); intro w22 hw; replace HO156 : Aside0 (Kd.R (Kd.int .u8) 5 w22 w0.heap.size (fun k_ => (P0_1_ k_ ∨ w.heap.size ≤ k_)) (.slice Ao20 y154.length co20) y154) := ⟨(by rw [hw]; exact (by (with_reducible repeat (first | apply Kd.R_alloc | apply Kd.R_drewN | apply Kd.R_drew)); exact Kd.R_mono (Kd.R_far (p := ⟨gb153, 1, none⟩) (Kd.R_types HO156.out BK153.out (by decide)) (fun _ hk => hk.2) (.slice Ao20 y154.length co20)) (fun _ hk => hk.1)))⟩; replace BK153 : Aside0 (w22.heap[gb153]? = some (.cells #[.int .i64 x154000_1, .slice Ao20 y154.length co20] 26 (0, 0))) := ⟨(by rw [hw]; exact (by refine bU ?_; refine blk_put (cs := #[.int .i64 x154000_1, u154001]) ?_ 1 _ rfl; refine bU ?_; exact BK153.out))⟩; replace HK : Aside0 (Kept w w22 (fun k_ => P0_1_ k_)) := ⟨(by rw [hw]; exact (by repeat (first | (with_reducible first | exact HK.out | apply Kept.alloc | apply Kept.drewN | apply Kept.drew | refine Kept.setCell ?_ (.inl GW153.out) _) | exact HK.out)))⟩; replace HB : Aside0 (Below w0.heap.size w0 w22) := ⟨(by rw [hw]; exact (lV1 GE153))⟩; clear hw))
          replace HO156 := Aside0.mk (Kd.R_drew HO156.out)
          replace BK153 := Aside0.mk (blk_drew BK153.out)
          replace HK := Aside0.mk (Kept.drew HK.out)
          replace HB := Aside0.mk (below_drew1 HB.out)
          have p157 : 0 ≤ ((ji9) : Int) := of_decide_eq_true hE
          have q157 : (ji9) < (y154.length : Int) := of_decide_eq_true hE
          obtain ⟨ad157, e157, hx157_0⟩ := Kd.at_int (Kd.R_reads' HO156.out).2.2 (ji9) p157 q157
          cases e157
          replace p157 := eq_true p157
          replace q157 := eq_true q157
          have p17 : 0 ≤ ((ji9) : Int) := of_decide_eq_true hE
          have q17 : ((ji9) : Int) < ((y154.length : Int) : Int) := of_decide_eq_true hE
          obtain ⟨go17, co17, eo17, gb17, gl17, cl17, HG17⟩ := Kd.R_form HO156.out (by omega)
          (first | cases eo17 | (injection eo17 with ea_ en_ ec_; (first | subst ea_ | (injection ea_ with ea_; subst ea_)); subst ec_; clear en_))
          have GB17 := Aside0.mk gb17
          have GG17 := Aside0.mk HG17
          clear gb17 gl17 HG17
          have HMgo17 := Aside0.mk (show (P0_1_ go17 ∨ w.heap.size ≤ go17) from (HO156.out.1 _ rfl))
          (first | simp only [add_plain] at hx157_0 | skip)
          obtain ⟨hx17_0, hf17_0⟩ := Kd.R_celln 0 HO156.out ((ji9) : Int) p17 q17
          replace p17 := eq_true p17
          replace q17 := eq_true q17
          have HP24 := Kd.R_putn HO156.out ((ji9) : Int) (Go.bits .or .u8 (rd y154 (ji9)) ((ji16) % 256))
          rw [← Ny158.out] at HP24
          have HQ24 := Aside0.mk HP24
          clear HP24
          refine start_ (n := 26) (S := fun w' => w'.cell? ⟨gb153, 0, none⟩ = some (.int .i64 x154000_1) ∧ w'.cell? ⟨gb153, 1, none⟩ = some (.slice (some ⟨go17, 0, none⟩) y154.length co20) ∧ w'.cell? ⟨go17, ((ji9)).toNat, none⟩ = some (.int .u8 (rd y154 (ji9)))) (ds := [25]) #[false, false, false, false, false, false, false, false, false, false, false, false, false, false, false, false, false, false, false, false, false, false, false, false, false, false] (by kernel_rfl) rfl rfl ⟨cz BK153 0 _, cz BK153 1 _, hx157_0⟩ (fun hHeld => ?_); refine with_tabW impl_Bits_put.tab5 impl_Bits_put.bits5 (fun HT_ HW_ => ?_)
          generalize w22.drew = w23 at HO156 BK153 HK HB GG17 HQ24 hf17_0 hx157_0 hx17_0 hHeld ⊢
          refine pureA 0 28 (bz 26 1) rfl rfl (any_of HT_.out (by kernel_rfl)) ?_
          refine pureA 1 29 (bz 26 3) rfl rfl (any_of HT_.out (by kernel_rfl)) ?_
          refine pureA 2 30 (bz 26 7) rfl rfl (any_of HT_.out (by kernel_rfl)) ?_
          refine pureA 4 32 (bz 26 23) rfl rfl (any_of HT_.out (by kernel_rfl)) ?_
          refine pureA 5 33 (bz 26 55) rfl rfl (any_of HT_.out (by kernel_rfl)) ?_
          refine pureA 6 34 (bz 26 119) rfl rfl (any_of HT_.out (by kernel_rfl)) ?_
          refine pureA 11 39 (bz 26 2167) rfl rfl (any_of HT_.out (by kernel_rfl)) ?_
          refine pureA 12 40 (bz 26 6263) rfl rfl (any_of HT_.out (by kernel_rfl)) ?_
          refine pureA 13 41 (bz 26 14455) rfl rfl (any_of HT_.out (by kernel_rfl)) ?_
          refine pureA 14 42 (bz 26 30839) rfl rfl (any_of HT_.out (by kernel_rfl)) ?_
          refine pureA 15 43 (bz 26 63607) rfl rfl (any_of HT_.out (by kernel_rfl)) ?_
          refine pureA 16 44 (bz 26 129143) rfl rfl (any_of HT_.out (by kernel_rfl)) ?_
          refine pureA 17 45 (bz 26 260215) rfl rfl (any_of HT_.out (by kernel_rfl)) ?_
          refine takeA 3 31 (bz 26 260223) rfl rfl (take_ofW HT_.out HW_.out (by kernel_rfl)) hHeld (by rintro w' ⟨s0, s1, s2⟩; go_simp; with_reducible rfl) ?_
          refine takeA 7 35 (bz 26 260351) rfl rfl (take_ofW HT_.out HW_.out (by kernel_rfl)) hHeld (by rintro w' ⟨s0, s1, s2⟩; go_simp; with_reducible rfl) ?_
          refine pureA 8 36 (bz 26 260607) rfl rfl (any_of HT_.out (by kernel_rfl)) ?_
          refine pureA 9 37 (bz 26 261119) rfl rfl (any_of HT_.out (by kernel_rfl)) ?_
          refine takeA 10 38 (bz 26 262143) rfl rfl (take_ofW HT_.out HW_.out (by kernel_rfl)) hHeld (by rintro w' ⟨s0, s1, s2⟩; go_simp; with_reducible rfl) ?_
          refine takeA 18 46 (bz 26 524287) rfl rfl (take_ofW HT_.out HW_.out (by kernel_rfl)) hHeld (by rintro w' ⟨s0, s1, s2⟩; go_simp; with_reducible rfl) ?_
          refine pureA 19 47 (bz 26 1048575) rfl rfl (any_of HT_.out (by kernel_rfl)) ?_
          refine pureA 20 48 (bz 26 2097151) rfl rfl (any_of HT_.out (by kernel_rfl)) ?_
          refine pureA 21 49 (bz 26 4194303) rfl rfl (any_of HT_.out (by kernel_rfl)) ?_
          refine pureA 22 50 (bz 26 8388607) rfl rfl (any_of HT_.out (by kernel_rfl)) ?_
          refine pureA 23 51 (bz 26 16777215) rfl rfl (any_of HT_.out (by kernel_rfl)) ?_
          refine pureA 24 52 (bz 26 33554431) rfl rfl (any_of HT_.out (by kernel_rfl)) ?_
          refine last_ (i := 25) (N := none) (bz 26 67108863) rfl rfl (one_of HT_.out (by kernel_rfl)) (by decide) (fun K hK => ?_)
          refine skip_ (w1 := ?_) (by rfl) rfl ?_ ?_
          rotate_left
          ·go_simp
           rfl
          refine hK.out _ _ ?_
          clear hK K
          refine done_ (done_of HT_.out (by kernel_rfl)) ?_
          try rw [show IntKind.u8.wrap (ji16) = (ji16) % 256 from rfl]
          have n0_ : Aside0 (Kd.R (Kd.int .u8) 5 (w23.setCell ⟨go17, ((ji9) : Int).toNat, none⟩ (.int .u8 (Go.bits .or .u8 (rd y154 (ji9)) ((ji16) % 256)))) w0.heap.size (fun k_ => (P0_1_ k_ ∨ w.heap.size ≤ k_)) (.slice (some ⟨go17, 0, none⟩) y154.length co20) y158) := ⟨by (with_reducible repeat (first | apply Kd.R_alloc | apply Kd.R_drewN | apply Kd.R_drew)); exact HQ24.out⟩
          have n1_ : Aside0 ((w23.setCell ⟨go17, ((ji9) : Int).toNat, none⟩ (.int .u8 (Go.bits .or .u8 (rd y154 (ji9)) ((ji16) % 256)))).heap[gb153]? = some (.cells #[.int .i64 x154000_1, .slice (some ⟨go17, 0, none⟩) y154.length co20] 26 (0, 0))) := ⟨by refine bU ?_; refine blk_far ?_ (by have h_ := Kd.R_ne HO156.out BK153.out (by decide); intro e_; exact h_ (by rw [e_]; rfl)) _; refine bU ?_; exact BK153.out⟩
          have n2_ : Aside0 (Kept w (w23.setCell ⟨go17, ((ji9) : Int).toNat, none⟩ (.int .u8 (Go.bits .or .u8 (rd y154 (ji9)) ((ji16) % 256)))) (fun k_ => P0_1_ k_)) := ⟨by repeat (first | (with_reducible first | exact HK.out | apply Kept.alloc | apply Kept.drewN | apply Kept.drew | refine Kept.setCell ?_ HMgo17.out _ | refine Kept.setCell ?_ (.inl GW153.out) _) | exact HK.out)⟩
          have n3_ : Aside0 (Below w0.heap.size w0 (w23.setCell ⟨go17, ((ji9) : Int).toNat, none⟩ (.int .u8 (Go.bits .or .u8 (rd y154 (ji9)) ((ji16) % 256))))) := ⟨by repeat (first | (with_reducible first | exact HB.out | apply below_alloc | apply pw_below_drewN | apply below_drew1 | refine below_set ?_ GB17.out | refine below_set ?_ GE153.out) | exact HB.out)⟩
          (try clear HO156)
          (try clear BK153)
          (try clear HK)
          (try clear HB)
          generalize (w23.setCell ⟨go17, ((ji9) : Int).toNat, none⟩ (.int .u8 (Go.bits .or .u8 (rd y154 (ji9)) ((ji16) % 256)))) = w25 at n0_ n1_ n2_ n3_ ⊢
          have HO156 := n0_
          have BK153 := n1_
          have HK := n2_
          have HB := n3_
          clear n0_ n1_ n2_ n3_
          have hcz26_0 := cz BK153 0 (.int .i64 x154000_1)
          have hcz26_1 := cz BK153 1 (.slice (some ⟨go17, 0, none⟩) y154.length co20)
          have hfz26_0 := fz BK153 0
          have hfz26_1 := fz BK153 1
          try go_wp2_with (first | ((with_reducible refine gate_store (t := 3) (p := 59) rfl ?_); refine store_event (t := 3) (p := 59) (v := ?vo_w27) (w1 := (w25.setCell ⟨gb153, 0, none⟩ (.int .i64 (wrap64 (x154000_1 + 1))))) ?hg ?ho ?hn ?hr ?_; (case ho => rfl); (case hg => rfl); (case hn => rfl); (case hr => first | (go_simp; done) | (go_simp; rfl) | (have hq0_ := (blk_cell BK153.out 0).trans (show _ = some _ from rfl); have hf0_ := blk_frozen BK153.out 0; first | (go_simp; done) | (go_simp; rfl))); intro w27 hw; replace HO156 : Aside0 (Kd.R (Kd.int .u8) 5 w27 w0.heap.size (fun k_ => (P0_1_ k_ ∨ w.heap.size ≤ k_)) (.slice (some ⟨go17, 0, none⟩) y154.length co20) y158) := ⟨(by rw [hw]; exact (by (with_reducible repeat (first | apply Kd.R_alloc | apply Kd.R_drewN | apply Kd.R_drew)); exact Kd.R_mono (Kd.R_far (p := ⟨gb153, 0, none⟩) (Kd.R_types HO156.out BK153.out (by decide)) (fun _ hk => hk.2) (.int .i64 (wrap64 (x154000_1 + 1)))) (fun _ hk => hk.1)))⟩; replace BK153 : Aside0 (w27.heap[gb153]? = some (.cells #[.int .i64 (wrap64 (x154000_1 + 1)), .slice (some ⟨go17, 0, none⟩) y154.length co20] 26 (0, 0))) := ⟨(by rw [hw]; exact (by refine bU ?_; refine blk_put (cs := #[.int .i64 x154000_1, .slice (some ⟨go17, 0, none⟩) y154.length co20]) ?_ 0 _ rfl; refine bU ?_; exact BK153.out))⟩; replace HK : Aside0 (Kept w w27 (fun k_ => P0_1_ k_)) := ⟨(by rw [hw]; exact (by repeat (first | (with_reducible first | exact HK.out | apply Kept.alloc | apply Kept.drewN | apply Kept.drew | refine Kept.setCell ?_ (.inl GW153.out) _) | exact HK.out)))⟩; replace HB : Aside0 (Below w0.heap.size w0 w27) := ⟨(by rw [hw]; exact (lV1 GE153))⟩; clear hw))
          go_roundg k1
          case measure => have := HK1.out; omega
          case rel => exact ⟨(wrap64 (x6_1 - 1)), (wrap64 (x154000_1 + 1)), (y158), (.slice (some ⟨go17, 0, none⟩) y154.length co20), tE, H', ⟨by have := HK1.out; omega⟩, ⟨by (with_reducible repeat (first | apply Kd.R_alloc | apply Kd.R_drewN | apply Kd.R_drew)); exact HO156.out⟩, ⟨by refine bU ?_; exact BK153.out⟩, ⟨by repeat (first | (with_reducible first | exact HK.out | apply Kept.alloc | apply Kept.drewN | apply Kept.drew | refine Kept.setCell ?_ (.inl GW153.out) _) | exact HK.out)⟩, ⟨by repeat (first | (with_reducible first | exact HB.out | apply below_alloc | apply pw_below_drewN | apply below_drew1 | refine below_set ?_ GE153.out) | exact HB.out)⟩⟩
         ·rw [if_neg c15] at H
          exact absurd H (by simp)
        ·rw [if_neg c12] at H
         exact absurd H (by simp)
       ·rw [if_neg c11] at H
        exact absurd H (by simp)
      ·rw [if_neg c10] at H
       exact absurd H (by simp)
     ·rw [if_neg c8] at H
      exact absurd H (by simp)
    ·rw [if_neg c7] at H
     have c7b0 : ((Int.tmod x154000_1 8) == 0) = false := beq_eq_false_iff_ne.mpr c7
     have c7b1 : ((Int.tmod x154000_1 8) != 0) = true := bne_iff_ne.mpr c7
     obtain ⟨ji28, hji28⟩ : ∃ j_ : Int, (wrap64 (Int.tdiv x154000_1 8)) = j_ := ⟨_, rfl⟩
     replace H : (if 0 ≤ (ji28) then (if (ji28) < (x154001_1.length : Int) then (if 0 ≤ x6_1 then (if 0 ≤ (wrap64 (7 - (Int.tmod x154000_1 8))) then (impl_Bits_put.l0 k1 a1 (wrap64 (x6_1 - 1)) (wrap64 (x154000_1 + 1)) (x154001_1.set ((ji28) : Int).toNat (Go.bits .or .u8 (rd x154001_1 (ji28)) ((shl .i64 (Go.bits .and .i64 (shr .i64 a1 x6_1) 1) (wrap64 (7 - (Int.tmod x154000_1 8)))) % 256)))) else (none)) else (none)) else (none)) else (none)) = some (r1, r2) := by first | (rw [hji28] at H; exact H) | (simp only [hji28] at H ⊢; exact H)
     have hji28w : (IntKind.i64.wrap (Int.tdiv x154000_1 8)) = ji28 := (i64_w _).trans hji28
     by_cases c29 : 0 ≤ (ji28)
     ·rw [if_pos c29] at H
      have c29b0 : decide (0 ≤ (ji28)) = true := decide_eq_true c29
      clear c29
      by_cases c30 : (ji28) < (x154001_1.length : Int)
      ·rw [if_pos c30] at H
       have c30b0 : decide ((ji28) < (x154001_1.length : Int)) = true := decide_eq_true c30
       clear c30
       by_cases c31 : 0 ≤ x6_1
       ·rw [if_pos c31] at H
        have c31b0 := eq_true c31
        have c31b1 : decide (0 ≤ x6_1) = true := decide_eq_true c31
        clear c31
        obtain ⟨ji32, hji32⟩ : ∃ j_ : Int, (shr .i64 a1 x6_1) = j_ := ⟨_, rfl⟩
        replace H : (if 0 ≤ (wrap64 (7 - (Int.tmod x154000_1 8))) then (impl_Bits_put.l0 k1 a1 (wrap64 (x6_1 - 1)) (wrap64 (x154000_1 + 1)) (x154001_1.set ((ji28) : Int).toNat (Go.bits .or .u8 (rd x154001_1 (ji28)) ((shl .i64 (Go.bits .and .i64 (ji32) 1) (wrap64 (7 - (Int.tmod x154000_1 8)))) % 256)))) else (none)) = some (r1, r2) := by first | (rw [hji32] at H; exact H) | (simp only [hji32] at H ⊢; exact H)
        have hji32_ : (a1 / 2 ^ min x6_1.toNat 64) = ji32 := hji32
        have hji32z : x6_1 ≤ 64 → (a1 / 2 ^ x6_1.toNat) = ji32 := shr_small hji32
        obtain ⟨ji33, hji33⟩ : ∃ j_ : Int, (wrap64 (7 - (Int.tmod x154000_1 8))) = j_ := ⟨_, rfl⟩
        replace H : (if 0 ≤ (ji33) then (impl_Bits_put.l0 k1 a1 (wrap64 (x6_1 - 1)) (wrap64 (x154000_1 + 1)) (x154001_1.set ((ji28) : Int).toNat (Go.bits .or .u8 (rd x154001_1 (ji28)) ((shl .i64 (Go.bits .and .i64 (ji32) 1) (ji33)) % 256)))) else (none)) = some (r1, r2) := by first | (rw [hji33] at H; exact H) | (simp only [hji33] at H ⊢; exact H)
        have hji33w : (IntKind.i64.wrap (7 - (Int.tmod x154000_1 8))) = ji33 := (i64_w _).trans hji33
        by_cases c34 : 0 ≤ (ji33)
        ·rw [if_pos c34] at H
         have c34b0 := eq_true c34
         have c34b1 : decide (0 ≤ (ji33)) = true := decide_eq_true c34
         clear c34
         obtain ⟨ji35, hji35⟩ : ∃ j_ : Int, (shl .i64 (Go.bits .and .i64 (ji32) 1) (ji33)) = j_ := ⟨_, rfl⟩
         replace H : (impl_Bits_put.l0 k1 a1 (wrap64 (x6_1 - 1)) (wrap64 (x154000_1 + 1)) (x154001_1.set ((ji28) : Int).toNat (Go.bits .or .u8 (rd x154001_1 (ji28)) ((ji35) % 256)))) = some (r1, r2) := by first | (rw [hji35] at H; exact H) | (simp only [hji35] at H ⊢; exact H)
         have hji35_ : (IntKind.i64.wrap ((Go.bits .and .i64 (ji32) 1) * 2 ^ min (ji33).toNat 64)) = ji35 := hji35
         have hji35z : (ji33) ≤ 64 → (IntKind.i64.wrap ((Go.bits .and .i64 (ji32) 1) * 2 ^ (ji33).toNat)) = ji35 := shl_small hji35
         have hji35y : (wrap64 ((Go.bits .and .i64 (ji32) 1) * 2 ^ min (ji33).toNat 64)) = ji35 := (i64_w _).symm.trans hji35_
         have hji35x : (ji33) ≤ 64 → (wrap64 ((Go.bits .and .i64 (ji32) 1) * 2 ^ (ji33).toNat)) = ji35 := fun h_ => (i64_w _).symm.trans (hji35z h_)
         obtain ⟨y160, hy160⟩ : ∃ y_ : List Int, y_ = (x154001_1.set ((ji28) : Int).toNat (Go.bits .or .u8 (rd x154001_1 (ji28)) ((ji35) % 256))) := ⟨_, rfl⟩
         replace H : (impl_Bits_put.l0 k1 a1 (wrap64 (x6_1 - 1)) (wrap64 (x154000_1 + 1)) y160) = some (r1, r2) := by first | (rw [hy160]; with_reducible exact H) | (have H2_ := (Option.bind_some _ _).symm.trans H; rw [hy160]; with_reducible exact H2_) | (have H2_ := (Option.bind_some _ _).symm.trans H; with_reducible exact H2_) | with_reducible exact H | (rw [hy160]; exact H) | exact H
         have Ny160 := Aside0.mk hy160
         clear hy160
         have H' := Aside0.mk H
         clear H
         have hcz37_0 := cz BK153 0 (.int .i64 x154000_1)
         have hcz37_1 := cz BK153 1 (u154001)
         have hfz37_0 := fz BK153 0
         have hfz37_1 := fz BK153 1
         try go_wp2
         replace HO_154001 := Aside0.mk (Kd.R_drew HO_154001.out)
         replace BK153 := Aside0.mk (blk_drew BK153.out)
         replace HK := Aside0.mk (Kept.drew HK.out)
         replace HB := Aside0.mk (below_drew1 HB.out)
         obtain ⟨Ao39, co39, eo39⟩ := Kd.R_slice HO_154001.out
         (first | subst eo39 | (injection eo39 with f1_ f2_ f3_; have f4_ := f1_.symm; have f5_ := f3_.symm; clear f1_ f2_ f3_; subst f4_; subst f5_))
         have p159 : 0 ≤ ((ji28) : Int) := of_decide_eq_true hE
         have q159 : (ji28) < (x154001_1.length : Int) := of_decide_eq_true hE
         obtain ⟨ad159, e159, hx159_0⟩ := Kd.at_int (Kd.R_reads' HO_154001.out).2.2 (ji28) p159 q159
         cases e159
         replace p159 := eq_true p159
         replace q159 := eq_true q159
         have p36 : 0 ≤ ((ji28) : Int) := of_decide_eq_true hE
         have q36 : ((ji28) : Int) < ((x154001_1.length : Int) : Int) := of_decide_eq_true hE
         obtain ⟨go36, co36, eo36, gb36, gl36, cl36, HG36⟩ := Kd.R_form HO_154001.out (by omega)
         (first | cases eo36 | (injection eo36 with ea_ en_ ec_; (first | subst ea_ | (injection ea_ with ea_; subst ea_)); subst ec_; clear en_))
         have GB36 := Aside0.mk gb36
         have GG36 := Aside0.mk HG36
         clear gb36 gl36 HG36
         have HMgo36 := Aside0.mk (show (P0_1_ go36 ∨ w.heap.size ≤ go36) from (HO_154001.out.1 _ rfl))
         (first | simp only [add_plain] at hx159_0 | skip)
         obtain ⟨hx36_0, hf36_0⟩ := Kd.R_celln 0 HO_154001.out ((ji28) : Int) p36 q36
         replace p36 := eq_true p36
         replace q36 := eq_true q36
         have HP40 := Kd.R_putn HO_154001.out ((ji28) : Int) (Go.bits .or .u8 (rd x154001_1 (ji28)) ((ji35) % 256))
         rw [← Ny160.out] at HP40
         have HQ40 := Aside0.mk HP40
         clear HP40
         refine start_ (n := 26) (S := fun w' => w'.cell? ⟨gb153, 0, none⟩ = some (.int .i64 x154000_1) ∧ w'.cell? ⟨gb153, 1, none⟩ = some (.slice (some ⟨go36, 0, none⟩) x154001_1.length co39) ∧ w'.cell? ⟨go36, ((ji28)).toNat, none⟩ = some (.int .u8 (rd x154001_1 (ji28)))) (ds := [25]) #[false, false, false, false, false, false, false, false, false, false, false, false, false, false, false, false, false, false, false, false, false, false, false, false, false, false] (by kernel_rfl) rfl rfl ⟨cz BK153 0 _, cz BK153 1 _, hx159_0⟩ (fun hHeld => ?_); refine with_tabW impl_Bits_put.tab5 impl_Bits_put.bits5 (fun HT_ HW_ => ?_)
         generalize wr.drew = w38 at HO_154001 BK153 HK HB GG36 HQ40 hf36_0 hx159_0 hx36_0 hHeld ⊢
         refine pureA 0 28 (bz 26 1) rfl rfl (any_of HT_.out (by kernel_rfl)) ?_
         refine pureA 1 29 (bz 26 3) rfl rfl (any_of HT_.out (by kernel_rfl)) ?_
         refine pureA 2 30 (bz 26 7) rfl rfl (any_of HT_.out (by kernel_rfl)) ?_
         refine pureA 4 32 (bz 26 23) rfl rfl (any_of HT_.out (by kernel_rfl)) ?_
         refine pureA 5 33 (bz 26 55) rfl rfl (any_of HT_.out (by kernel_rfl)) ?_
         refine pureA 6 34 (bz 26 119) rfl rfl (any_of HT_.out (by kernel_rfl)) ?_
         refine pureA 11 39 (bz 26 2167) rfl rfl (any_of HT_.out (by kernel_rfl)) ?_
         refine pureA 12 40 (bz 26 6263) rfl rfl (any_of HT_.out (by kernel_rfl)) ?_
         refine pureA 13 41 (bz 26 14455) rfl rfl (any_of HT_.out (by kernel_rfl)) ?_
         refine pureA 14 42 (bz 26 30839) rfl rfl (any_of HT_.out (by kernel_rfl)) ?_
         refine pureA 15 43 (bz 26 63607) rfl rfl (any_of HT_.out (by kernel_rfl)) ?_
         refine pureA 16 44 (bz 26 129143) rfl rfl (any_of HT_.out (by kernel_rfl)) ?_
         refine pureA 17 45 (bz 26 260215) rfl rfl (any_of HT_.out (by kernel_rfl)) ?_
         refine takeA 3 31 (bz 26 260223) rfl rfl (take_ofW HT_.out HW_.out (by kernel_rfl)) hHeld (by rintro w' ⟨s0, s1, s2⟩; go_simp; with_reducible rfl) ?_
         refine takeA 7 35 (bz 26 260351) rfl rfl (take_ofW HT_.out HW_.out (by kernel_rfl)) hHeld (by rintro w' ⟨s0, s1, s2⟩; go_simp; with_reducible rfl) ?_
         refine pureA 8 36 (bz 26 260607) rfl rfl (any_of HT_.out (by kernel_rfl)) ?_
         refine pureA 9 37 (bz 26 261119) rfl rfl (any_of HT_.out (by kernel_rfl)) ?_
         refine takeA 10 38 (bz 26 262143) rfl rfl (take_ofW HT_.out HW_.out (by kernel_rfl)) hHeld (by rintro w' ⟨s0, s1, s2⟩; go_simp; with_reducible rfl) ?_
         refine takeA 18 46 (bz 26 524287) rfl rfl (take_ofW HT_.out HW_.out (by kernel_rfl)) hHeld (by rintro w' ⟨s0, s1, s2⟩; go_simp; with_reducible rfl) ?_
         refine pureA 19 47 (bz 26 1048575) rfl rfl (any_of HT_.out (by kernel_rfl)) ?_
         refine pureA 20 48 (bz 26 2097151) rfl rfl (any_of HT_.out (by kernel_rfl)) ?_
         refine pureA 21 49 (bz 26 4194303) rfl rfl (any_of HT_.out (by kernel_rfl)) ?_
         refine pureA 22 50 (bz 26 8388607) rfl rfl (any_of HT_.out (by kernel_rfl)) ?_
         refine pureA 23 51 (bz 26 16777215) rfl rfl (any_of HT_.out (by kernel_rfl)) ?_
         refine pureA 24 52 (bz 26 33554431) rfl rfl (any_of HT_.out (by kernel_rfl)) ?_
         refine last_ (i := 25) (N := none) (bz 26 67108863) rfl rfl (one_of HT_.out (by kernel_rfl)) (by decide) (fun K hK => ?_)
         refine skip_ (w1 := ?_) (by rfl) rfl ?_ ?_
         rotate_left
         ·go_simp
          rfl
         refine hK.out _ _ ?_
         clear hK K
         refine done_ (done_of HT_.out (by kernel_rfl)) ?_
         try rw [show IntKind.u8.wrap (ji35) = (ji35) % 256 from rfl]
         have n0_ : Aside0 (Kd.R (Kd.int .u8) 5 (w38.setCell ⟨go36, ((ji28) : Int).toNat, none⟩ (.int .u8 (Go.bits .or .u8 (rd x154001_1 (ji28)) ((ji35) % 256)))) w0.heap.size (fun k_ => (P0_1_ k_ ∨ w.heap.size ≤ k_)) (.slice (some ⟨go36, 0, none⟩) x154001_1.length co39) y160) := ⟨by (with_reducible repeat (first | apply Kd.R_alloc | apply Kd.R_drewN | apply Kd.R_drew)); exact HQ40.out⟩
         have n1_ : Aside0 ((w38.setCell ⟨go36, ((ji28) : Int).toNat, none⟩ (.int .u8 (Go.bits .or .u8 (rd x154001_1 (ji28)) ((ji35) % 256)))).heap[gb153]? = some (.cells #[.int .i64 x154000_1, .slice (some ⟨go36, 0, none⟩) x154001_1.length co39] 26 (0, 0))) := ⟨by refine bU ?_; refine blk_far ?_ (by have h_ := Kd.R_ne HO_154001.out BK153.out (by decide); intro e_; exact h_ (by rw [e_]; rfl)) _; refine bU ?_; exact BK153.out⟩
         have n2_ : Aside0 (Kept w (w38.setCell ⟨go36, ((ji28) : Int).toNat, none⟩ (.int .u8 (Go.bits .or .u8 (rd x154001_1 (ji28)) ((ji35) % 256)))) (fun k_ => P0_1_ k_)) := ⟨by repeat (first | (with_reducible first | exact HK.out | apply Kept.alloc | apply Kept.drewN | apply Kept.drew | refine Kept.setCell ?_ HMgo36.out _ | refine Kept.setCell ?_ (.inl GW153.out) _) | exact HK.out)⟩
         have n3_ : Aside0 (Below w0.heap.size w0 (w38.setCell ⟨go36, ((ji28) : Int).toNat, none⟩ (.int .u8 (Go.bits .or .u8 (rd x154001_1 (ji28)) ((ji35) % 256))))) := ⟨by repeat (first | (with_reducible first | exact HB.out | apply below_alloc | apply pw_below_drewN | apply below_drew1 | refine below_set ?_ GB36.out | refine below_set ?_ GE153.out) | exact HB.out)⟩
         (try clear HO_154001)
         (try clear BK153)
         (try clear HK)
         (try clear HB)
         generalize (w38.setCell ⟨go36, ((ji28) : Int).toNat, none⟩ (.int .u8 (Go.bits .or .u8 (rd x154001_1 (ji28)) ((ji35) % 256)))) = w41 at n0_ n1_ n2_ n3_ ⊢
         have HO_154001 := n0_
         have BK153 := n1_
         have HK := n2_
         have HB := n3_
         clear n0_ n1_ n2_ n3_
         have hcz42_0 := cz BK153 0 (.int .i64 x154000_1)
         have hcz42_1 := cz BK153 1 (.slice (some ⟨go36, 0, none⟩) x154001_1.length co39)
         have hfz42_0 := fz BK153 0
         have hfz42_1 := fz BK153 1
         try go_wp2_with (first | ((with_reducible refine gate_store (t := 3) (p := 59) rfl ?_); refine store_event (t := 3) (p := 59) (v := ?vo_w43) (w1 := (w41.setCell ⟨gb153, 0, none⟩ (.int .i64 (wrap64 (x154000_1 + 1))))) ?hg ?ho ?hn ?hr ?_; (case ho => rfl); (case hg => rfl); (case hn => rfl); (case hr => first | (go_simp; done) | (go_simp; rfl) | (have hq0_ := (blk_cell BK153.out 0).trans (show _ = some _ from rfl); have hf0_ := blk_frozen BK153.out 0; first | (go_simp; done) | (go_simp; rfl))); intro w43 hw; replace HO_154001 : Aside0 (Kd.R (Kd.int .u8) 5 w43 w0.heap.size (fun k_ => (P0_1_ k_ ∨ w.heap.size ≤ k_)) (.slice (some ⟨go36, 0, none⟩) x154001_1.length co39) y160) := ⟨(by rw [hw]; exact (by (with_reducible repeat (first | apply Kd.R_alloc | apply Kd.R_drewN | apply Kd.R_drew)); exact Kd.R_mono (Kd.R_far (p := ⟨gb153, 0, none⟩) (Kd.R_types HO_154001.out BK153.out (by decide)) (fun _ hk => hk.2) (.int .i64 (wrap64 (x154000_1 + 1)))) (fun _ hk => hk.1)))⟩; replace BK153 : Aside0 (w43.heap[gb153]? = some (.cells #[.int .i64 (wrap64 (x154000_1 + 1)), .slice (some ⟨go36, 0, none⟩) x154001_1.length co39] 26 (0, 0))) := ⟨(by rw [hw]; exact (by refine bU ?_; refine blk_put (cs := #[.int .i64 x154000_1, .slice (some ⟨go36, 0, none⟩) x154001_1.length co39]) ?_ 0 _ rfl; refine bU ?_; exact BK153.out))⟩; replace HK : Aside0 (Kept w w43 (fun k_ => P0_1_ k_)) := ⟨(by rw [hw]; exact (by repeat (first | (with_reducible first | exact HK.out | apply Kept.alloc | apply Kept.drewN | apply Kept.drew | refine Kept.setCell ?_ (.inl GW153.out) _) | exact HK.out)))⟩; replace HB : Aside0 (Below w0.heap.size w0 w43) := ⟨(by rw [hw]; exact (lV1 GE153))⟩; clear hw))
         go_roundg k1
         case measure => have := HK1.out; omega
         case rel => exact ⟨(wrap64 (x6_1 - 1)), (wrap64 (x154000_1 + 1)), (y160), (.slice (some ⟨go36, 0, none⟩) x154001_1.length co39), tE, H', ⟨by have := HK1.out; omega⟩, ⟨by (with_reducible repeat (first | apply Kd.R_alloc | apply Kd.R_drewN | apply Kd.R_drew)); exact HO_154001.out⟩, ⟨by refine bU ?_; exact BK153.out⟩, ⟨by repeat (first | (with_reducible first | exact HK.out | apply Kept.alloc | apply Kept.drewN | apply Kept.drew | refine Kept.setCell ?_ (.inl GW153.out) _) | exact HK.out)⟩, ⟨by repeat (first | (with_reducible first | exact HB.out | apply below_alloc | apply pw_below_drewN | apply below_drew1 | refine below_set ?_ GE153.out) | exact HB.out)⟩⟩
        ·rw [if_neg c34] at H
         exact absurd H (by simp)
       ·rw [if_neg c31] at H
        exact absurd H (by simp)
      ·rw [if_neg c30] at H
       exact absurd H (by simp)
     ·rw [if_neg c29] at H
      exact absurd H (by simp)
   ·rw [if_neg c6] at H
    have c6b0 : decide (0 ≤ x6_1) = false := decide_eq_false c6
    clear c6
    simp only [Option.some.injEq, Prod.mk.injEq] at H
    obtain ⟨rfl, rfl⟩ := H
    go_wp2
    refine bodyPost_end (results_none rfl _ _ _) rfl ?_
    exact ⟨_, eE, (bV BK153), by (with_reducible repeat (first | apply Kd.R_alloc | apply Kd.R_drewN | apply Kd.R_drew)); exact HO_154001.out, lV1 GE153, by repeat (first | (with_reducible first | exact HK.out | apply Kept.alloc | apply Kept.drewN | apply Kept.drew | refine Kept.setCell ?_ (.inl GW153.out) _) | exact HK.out)⟩
end Go.Proofs.Ytggfmjfgfjphgaa.PFnExactPutBits
namespace Go.Proofs.Ytggfmjfgfjphgaa.PFnExactPutBits
open Go.RowKit Go.Proofs.YtggfmjfgfjphgaaW.PrintWords Go.Proofs.YtggfmjfgfjphgaaW.PrintLast Go.Proofs.YtggfmjfgfjphgaaW.PrintMore
attribute [local go_sem] max2_int min2_int max_two min_two max_three min_three max_four min_four   -- for this text's walks alone
set_option linter.unusedVariables false
set_option linter.unusedSimpArgs false
def impl_PutBits.j0 : Nat → Int → Int → Bool → Int → List Int → Option (Int × List Int × Bool)
 | 0, _, _, _, _, _ => none
 | k + 1, x1, x2, x31, x162000, x162001 => if x31 = true then (some (0, ([] : List Int), false)) else ((slices_Clone_byte_byte.f x162001).bind fun t166 => ((impl_Bits_put.f k x162000 t166 x1 x2).bind fun bt170 => (some (bt170.1, bt170.2, true))))
def impl_PutBits.f (k : Nat) (a0_0 : Int) (l0_1 : List Int) (a1 : Int) (a2 : Int) : Option (Int × List Int × Bool) := (impl_GoodBits.f k a0_0 l0_1).bind fun t163 => (if t163 = true then ((impl_isMany.f a2).bind fun t164 => (if t164 = true then (if 0 ≤ a2 then ((impl_inRange.f a1 0 (wrap64 ((shl .i64 1 a2) - 1))).bind fun t165 => (if t165 = true then (impl_PutBits.j0 k a1 a2 (decide ((wrap64 (a0_0 + a2)) > 4000)) a0_0 l0_1) else (impl_PutBits.j0 k a1 a2 true a0_0 l0_1))) else (none)) else (impl_PutBits.j0 k a1 a2 true a0_0 l0_1))) else (impl_PutBits.j0 k a1 a2 true a0_0 l0_1))
theorem impl_PutBits.mono_l : ∀ k, (∀ y0 y1 y2 y3 y4, LeO (impl_PutBits.j0 k y0 y1 y2 y3 y4) (impl_PutBits.j0 (k + 1) y0 y1 y2 y3 y4))
 | 0 => fun _ _ _ _ _ r h => by simp [impl_PutBits.j0] at h
 | k + 1 => by
  have ih0 := impl_PutBits.mono_l k
  ·intro y0 y1 y2 y3 y4
   unfold impl_PutBits.j0
   repeat' first
   | (with_reducible exact ih0 _ _ _ _ _)
   | (with_reducible exact impl_Bits_put.mono _ _ _ _ _)
   | (with_reducible exact impl_GoodBits.mono _ _ _)
   | (with_reducible first | exact LeO.refl _ | exact LeO.none _ | refine LeO.ite ?_ ?_ | refine LeO.bind ?_ (fun _ => ?_))
   | exact ih0 _ _ _ _ _
   | exact impl_Bits_put.mono _ _ _ _ _
   | exact impl_GoodBits.mono _ _ _ | exact LeO.none _ | refine LeO.ite ?_ ?_ | refine LeO.bind ?_ (fun _ => ?_)
theorem impl_PutBits.mono : ∀ a0 a1 a2 a3 k, LeO (impl_PutBits.f k a0 a1 a2 a3) (impl_PutBits.f (k + 1) a0 a1 a2 a3) := by
 intro a0 a1 a2 a3 k
 have ih0 := impl_PutBits.mono_l k
 unfold impl_PutBits.f
 repeat' first
   | (with_reducible exact ih0 _ _ _ _ _)
   | (with_reducible exact impl_Bits_put.mono _ _ _ _ _)
   | (with_reducible exact impl_GoodBits.mono _ _ _)
   | (with_reducible first | exact LeO.refl _ | exact LeO.none _ | refine LeO.ite ?_ ?_ | refine LeO.bind ?_ (fun _ => ?_))
   | exact ih0 _ _ _ _ _
   | exact impl_Bits_put.mono _ _ _ _ _
   | exact impl_GoodBits.mono _ _ _ | exact LeO.none _ | refine LeO.ite ?_ ?_ | refine LeO.bind ?_ (fun _ => ?_)
def impl_PutBits.T3 : Bool × List (List Nat × List Nat) := (true, [([], []), ([0], [0]), ([], []), ([2], [2]), ([3], [3]), ([1, 4], [1, 4]), ([], []), ([6, 5, 4, 0, 1, 2, 3, 4, 5, 6], [5, 6])])
def impl_PutBits.B3 : List Nat := [0, 1, 0, 4, 12, 31, 0, 127]
theorem impl_PutBits.tab3 : rtab .any (opsOf Try.f7 3) = impl_PutBits.T3 := by kernel_rfl
theorem impl_PutBits.bits3 : waitsOk impl_PutBits.T3.2 impl_PutBits.B3 = true := by kernel_rfl
set_option maxHeartbeats 8000000 in
set_option maxRecDepth 100000 in
theorem impl_PutBits.calls (k : Nat) (a0_0 : Int) (A0_1 : Option Addr) (c0_1 : Nat) (l0_1 : List Int) (a1 : Int) (a2 : Int) (r1 : Int) (r2 : List Int) (r3 : Bool) (w : World) (hr0_1 : Kd.C (Kd.int .u8) w A0_1 l0_1.length l0_1) (hc0_1 : l0_1.length ≤ c0_1) (h : impl_PutBits.f k a0_0 l0_1 a1 a2 = some (r1, r2, r3)) :
  Calls Try.prog 7 #[.agg #[.int .i64 a0_0, .slice A0_1 l0_1.length c0_1], .int .i64 a1, .int .i64 a2] w fun e w' => ∃ v1_ : Value, e = .returned (.tuple #[.agg #[.int .i64 r1, v1_], .bool r3]) ∧ Kd.R (Kd.int .u8) 5 w' w.heap.size (fun _ => True) v1_ r2 ∧ Below w.heap.size w w' := by
 have hu26 := Try.underlying26
 have HR0_1 := Aside0.mk hr0_1
 have HC0_1 := Aside0.mk hc0_1
 clear hr0_1 hc0_1
 have HB := Aside0.mk (Below.refl w.heap.size w)
 have H : ((impl_GoodBits.f k a0_0 l0_1).bind fun t163 => (if t163 = true then ((impl_isMany.f a2).bind fun t164 => (if t164 = true then (if 0 ≤ a2 then ((impl_inRange.f a1 0 (wrap64 ((shl .i64 1 a2) - 1))).bind fun t165 => (if t165 = true then (impl_PutBits.j0 k a1 a2 (decide ((wrap64 (a0_0 + a2)) > 4000)) a0_0 l0_1) else (impl_PutBits.j0 k a1 a2 true a0_0 l0_1))) else (none)) else (impl_PutBits.j0 k a1 a2 true a0_0 l0_1))) else (impl_PutBits.j0 k a1 a2 true a0_0 l0_1))) = some (r1, r2, r3) := h
 clear h
 have HC4 := Aside0.mk H
 clear H
 go_enter Try.func7, Try.ntmps7
 go_upto_region 1 with (first | ((with_reducible refine gate_dst (N := 3) rfl ?_); refine box_event rfl (N := 3) rfl (cs := #[.int .i64 a0_0, .slice A0_1 l0_1.length c0_1]) (t := 26) sE ?_; intro gb161 hg w5 hbox hb; have BK161 := Aside0.mk hbox; have GW161 := gS w hg (lU); have GE161 := gS w hg (lU); replace HB := bH (lU) hb; clear hb hbox hg) | ((with_reducible refine gate_dst (N := 6) rfl ?_); refine box_event rfl (N := 6) rfl (cs := #[.int .i64 0, .slice none 0 0]) (t := 26) sE ?_; intro gb162 hg w6 hbox hb; have BK162 := Aside0.mk hbox; have GW162 := gS w hg (lV1 GE161); have GE162 := gS w hg (lV1 GE161); replace HB := bH (lV1 GE161) hb; have NB161_162 := nL hg (bV BK161); have NB162_161 := nG hg (bV BK161); replace BK161 := bB (bV BK161) hb; clear hb hbox hg))
 (try simp only [Act.put, List.setIfInBounds_toArray, List.set_cons_zero, List.set_cons_succ])
 go_cut [31] (fun v31 wc => ∃ (kq : Nat) (x31_3 : Bool), v31 = .bool x31_3 ∧ Aside0 (impl_PutBits.j0 kq a1 a2 x31_3 a0_0 l0_1 = some (r1, r2, r3)) ∧ Aside0 (kq ≤ k) ∧ Aside0 (wc.heap[gb161]? = some (.cells #[.int .i64 a0_0, (.slice A0_1 l0_1.length c0_1)] 26 (0, 0))) ∧ Aside0 (wc.heap[gb162]? = some (.cells #[.int .i64 0, (.slice none 0 0)] 26 (0, 0))) ∧ Aside0 (Below w.heap.size w wc))
 case first =>
  have H := HC4.out
  clear HC4
  replace H := Option.bind_eq_some_iff.mp H
  obtain ⟨t163, A70, H⟩ := H
  replace H : (if t163 = true then ((impl_isMany.f a2).bind fun t164 => (if t164 = true then (if 0 ≤ a2 then ((impl_inRange.f a1 0 (wrap64 ((shl .i64 1 a2) - 1))).bind fun t165 => (if t165 = true then (impl_PutBits.j0 k a1 a2 (decide ((wrap64 (a0_0 + a2)) > 4000)) a0_0 l0_1) else (impl_PutBits.j0 k a1 a2 true a0_0 l0_1))) else (none)) else (impl_PutBits.j0 k a1 a2 true a0_0 l0_1))) else (impl_PutBits.j0 k a1 a2 true a0_0 l0_1)) = some (r1, r2, r3) := H
  have A7 := Aside0.mk A70
  clear A70
  by_cases c8 : t163 = true
  ·subst c8
   have H1 : ((impl_isMany.f a2).bind fun t164 => (if t164 = true then (if 0 ≤ a2 then ((impl_inRange.f a1 0 (wrap64 ((shl .i64 1 a2) - 1))).bind fun t165 => (if t165 = true then (impl_PutBits.j0 k a1 a2 (decide ((wrap64 (a0_0 + a2)) > 4000)) a0_0 l0_1) else (impl_PutBits.j0 k a1 a2 true a0_0 l0_1))) else (none)) else (impl_PutBits.j0 k a1 a2 true a0_0 l0_1))) = some (r1, r2, r3) := by rw [if_pos rfl] at H; exact H
   clear H
   have H := H1
   clear H1
   replace H := Option.bind_eq_some_iff.mp H
   obtain ⟨t164, A90, H⟩ := H
   replace H : (if t164 = true then (if 0 ≤ a2 then ((impl_inRange.f a1 0 (wrap64 ((shl .i64 1 a2) - 1))).bind fun t165 => (if t165 = true then (impl_PutBits.j0 k a1 a2 (decide ((wrap64 (a0_0 + a2)) > 4000)) a0_0 l0_1) else (impl_PutBits.j0 k a1 a2 true a0_0 l0_1))) else (none)) else (impl_PutBits.j0 k a1 a2 true a0_0 l0_1)) = some (r1, r2, r3) := H
   have A9 := Aside0.mk A90
   clear A90
   by_cases c10 : t164 = true
   ·subst c10
    have H1 : (if 0 ≤ a2 then ((impl_inRange.f a1 0 (wrap64 ((shl .i64 1 a2) - 1))).bind fun t165 => (if t165 = true then (impl_PutBits.j0 k a1 a2 (decide ((wrap64 (a0_0 + a2)) > 4000)) a0_0 l0_1) else (impl_PutBits.j0 k a1 a2 true a0_0 l0_1))) else (none)) = some (r1, r2, r3) := by rw [if_pos rfl] at H; exact H
    clear H
    have H := H1
    clear H1
    by_cases c11 : 0 ≤ a2
    ·rw [if_pos c11] at H
     have c11b0 := eq_true c11
     have c11b1 : decide (0 ≤ a2) = true := decide_eq_true c11
     clear c11
     obtain ⟨ji12, hji12⟩ : ∃ j_ : Int, (shl .i64 1 a2) = j_ := ⟨_, rfl⟩
     replace H : ((impl_inRange.f a1 0 (wrap64 ((ji12) - 1))).bind fun t165 => (if t165 = true then (impl_PutBits.j0 k a1 a2 (decide ((wrap64 (a0_0 + a2)) > 4000)) a0_0 l0_1) else (impl_PutBits.j0 k a1 a2 true a0_0 l0_1))) = some (r1, r2, r3) := by first | (rw [hji12] at H; exact H) | (simp only [hji12] at H ⊢; exact H)
     (try rw [hji12] at A7)
     (try rw [hji12] at A9)
     have hji12_ : (IntKind.i64.wrap (1 * 2 ^ min a2.toNat 64)) = ji12 := hji12
     have hji12z : a2 ≤ 64 → (IntKind.i64.wrap (1 * 2 ^ a2.toNat)) = ji12 := shl_small hji12
     have hji12u : (IntKind.i64.wrap (2 ^ min a2.toNat 64)) = ji12 := by have h_ := hji12_; rw [Int.one_mul] at h_; exact h_
     have hji12v : a2 ≤ 64 → (IntKind.i64.wrap (2 ^ a2.toNat)) = ji12 := fun hle_ => by have h_ := hji12z hle_; rw [Int.one_mul] at h_; exact h_
     have hji12y : (wrap64 (1 * 2 ^ min a2.toNat 64)) = ji12 := (i64_w _).symm.trans hji12_
     have hji12x : a2 ≤ 64 → (wrap64 (1 * 2 ^ a2.toNat)) = ji12 := fun h_ => (i64_w _).symm.trans (hji12z h_)
     replace H := Option.bind_eq_some_iff.mp H
     obtain ⟨t165, A130, H⟩ := H
     replace H : (if t165 = true then (impl_PutBits.j0 k a1 a2 (decide ((wrap64 (a0_0 + a2)) > 4000)) a0_0 l0_1) else (impl_PutBits.j0 k a1 a2 true a0_0 l0_1)) = some (r1, r2, r3) := H
     have A13 := Aside0.mk A130
     clear A130
     by_cases c14 : t165 = true
     ·subst c14
      have H1 : (impl_PutBits.j0 k a1 a2 (decide ((wrap64 (a0_0 + a2)) > 4000)) a0_0 l0_1) = some (r1, r2, r3) := by rw [if_pos rfl] at H; exact H
      clear H
      have H := H1
      clear H1
      have H' := Aside0.mk H
      clear H
      have hnb15 := NB161_162.out
      have hnc15 := NB162_161.out
      have hcz16_0 := cz BK161 0 (.int .i64 a0_0)
      have hcz16_1 := cz BK161 1 (.slice A0_1 l0_1.length c0_1)
      have hfz16_0 := fz BK161 0
      have hfz16_1 := fz BK161 1
      go_wp2_with (first | ((with_reducible refine gate_callee (f := 17) rfl ?_); refine goesL_ (some 10) rfl rfl Try.func17 (by kernel_rfl) rfl #[.agg #[.int .i64 a0_0, .slice A0_1 l0_1.length c0_1]] rfl aE ?_; (with_reducible refine (impl_GoodBits.calls k a0_0 _ _ l0_1 true _ ?side1 ?side2 A7.out).mono ?_); (case side1 => exact cU (Kd.C_below HR0_1.out HB.out)); (case side2 => exact HC0_1.out); rintro e w17 ⟨rfl, hb⟩; refine ⟨_, rfl, ?_⟩; replace BK161 := bB (bV BK161) hb; replace BK162 := bB (bV BK162) hb; replace HB := bH (lV2 GE161 GE162) hb; (try clear hb)) | (go_at_call 18; (with_reducible refine (impl_isMany.calls a2 true _ A9.out).mono ?_); rintro e w' ⟨rfl, ⟨nd, rfl⟩⟩) | (go_at_call 19; (with_reducible refine (impl_inRange.calls a1 0 (wrap64 ((ji12) - 1)) true _ A13.out).mono ?_); rintro e w' ⟨rfl, ⟨nd, rfl⟩⟩; have hcz18_0 := cz BK161 0 (.int .i64 a0_0); have hcz18_1 := cz BK161 1 (.slice A0_1 l0_1.length c0_1); have hfz18_0 := fz BK161 0; have hfz18_1 := fz BK161 1))
      go_meet
      case rel => exact ⟨_, (decide ((wrap64 (a0_0 + a2)) > 4000)), tE, H', ⟨by first | omega | exact Nat.le_refl _⟩, ⟨by refine bU ?_; exact BK161.out⟩, ⟨by refine bU ?_; exact BK162.out⟩, ⟨by repeat (first | (with_reducible first | exact HB.out | apply below_alloc | apply pw_below_drewN | apply below_drew1 | refine below_set ?_ GE161.out | refine below_set ?_ GE162.out) | exact HB.out)⟩⟩
     ·replace c14 := Bool.eq_false_iff.mpr c14
      subst c14
      have H1 : (impl_PutBits.j0 k a1 a2 true a0_0 l0_1) = some (r1, r2, r3) := by rw [if_neg (show ¬ (false = true) by decide)] at H; exact H
      clear H
      have H := H1
      clear H1
      have H' := Aside0.mk H
      clear H
      have hnb19 := NB161_162.out
      have hnc19 := NB162_161.out
      have hcz20_0 := cz BK161 0 (.int .i64 a0_0)
      have hcz20_1 := cz BK161 1 (.slice A0_1 l0_1.length c0_1)
      have hfz20_0 := fz BK161 0
      have hfz20_1 := fz BK161 1
      go_wp2_with (first | ((with_reducible refine gate_callee (f := 17) rfl ?_); refine goesL_ (some 10) rfl rfl Try.func17 (by kernel_rfl) rfl #[.agg #[.int .i64 a0_0, .slice A0_1 l0_1.length c0_1]] rfl aE ?_; (with_reducible refine (impl_GoodBits.calls k a0_0 _ _ l0_1 true _ ?side1 ?side2 A7.out).mono ?_); (case side1 => exact cU (Kd.C_below HR0_1.out HB.out)); (case side2 => exact HC0_1.out); rintro e w21 ⟨rfl, hb⟩; refine ⟨_, rfl, ?_⟩; replace BK161 := bB (bV BK161) hb; replace BK162 := bB (bV BK162) hb; replace HB := bH (lV2 GE161 GE162) hb; (try clear hb)) | (go_at_call 18; (with_reducible refine (impl_isMany.calls a2 true _ A9.out).mono ?_); rintro e w' ⟨rfl, ⟨nd, rfl⟩⟩) | (go_at_call 19; (with_reducible refine (impl_inRange.calls a1 0 (wrap64 ((ji12) - 1)) false _ A13.out).mono ?_); rintro e w' ⟨rfl, ⟨nd, rfl⟩⟩))
      go_meet
      case rel => exact ⟨_, (true), tE, H', ⟨by first | omega | exact Nat.le_refl _⟩, ⟨by refine bU ?_; exact BK161.out⟩, ⟨by refine bU ?_; exact BK162.out⟩, ⟨by repeat (first | (with_reducible first | exact HB.out | apply below_alloc | apply pw_below_drewN | apply below_drew1 | refine below_set ?_ GE161.out | refine below_set ?_ GE162.out) | exact HB.out)⟩⟩
    ·rw [if_neg c11] at H
     exact absurd H (by simp)
   ·replace c10 := Bool.eq_false_iff.mpr c10
    subst c10
    have H1 : (impl_PutBits.j0 k a1 a2 true a0_0 l0_1) = some (r1, r2, r3) := by rw [if_neg (show ¬ (false = true) by decide)] at H; exact H
    clear H
    have H := H1
    clear H1
    have H' := Aside0.mk H
    clear H
    have hnb22 := NB161_162.out
    have hnc22 := NB162_161.out
    have hcz23_0 := cz BK161 0 (.int .i64 a0_0)
    have hcz23_1 := cz BK161 1 (.slice A0_1 l0_1.length c0_1)
    have hfz23_0 := fz BK161 0
    have hfz23_1 := fz BK161 1
    go_wp2_with (first | ((with_reducible refine gate_callee (f := 17) rfl ?_); refine goesL_ (some 10) rfl rfl Try.func17 (by kernel_rfl) rfl #[.agg #[.int .i64 a0_0, .slice A0_1 l0_1.length c0_1]] rfl aE ?_; (with_reducible refine (impl_GoodBits.calls k a0_0 _ _ l0_1 true _ ?side1 ?side2 A7.out).mono ?_); (case side1 => exact cU (Kd.C_below HR0_1.out HB.out)); (case side2 => exact HC0_1.out); rintro e w24 ⟨rfl, hb⟩; refine ⟨_, rfl, ?_⟩; replace BK161 := bB (bV BK161) hb; replace BK162 := bB (bV BK162) hb; replace HB := bH (lV2 GE161 GE162) hb; (try clear hb)) | (go_at_call 18; (with_reducible refine (impl_isMany.calls a2 false _ A9.out).mono ?_); rintro e w' ⟨rfl, ⟨nd, rfl⟩⟩))
    go_meet
    case rel => exact ⟨_, (true), tE, H', ⟨by first | omega | exact Nat.le_refl _⟩, ⟨by refine bU ?_; exact BK161.out⟩, ⟨by refine bU ?_; exact BK162.out⟩, ⟨by repeat (first | (with_reducible first | exact HB.out | apply below_alloc | apply pw_below_drewN | apply below_drew1 | refine below_set ?_ GE161.out | refine below_set ?_ GE162.out) | exact HB.out)⟩⟩
  ·replace c8 := Bool.eq_false_iff.mpr c8
   subst c8
   have H1 : (impl_PutBits.j0 k a1 a2 true a0_0 l0_1) = some (r1, r2, r3) := by rw [if_neg (show ¬ (false = true) by decide)] at H; exact H
   clear H
   have H := H1
   clear H1
   have H' := Aside0.mk H
   clear H
   have hnb25 := NB161_162.out
   have hnc25 := NB162_161.out
   have hcz26_0 := cz BK161 0 (.int .i64 a0_0)
   have hcz26_1 := cz BK161 1 (.slice A0_1 l0_1.length c0_1)
   have hfz26_0 := fz BK161 0
   have hfz26_1 := fz BK161 1
   go_wp2_with (first | ((with_reducible refine gate_callee (f := 17) rfl ?_); refine goesL_ (some 10) rfl rfl Try.func17 (by kernel_rfl) rfl #[.agg #[.int .i64 a0_0, .slice A0_1 l0_1.length c0_1]] rfl aE ?_; (with_reducible refine (impl_GoodBits.calls k a0_0 _ _ l0_1 false _ ?side1 ?side2 A7.out).mono ?_); (case side1 => exact cU (Kd.C_below HR0_1.out HB.out)); (case side2 => exact HC0_1.out); rintro e w27 ⟨rfl, hb⟩; refine ⟨_, rfl, ?_⟩; replace BK161 := bB (bV BK161) hb; replace BK162 := bB (bV BK162) hb; replace HB := bH (lV2 GE161 GE162) hb; (try clear hb)))
   go_meet
   case rel => exact ⟨_, (true), tE, H', ⟨by first | omega | exact Nat.le_refl _⟩, ⟨by refine bU ?_; exact BK161.out⟩, ⟨by refine bU ?_; exact BK162.out⟩, ⟨by repeat (first | (with_reducible first | exact HB.out | apply below_alloc | apply pw_below_drewN | apply below_drew1 | refine below_set ?_ GE161.out | refine below_set ?_ GE162.out) | exact HB.out)⟩⟩
 case rest =>
  clear HC4
  try clear c1
  try clear c2
  try clear p2
  try clear p6
  try clear c7
  try clear c8
  try clear c10
  try clear c11
  try clear c11b0
  try clear c11b1
  try clear c14
  try clear c15
  try clear c17
  try clear c19
  try clear c22
  try clear c25
  try clear hcz16_0
  try clear hcz16_1
  try clear hcz18_0
  try clear hcz18_1
  try clear hcz20_0
  try clear hcz20_1
  try clear hcz23_0
  try clear hcz23_1
  try clear hcz26_0
  try clear hcz26_1
  try clear hfz16_0
  try clear hfz16_1
  try clear hfz18_0
  try clear hfz18_1
  try clear hfz20_0
  try clear hfz20_1
  try clear hfz23_0
  try clear hfz23_1
  try clear hfz26_0
  try clear hfz26_1
  obtain ⟨kq, x31_3, rfl, HA, HJ3, BK161, BK162, HB⟩ := hcut
  cases kq with
  | zero => exact absurd HA.out (by simp [impl_PutBits.j0])
  | succ kj3 =>
   have H := HA.out
   clear HA
   simp only [impl_PutBits.j0] at H
   by_cases c28 : x31_3 = true
   ·subst c28
    have H1 : (some (0, ([] : List Int), false)) = some (r1, r2, r3) := by rw [if_pos rfl] at H; exact H
    clear H
    have H := H1
    clear H1
    simp only [Option.some.injEq, Prod.mk.injEq] at H
    obtain ⟨rfl, rfl, rfl⟩ := H
    have hnb29 := NB162_161.out
    have hnc29 := NB161_162.out
    have hcz30_0 := cz BK162 0 (.int .i64 0)
    have hcz30_1 := cz BK162 1 (.slice none 0 0)
    have hfz30_0 := fz BK162 0
    have hfz30_1 := fz BK162 1
    go_wp2_with (first | ((with_reducible refine gate_store (t := 26) (p := 6) rfl ?_); refine store_event (t := 26) (p := 6) (v := ?vo_w31) (w1 := ((wc.setCell ⟨gb162, 0, none⟩ (.int .i64 0)).setCell ⟨gb162, 1, none⟩ (.slice none 0 0))) ?hg ?ho ?hn ?hr ?_; (case ho => rfl); (case hg => rfl); (case hn => rfl); (case hr => first | (go_simp; done) | (go_simp; rfl) | (have hq0_ := (blk_cell BK162.out 0).trans (show _ = some _ from rfl); have hf0_ := blk_frozen BK162.out 0; have hq1_ := (blk_cell BK162.out 1).trans (show _ = some _ from rfl); have hf1_ := blk_frozen BK162.out 1; first | (go_simp; done) | (go_simp; rfl))); intro w31 hw; replace BK161 : Aside0 (w31.heap[gb161]? = some (.cells #[.int .i64 a0_0, .slice A0_1 l0_1.length c0_1] 26 (0, 0))) := ⟨(by rw [hw]; exact (bG NB161_162 BK161))⟩; replace BK162 : Aside0 (w31.heap[gb162]? = some (.cells #[.int .i64 0, .slice none 0 0] 26 (0, 0))) := ⟨(by rw [hw]; exact (by refine bU ?_; refine blk_put (cs := #[.int .i64 0, .slice none 0 0]) ?_ 1 _ rfl; refine bU ?_; refine blk_put (cs := #[.int .i64 0, .slice none 0 0]) ?_ 0 _ rfl; refine bU ?_; exact BK162.out))⟩; replace HB : Aside0 (Below w.heap.size w w31) := ⟨(by rw [hw]; exact (lV2 GE161 GE162))⟩; clear hw))
    refine bodyPost_ret (results_ct rfl _ _ gb162 26 #[.int .i64 0, .slice none 0 0] (0, 0) _ rfl (bV BK162) Try.underlying26 rfl (by kernel_rfl)) rfl ?_
    exact ⟨_, eE, by first | exact Kd.R_nil _ _ _ _ _ | exact Kd.N_nil _ _ _ _ _ | exact Kd.V_nil _ _ _ _ _ | exact Kd.Q_nil _ _ _ _ _ | exact Kd.S_nil _ _ _ _ _, lV2 GE161 GE162⟩
   ·replace c28 := Bool.eq_false_iff.mpr c28
    subst c28
    have H1 : ((slices_Clone_byte_byte.f l0_1).bind fun t166 => ((impl_Bits_put.f kj3 a0_0 t166 a1 a2).bind fun bt170 => (some (bt170.1, bt170.2, true)))) = some (r1, r2, r3) := by rw [if_neg (show ¬ (false = true) by decide)] at H; exact H
    clear H
    have H := H1
    clear H1
    replace H := Option.bind_eq_some_iff.mp H
    obtain ⟨t166, A320, H⟩ := H
    replace H : ((impl_Bits_put.f kj3 a0_0 t166 a1 a2).bind fun bt170 => (some (bt170.1, bt170.2, true))) = some (r1, r2, r3) := H
    have A32 := Aside0.mk A320
    clear A320
    replace H := Option.bind_eq_some_iff.mp H
    obtain ⟨⟨t170, t171⟩, A330, H⟩ := H
    replace H : (some (t170, t171, true)) = some (r1, r2, r3) := H
    have A33 := Aside0.mk A330
    clear A330
    simp only [Option.some.injEq, Prod.mk.injEq] at H
    obtain ⟨rfl, rfl, rfl⟩ := H
    try go_wp2
    replace BK161 := Aside0.mk (blk_drew BK161.out)
    replace BK162 := Aside0.mk (blk_drew BK162.out)
    replace HB := Aside0.mk (below_drew1 HB.out)
    refine start_ (n := 8) (S := fun w' => w'.cell? ⟨gb161, 0, none⟩ = some (.int .i64 a0_0) ∧ w'.cell? ⟨gb161, 1, none⟩ = some (.slice A0_1 l0_1.length c0_1)) (ds := []) #[false, false, false, false, false, false, false, false] (by kernel_rfl) rfl rfl ⟨cz BK161 0 _, cz BK161 1 _⟩ (fun hHeld => ?_); refine with_tabW impl_PutBits.tab3 impl_PutBits.bits3 (fun HT_ HW_ => ?_)
    generalize wc.drew = w34 at BK161 BK162 HB hHeld ⊢
    refine pureA 0 33 (bz 8 1) rfl rfl (any_of HT_.out (by kernel_rfl)) ?_
    refine pureA 2 35 (bz 8 5) rfl rfl (any_of HT_.out (by kernel_rfl)) ?_
    refine takeA 1 34 (bz 8 7) rfl rfl (take_ofW HT_.out HW_.out (by kernel_rfl)) hHeld (by rintro w' ⟨s0, s1⟩; go_simp; with_reducible rfl) ?_
    refine takeA 3 36 (bz 8 15) rfl rfl (take_ofW HT_.out HW_.out (by kernel_rfl)) hHeld (by rintro w' ⟨s0, s1⟩; go_simp; with_reducible rfl) ?_
    refine join_ (σ := Value × Nat) 1 #[true, true, true, true, true, true, true, false] (fun s_ => [(37, s_.1), (8, .pointer (some ⟨s_.2, 0, none⟩)), (38, .agg #[.int .i64 a0_0, s_.1])]) (fun s_ w' => (w'.cell? ⟨gb161, 0, none⟩ = some (.int .i64 a0_0) ∧ w'.cell? ⟨gb161, 1, none⟩ = some (.slice A0_1 l0_1.length c0_1)) ∧ (Kd.R (Kd.int .u8) 5 w' w.heap.size (fun _ => True) s_.1 t166) ∧ (w'.heap[gb161]? = some (.cells #[.int .i64 a0_0, .slice A0_1 l0_1.length c0_1] 26 (0, 0))) ∧ (w'.heap[gb162]? = some (.cells #[.int .i64 0, .slice none 0 0] 26 (0, 0))) ∧ (w'.heap[s_.2]? = some (.cells #[.int .i64 0, .slice none 0 0] 26 (0, 0))) ∧ (w.heap.size ≤ s_.2) ∧ (w.heap.size ≤ s_.2) ∧ (gb161 ≠ s_.2) ∧ (s_.2 ≠ gb161) ∧ (gb162 ≠ s_.2) ∧ (s_.2 ≠ gb162) ∧ (Below w.heap.size w w')) ?_ ?_
    rotate_left
    ·intro hCont
     refine two_ (i := 4) (j := 6) (Ni := some 37) (Nj := some 8) #[true, true, true, true, true, false, false, false] #[true, true, true, true, false, false, true, false] rfl rfl rfl rfl (two_of HT_.out (by kernel_rfl)) (by decide) (by decide) (fun K hK => ?_) (fun K hK => ?_)
     ·skip
      refine goes_ Try.func20 (by kernel_rfl) rfl #[.slice A0_1 l0_1.length c0_1] (by rfl) rfl rfl aE ?_
      with_reducible refine (slices_Clone_byte_byte.calls _ _ l0_1 t166 _ ?side1 ?side2 A32.out).mono ?_
      (case side1 => exact cU (Kd.C_below HR0_1.out HB.out))
      (case side2 => exact HC0_1.out)
      rintro e w35 ⟨v167, rfl, ho0, hb⟩
      refine ⟨_, rfl, ?_⟩
      have HO168 := Aside0.mk (Kd.R_lower ho0 (below_size (lV2 GE161 GE162)))
      replace BK161 := bB (bV BK161) hb
      replace BK162 := bB (bV BK162) hb
      replace HB := bH (lV2 GE161 GE162) hb
      (try clear hb)
      (try clear hb2)
      (try clear hk)
      (try clear hi)
      (try clear ho0)
      obtain ⟨Ao36, co36, eo36⟩ := Kd.R_slice HO168.out
      (first | subst eo36 | (injection eo36 with f1_ f2_ f3_; have f4_ := f1_.symm; have f5_ := f3_.symm; clear f1_ f2_ f3_; subst f4_; subst f5_))
      refine hK.out _ _ ⟨cz BK161 0 _, cz BK161 1 _⟩ (fun hHeld => ?_)
      clear hK K
      refine norm_ (a' := ?_) ?_ ?_
      rotate_left
      ·show Act.put _ (some 37) _ = _
       simp only [Act.put, List.setIfInBounds_toArray, List.set_cons_zero, List.set_cons_succ, i64_w, i32_w]
       rfl
      refine pureA 5 38 (bz 8 63) rfl rfl (any_of HT_.out (by kernel_rfl)) ?_
      refine one_ (i := 6) (N := some 8) (bz 8 127) rfl rfl (one_of HT_.out (by kernel_rfl)) (by decide) (fun K hK => ?_)
      refine box_step ?hg (N := 8) ?hd (cs := #[.int .i64 0, .slice none 0 0]) (t := 26) ?hr ?_; (case hd => rfl); (case hg => rfl); (case hr => exact sE)
      intro gb169 hg w37 hbox hb
      replace HO168 := Aside0.mk (Kd.R_below (rU HO168.out) hb)
      have BK169 := Aside0.mk hbox
      have GW169 := gS w hg (lV2 GE161 GE162)
      have GE169 := gS w hg (lV2 GE161 GE162)
      replace HB := bH (lV2 GE161 GE162) hb
      have NB161_169 := nL hg (bV BK161)
      have NB169_161 := nG hg (bV BK161)
      replace BK161 := bB (bV BK161) hb
      have NB162_169 := nL hg (bV BK162)
      have NB169_162 := nG hg (bV BK162)
      replace BK162 := bB (bV BK162) hb
      clear hb hbox hg
      refine hK.out _ _ ⟨cz BK161 0 _, cz BK161 1 _⟩ (fun hHeld => ?_)
      clear hK K
      refine norm_ (a' := ?_) ?_ ?_
      rotate_left
      ·show Act.put _ (some 8) _ = _
       simp only [Act.put, List.setIfInBounds_toArray, List.set_cons_zero, List.set_cons_succ, i64_w, i32_w]
       rfl
      exact norm_ (by simp only [putAll, Act.put, List.setIfInBounds_toArray, List.set_cons_zero, List.set_cons_succ]) (hCont (.slice Ao36 t166.length co36, gb169) _ ⟨hHeld, (rU HO168.out), (bV BK161), (bV BK162), (bV BK169), GW169.out, GE169.out, NB161_169.out, NB169_161.out, NB162_169.out, NB169_162.out, (lV3 GE161 GE162 GE169)⟩)
     ·skip
      refine box_step ?hg (N := 8) ?hd (cs := #[.int .i64 0, .slice none 0 0]) (t := 26) ?hr ?_; (case hd => rfl); (case hg => rfl); (case hr => exact sE)
      intro gb169 hg w35 hbox hb
      have BK169 := Aside0.mk hbox
      have GW169 := gS w hg (lV2 GE161 GE162)
      have GE169 := gS w hg (lV2 GE161 GE162)
      replace HB := bH (lV2 GE161 GE162) hb
      have NB161_169 := nL hg (bV BK161)
      have NB169_161 := nG hg (bV BK161)
      replace BK161 := bB (bV BK161) hb
      have NB162_169 := nL hg (bV BK162)
      have NB169_162 := nG hg (bV BK162)
      replace BK162 := bB (bV BK162) hb
      clear hb hbox hg
      refine hK.out _ _ ⟨cz BK161 0 _, cz BK161 1 _⟩ (fun hHeld => ?_)
      clear hK K
      refine norm_ (a' := ?_) ?_ ?_
      rotate_left
      ·show Act.put _ (some 8) _ = _
       simp only [Act.put, List.setIfInBounds_toArray, List.set_cons_zero, List.set_cons_succ, i64_w, i32_w]
       rfl
      refine one_ (i := 4) (N := some 37) (bz 8 95) rfl rfl (one_of HT_.out (by kernel_rfl)) (by decide) (fun K hK => ?_)
      refine goes_ Try.func20 (by kernel_rfl) rfl #[.slice A0_1 l0_1.length c0_1] (by rfl) rfl rfl aE ?_
      with_reducible refine (slices_Clone_byte_byte.calls _ _ l0_1 t166 _ ?side1 ?side2 A32.out).mono ?_
      (case side1 => exact cU (Kd.C_below HR0_1.out HB.out))
      (case side2 => exact HC0_1.out)
      rintro e w36 ⟨v167, rfl, ho0, hb⟩
      refine ⟨_, rfl, ?_⟩
      have HO168 := Aside0.mk (Kd.R_lower ho0 (below_size (lV3 GE161 GE162 GE169)))
      replace BK161 := bB (bV BK161) hb
      replace BK162 := bB (bV BK162) hb
      replace BK169 := bB (bV BK169) hb
      replace HB := bH (lV3 GE161 GE162 GE169) hb
      (try clear hb)
      (try clear hb2)
      (try clear hk)
      (try clear hi)
      (try clear ho0)
      obtain ⟨Ao37, co37, eo37⟩ := Kd.R_slice HO168.out
      (first | subst eo37 | (injection eo37 with f1_ f2_ f3_; have f4_ := f1_.symm; have f5_ := f3_.symm; clear f1_ f2_ f3_; subst f4_; subst f5_))
      refine hK.out _ _ ⟨cz BK161 0 _, cz BK161 1 _⟩ (fun hHeld => ?_)
      clear hK K
      refine norm_ (a' := ?_) ?_ ?_
      rotate_left
      ·show Act.put _ (some 37) _ = _
       simp only [Act.put, List.setIfInBounds_toArray, List.set_cons_zero, List.set_cons_succ, i64_w, i32_w]
       rfl
      refine pureA 5 38 (bz 8 127) rfl rfl (any_of HT_.out (by kernel_rfl)) ?_
      exact norm_ (by simp only [putAll, Act.put, List.setIfInBounds_toArray, List.set_cons_zero, List.set_cons_succ]) (hCont (.slice Ao37 t166.length co37, gb169) _ ⟨hHeld, (rU HO168.out), (bV BK161), (bV BK162), (bV BK169), GW169.out, GE169.out, NB161_169.out, NB169_161.out, NB162_169.out, NB169_162.out, (lV3 GE161 GE162 GE169)⟩)
    rintro ⟨v167, gb169⟩ w38 ⟨hS_, h0_, h1_, h2_, h3_, h4_, h5_, h6_, h7_, h8_, h9_, h10_⟩
    have HO168 : Aside0 (Kd.R (Kd.int .u8) 5 w38 w.heap.size (fun _ => True) v167 t166) := ⟨h0_⟩
    replace BK161 : Aside0 (w38.heap[gb161]? = some (.cells #[.int .i64 a0_0, .slice A0_1 l0_1.length c0_1] 26 (0, 0))) := ⟨h1_⟩
    replace BK162 : Aside0 (w38.heap[gb162]? = some (.cells #[.int .i64 0, .slice none 0 0] 26 (0, 0))) := ⟨h2_⟩
    have BK169 : Aside0 (w38.heap[gb169]? = some (.cells #[.int .i64 0, .slice none 0 0] 26 (0, 0))) := ⟨h3_⟩
    have GW169 : Aside0 (w.heap.size ≤ gb169) := ⟨h4_⟩
    have GE169 : Aside0 (w.heap.size ≤ gb169) := ⟨h5_⟩
    have NB161_169 : Aside0 (gb161 ≠ gb169) := ⟨h6_⟩
    have NB169_161 : Aside0 (gb169 ≠ gb161) := ⟨h7_⟩
    have NB162_169 : Aside0 (gb162 ≠ gb169) := ⟨h8_⟩
    have NB169_162 : Aside0 (gb169 ≠ gb162) := ⟨h9_⟩
    replace HB : Aside0 (Below w.heap.size w w38) := ⟨h10_⟩
    clear h0_ h1_ h2_ h3_ h4_ h5_ h6_ h7_ h8_ h9_ h10_
    have hHeld : w38.cell? ⟨gb161, 0, none⟩ = some (.int .i64 a0_0) ∧ w38.cell? ⟨gb161, 1, none⟩ = some (.slice A0_1 l0_1.length c0_1) := hS_
    obtain ⟨Ao39, co39, eo39⟩ := Kd.R_slice HO168.out
    (first | subst eo39 | (injection eo39 with f1_ f2_ f3_; have f4_ := f1_.symm; have f5_ := f3_.symm; clear f1_ f2_ f3_; subst f4_; subst f5_))
    refine norm_ (a' := ?_) ?_ ?_
    rotate_left
    ·simp only [putAll, Act.put, List.setIfInBounds_toArray, List.set_cons_zero, List.set_cons_succ]
     rfl
    refine one_ (i := 7) (N := none) (bz 8 255) rfl rfl (one_of HT_.out (by kernel_rfl)) (by decide) (fun K hK => ?_)
    have hs40 : w38.cell? ⟨gb169, 0, none⟩ = some (.int .i64 0) := (blk_cell BK169.out 0).trans rfl
    have hfs40 := blk_frozen BK169.out 0
    have hns40_0 := NB161_169.out
    have hns40_1 := NB162_169.out
    have hms40_0 := NB169_161.out
    have hms40_1 := NB169_162.out
    have hs41 : w38.cell? ⟨gb169, 1, none⟩ = some (.slice none 0 0) := (blk_cell BK169.out 1).trans rfl
    have hfs41 := blk_frozen BK169.out 1
    have hns41_0 := NB161_169.out
    have hns41_1 := NB162_169.out
    have hms41_0 := NB169_161.out
    have hms41_1 := NB169_162.out
    refine skip_ (w1 := ?_) (by rfl) rfl ?_ ?_
    rotate_left
    ·go_simp
     rfl
    refine hK.out _ _ ⟨((cell_far (p := ⟨gb169, _, none⟩) NB161_169.out _).trans (((cell_far (p := ⟨gb169, _, none⟩) NB161_169.out _).trans (hHeld.1)))), ((cell_far (p := ⟨gb169, _, none⟩) NB161_169.out _).trans (((cell_far (p := ⟨gb169, _, none⟩) NB161_169.out _).trans (hHeld.2))))⟩ (fun hHeld => ?_)
    clear hK K
    refine done_ (done_of HT_.out (by kernel_rfl)) ?_
    have n0_ : Aside0 (Kd.R (Kd.int .u8) 5 ((w38.setCell ⟨gb169, 0, none⟩ (.int .i64 a0_0)).setCell ⟨gb169, 1, none⟩ (.slice Ao39 t166.length co39)) w.heap.size (fun _ => True) (.slice Ao39 t166.length co39) t166) := ⟨by (with_reducible repeat (first | apply Kd.R_alloc | apply Kd.R_drewN | apply Kd.R_drew)); exact Kd.R_mono (Kd.R_far (p := ⟨gb169, 1, none⟩) (Kd.R_far (p := ⟨gb169, 0, none⟩) (Kd.R_types HO168.out BK169.out (by decide)) (fun _ hk => hk.2) (.int .i64 a0_0)) (fun _ hk => hk.2) (.slice Ao39 t166.length co39)) (fun _ hk => trivial)⟩
    have n1_ : Aside0 (((w38.setCell ⟨gb169, 0, none⟩ (.int .i64 a0_0)).setCell ⟨gb169, 1, none⟩ (.slice Ao39 t166.length co39)).heap[gb161]? = some (.cells #[.int .i64 a0_0, .slice A0_1 l0_1.length c0_1] 26 (0, 0))) := ⟨by refine bU ?_; refine blk_far ?_ NB161_169.out _; refine bU ?_; refine blk_far ?_ NB161_169.out _; refine bU ?_; exact BK161.out⟩
    have n2_ : Aside0 (((w38.setCell ⟨gb169, 0, none⟩ (.int .i64 a0_0)).setCell ⟨gb169, 1, none⟩ (.slice Ao39 t166.length co39)).heap[gb162]? = some (.cells #[.int .i64 0, .slice none 0 0] 26 (0, 0))) := ⟨by refine bU ?_; refine blk_far ?_ NB162_169.out _; refine bU ?_; refine blk_far ?_ NB162_169.out _; refine bU ?_; exact BK162.out⟩
    have n3_ : Aside0 (((w38.setCell ⟨gb169, 0, none⟩ (.int .i64 a0_0)).setCell ⟨gb169, 1, none⟩ (.slice Ao39 t166.length co39)).heap[gb169]? = some (.cells #[.int .i64 a0_0, .slice Ao39 t166.length co39] 26 (0, 0))) := ⟨by refine bU ?_; refine blk_put (cs := #[.int .i64 a0_0, .slice none 0 0]) ?_ 1 _ rfl; refine bU ?_; refine blk_put (cs := #[.int .i64 0, .slice none 0 0]) ?_ 0 _ rfl; refine bU ?_; exact BK169.out⟩
    have n4_ : Aside0 (Below w.heap.size w ((w38.setCell ⟨gb169, 0, none⟩ (.int .i64 a0_0)).setCell ⟨gb169, 1, none⟩ (.slice Ao39 t166.length co39))) := ⟨by repeat (first | (with_reducible first | exact HB.out | apply below_alloc | apply pw_below_drewN | apply below_drew1 | refine below_set ?_ GE161.out | refine below_set ?_ GE162.out | refine below_set ?_ GE169.out) | exact HB.out)⟩
    (try clear HO168)
    (try clear BK161)
    (try clear BK162)
    (try clear BK169)
    (try clear HB)
    generalize ((w38.setCell ⟨gb169, 0, none⟩ (.int .i64 a0_0)).setCell ⟨gb169, 1, none⟩ (.slice Ao39 t166.length co39)) = w42 at n0_ n1_ n2_ n3_ n4_ ⊢
    have HO168 := n0_
    have BK161 := n1_
    have BK162 := n2_
    have BK169 := n3_
    have HB := n4_
    clear n0_ n1_ n2_ n3_ n4_
    have hnb43 := NB169_161.out
    have hnc43 := NB161_169.out
    have hnb44 := NB169_162.out
    have hnc44 := NB162_169.out
    have hcz45_0 := cz BK169 0 (.int .i64 a0_0)
    have hcz45_1 := cz BK169 1 (.slice Ao39 t166.length co39)
    have hfz45_0 := fz BK169 0
    have hfz45_1 := fz BK169 1
    try go_wp2_with (first | ((with_reducible refine gate_callee (f := 21) rfl ?_); refine goesL_ (some 41) rfl rfl Try.func21 (by kernel_rfl) rfl #[.pointer (some ⟨gb169, 0, none⟩), .int .i64 a1, .int .i64 a2] rfl aE ?_; (with_reducible refine (impl_Bits_put.calls kj3 a0_0 (fun k_ => some k_ = (.slice Ao39 t166.length co39 : Value).ownBlock ∨ k_ = gb169) (.slice Ao39 t166.length co39) t166 a1 a2 t170 t171 w _ gb169 ?side1 GE169.out (.inr rfl) (bV BK169) ?side2 A33.out).mono ?_); (case side1 => repeat (first | (with_reducible first | exact HB.out | apply below_alloc | apply pw_below_drewN | apply below_drew1 | refine below_set ?_ GE161.out | refine below_set ?_ GE162.out | refine below_set ?_ GE169.out) | exact HB.out)); (case side2 => exact Kd.R_mono (Kd.R_tight rfl HO168.out) (fun _ h => .inl h)); rintro e w46 ⟨v172, rfl, hbk_, ho0, hb, hkp⟩; refine ⟨_, rfl, ?_⟩; replace BK161 := Aside0.mk (blk_kept (bV BK161) hkp (fun hs_ => hs_.elim (fun e_ => (Kd.R_ne HO168.out BK161.out (by decide)) e_) NB161_169.out)); replace BK162 := Aside0.mk (blk_kept (bV BK162) hkp (fun hs_ => hs_.elim (fun e_ => (Kd.R_ne HO168.out BK162.out (by decide)) e_) NB162_169.out)); replace BK169 := Aside0.mk hbk_; have HO173 := Aside0.mk (Kd.R_mono (ok' := fun k_ => True) ho0 (fun k_ hk_ => trivial)); replace HB := Aside0.mk hb; clear HO168; (try clear hb); (try clear hkp); (try clear hg_); (try clear hp_); (try clear ho0); obtain ⟨Ao48, co48, eo48⟩ := Kd.R_slice HO173.out; subst eo48; have hcz50_0 := cz BK169 0 (.int .i64 t170); have hcz50_1 := cz BK169 1 (.slice Ao48 t171.length co48); have hfz50_0 := fz BK169 0; have hfz50_1 := fz BK169 1; have hnb51 := NB162_161.out; have hnc51 := NB161_162.out; have hcz52_0 := cz BK162 0 (.int .i64 0); have hcz52_1 := cz BK162 1 (.slice none 0 0); have hfz52_0 := fz BK162 0; have hfz52_1 := fz BK162 1) | ((with_reducible refine gate_store (t := 26) (p := 6) rfl ?_); refine store_event (t := 26) (p := 6) (v := ?vo_w53) (w1 := ((w46.setCell ⟨gb162, 0, none⟩ (.int .i64 t170)).setCell ⟨gb162, 1, none⟩ (.slice Ao48 t171.length co48))) ?hg ?ho ?hn ?hr ?_; (case ho => rfl); (case hg => rfl); (case hn => rfl); (case hr => first | (go_simp; done) | (go_simp; rfl) | (have hq0_ := (blk_cell BK162.out 0).trans (show _ = some _ from rfl); have hf0_ := blk_frozen BK162.out 0; have hq1_ := (blk_cell BK162.out 1).trans (show _ = some _ from rfl); have hf1_ := blk_frozen BK162.out 1; first | (go_simp; done) | (go_simp; rfl))); intro w53 hw; replace HO173 : Aside0 (Kd.R (Kd.int .u8) 5 w53 w.heap.size (fun _ => True) (.slice Ao48 t171.length co48) t171) := ⟨(by rw [hw]; exact (by (with_reducible repeat (first | apply Kd.R_alloc | apply Kd.R_drewN | apply Kd.R_drew)); exact Kd.R_mono (Kd.R_far (p := ⟨gb162, 1, none⟩) (Kd.R_far (p := ⟨gb162, 0, none⟩) (Kd.R_types HO173.out BK162.out (by decide)) (fun _ hk => hk.2) (.int .i64 t170)) (fun _ hk => hk.2) (.slice Ao48 t171.length co48)) (fun _ hk => trivial)))⟩; replace BK161 : Aside0 (w53.heap[gb161]? = some (.cells #[.int .i64 a0_0, .slice A0_1 l0_1.length c0_1] 26 (0, 0))) := ⟨(by rw [hw]; exact (bG NB161_162 BK161))⟩; replace BK162 : Aside0 (w53.heap[gb162]? = some (.cells #[.int .i64 t170, .slice Ao48 t171.length co48] 26 (0, 0))) := ⟨(by rw [hw]; exact (by refine bU ?_; refine blk_put (cs := #[.int .i64 t170, .slice none 0 0]) ?_ 1 _ rfl; refine bU ?_; refine blk_put (cs := #[.int .i64 0, .slice none 0 0]) ?_ 0 _ rfl; refine bU ?_; exact BK162.out))⟩; replace BK169 : Aside0 (w53.heap[gb169]? = some (.cells #[.int .i64 t170, .slice Ao48 t171.length co48] 26 (0, 0))) := ⟨(by rw [hw]; exact (bG NB169_162 BK169))⟩; replace HB : Aside0 (Below w.heap.size w w53) := ⟨(by rw [hw]; exact (lV3 GE161 GE162 GE169))⟩; clear hw))
    refine bodyPost_ret (results_ct rfl _ _ gb162 26 #[.int .i64 t170, .slice Ao48 t171.length co48] (0, 0) _ rfl (bV BK162) Try.underlying26 rfl (by kernel_rfl)) rfl ?_
    exact ⟨_, eE, by (with_reducible repeat (first | apply Kd.R_alloc | apply Kd.R_drewN | apply Kd.R_drew)); exact HO173.out, lV3 GE161 GE162 GE169⟩
def laws_eqByteS.l0 : Nat → List Int → List Int → Int → Option (Bool)
 | 0, _, _, _ => none
 | k + 1, x0, x1, x5 => if x5 < (x0.length : Int) then (if 0 ≤ x5 then (if x5 < (x1.length : Int) then (if (rd x0 x5) = (rd x1 x5) then (laws_eqByteS.l0 k x0 x1 (wrap64 (x5 + 1))) else (some false)) else (none)) else (none)) else (some true)
def laws_eqByteS.f (k : Nat) (l0 : List Int) (l1 : List Int) : Option (Bool) := if (l0.length : Int) = (l1.length : Int) then (laws_eqByteS.l0 k l0 l1 0) else (some false)
theorem laws_eqByteS.mono_l : ∀ k, (∀ y0 y1 y2, LeO (laws_eqByteS.l0 k y0 y1 y2) (laws_eqByteS.l0 (k + 1) y0 y1 y2))
 | 0 => fun _ _ _ r h => by simp [laws_eqByteS.l0] at h
 | k + 1 => by
  have ih0 := laws_eqByteS.mono_l k
  ·intro y0 y1 y2
   unfold laws_eqByteS.l0
   repeat' first
   | (with_reducible exact ih0 _ _ _)
   | (with_reducible first | exact LeO.refl _ | exact LeO.none _ | refine LeO.ite ?_ ?_ | refine LeO.bind ?_ (fun _ => ?_))
   | exact ih0 _ _ _ | exact LeO.none _ | refine LeO.ite ?_ ?_ | refine LeO.bind ?_ (fun _ => ?_)
theorem laws_eqByteS.mono : ∀ a0 a1 k, LeO (laws_eqByteS.f k a0 a1) (laws_eqByteS.f (k + 1) a0 a1) := by
 intro a0 a1 k
 have ih0 := laws_eqByteS.mono_l k
 unfold laws_eqByteS.f
 repeat' first
   | (with_reducible exact ih0 _ _ _)
   | (with_reducible first | exact LeO.refl _ | exact LeO.none _ | refine LeO.ite ?_ ?_ | refine LeO.bind ?_ (fun _ => ?_))
   | exact ih0 _ _ _ | exact LeO.none _ | refine LeO.ite ?_ ?_ | refine LeO.bind ?_ (fun _ => ?_)
set_option maxHeartbeats 8000000 in
set_option maxRecDepth 100000 in
theorem laws_eqByteS.calls (k : Nat) (A0 : Option Addr) (c0 : Nat) (l0 : List Int) (A1 : Option Addr) (c1 : Nat) (l1 : List Int) (r : Bool) (w : World) (hr0 : Kd.C (Kd.int .u8) w A0 l0.length l0) (hc0 : l0.length ≤ c0) (hr1 : Kd.C (Kd.int .u8) w A1 l1.length l1) (hc1 : l1.length ≤ c1) (h : laws_eqByteS.f k l0 l1 = some r) :
  Calls Try.prog 22 #[.slice A0 l0.length c0, .slice A1 l1.length c1] w fun e w' => e = .returned (.bool r) ∧ Drawn0 w w' := by
 have HR0 := Aside0.mk hr0
 have HC0 := Aside0.mk hc0
 clear hr0 hc0
 have HR1 := Aside0.mk hr1
 have HC1 := Aside0.mk hc1
 clear hr1 hc1
 have H : (if (l0.length : Int) = (l1.length : Int) then (laws_eqByteS.l0 k l0 l1 0) else (some false)) = some r := h
 clear h
 by_cases c3 : (l0.length : Int) = (l1.length : Int)
 ·rw [if_pos c3] at H
  have c3b0 : ((l0.length : Int) == (l1.length : Int)) = true := beq_iff_eq.mpr c3
  have c3b1 : ((l0.length : Int) != (l1.length : Int)) = false := bne_eq_false_iff_eq.mpr c3
  have c3b2 : (l0.length == l1.length) = true := by first | simpa using c3 | (simp at c3 ⊢; omega)
  clear c3
  have H' := Aside0.mk H
  clear H
  go_enter Try.func22, Try.ntmps22
  go_wp2
  repeat (go_quiet (fail); try go_wp2)
  go_loopg [5] k (fun kq v5 w' => ∃ (x5_1 : Int), v5 = .int .i64 x5_1 ∧ Aside0 (laws_eqByteS.l0 kq l0 l1 x5_1 = some r) ∧ Aside0 (kq ≤ k) ∧ Drawn0 w w')
  case atStart => exact ⟨(0), tE, H', ⟨Nat.le_refl _⟩, by repeat (first | exact Drawn0.refl _ | apply Drawn0.step)⟩
  case round =>
   clear H'
   try clear c1
   try clear c2
   try clear p2
   try clear c3
   try clear c3b0
   try clear c3b1
   try clear c3b2
   obtain ⟨x5_1, rfl, HA, HK1, ⟨m1, rfl⟩⟩ := hrel
   cases gk with
   | zero => exact absurd HA.out (by simp [laws_eqByteS.l0])
   | succ k1 =>
    have H := HA.out
    clear HA
    simp only [laws_eqByteS.l0] at H
    by_cases c4 : x5_1 < (l0.length : Int)
    ·rw [if_pos c4] at H
     have c4b0 : decide (x5_1 < (l0.length : Int)) = true := decide_eq_true c4
     clear c4
     by_cases c5 : 0 ≤ x5_1
     ·rw [if_pos c5] at H
      have c5b0 : decide (0 ≤ x5_1) = true := decide_eq_true c5
      clear c5
      by_cases c6 : x5_1 < (l1.length : Int)
      ·rw [if_pos c6] at H
       have c6b0 : decide (x5_1 < (l1.length : Int)) = true := decide_eq_true c6
       clear c6
       by_cases c7 : (rd l0 x5_1) = (rd l1 x5_1)
       ·rw [if_pos c7] at H
        have c7b0 : ((rd l0 x5_1) == (rd l1 x5_1)) = true := beq_iff_eq.mpr c7
        have c7b1 : ((rd l0 x5_1) != (rd l1 x5_1)) = false := bne_eq_false_iff_eq.mpr c7
        clear c7
        have H' := Aside0.mk H
        clear H
        have p174 : 0 ≤ (x5_1 : Int) := of_decide_eq_true hE
        have q174 : x5_1 < (l0.length : Int) := of_decide_eq_true hE
        obtain ⟨ad174, e174, hx174_0⟩ := Kd.at_int HR0.out x5_1 p174 q174
        cases e174
        replace p174 := eq_true p174
        replace q174 := eq_true q174
        have p175 : 0 ≤ (x5_1 : Int) := of_decide_eq_true hE
        have q175 : x5_1 < (l1.length : Int) := of_decide_eq_true hE
        obtain ⟨ad175, e175, hx175_0⟩ := Kd.at_int HR1.out x5_1 p175 q175
        cases e175
        replace p175 := eq_true p175
        replace q175 := eq_true q175
        go_wp2
        repeat (go_quiet (fail); try go_wp2)
        go_roundg k1
        case measure => have := HK1.out; omega
        case rel => exact ⟨(wrap64 (x5_1 + 1)), tE, H', ⟨by have := HK1.out; omega⟩, by repeat (first | exact Drawn0.refl _ | apply Drawn0.step)⟩
       ·rw [if_neg c7] at H
        have c7b0 : ((rd l0 x5_1) == (rd l1 x5_1)) = false := beq_eq_false_iff_ne.mpr c7
        have c7b1 : ((rd l0 x5_1) != (rd l1 x5_1)) = true := bne_iff_ne.mpr c7
        obtain rfl := Option.some.inj H
        have p174 : 0 ≤ (x5_1 : Int) := of_decide_eq_true hE
        have q174 : x5_1 < (l0.length : Int) := of_decide_eq_true hE
        obtain ⟨ad174, e174, hx174_0⟩ := Kd.at_int HR0.out x5_1 p174 q174
        cases e174
        replace p174 := eq_true p174
        replace q174 := eq_true q174
        have p175 : 0 ≤ (x5_1 : Int) := of_decide_eq_true hE
        have q175 : x5_1 < (l1.length : Int) := of_decide_eq_true hE
        obtain ⟨ad175, e175, hx175_0⟩ := Kd.at_int HR1.out x5_1 p175 q175
        cases e175
        replace p175 := eq_true p175
        replace q175 := eq_true q175
        go_wp2
        repeat (go_quiet (fail); try go_wp2)
        go_ret
        exact ⟨by first | rfl | (simp; done) | (simp [*]; done) | exact not_isEmpty _ | exact (not_isEmpty _).symm | exact is_empty _ | exact (is_empty _).symm, by repeat (first | exact Drawn0.refl _ | apply Drawn0.step)⟩
      ·rw [if_neg c6] at H
       exact absurd H (by simp)
     ·rw [if_neg c5] at H
      exact absurd H (by simp)
    ·rw [if_neg c4] at H
     have c4b0 : decide (x5_1 < (l0.length : Int)) = false := decide_eq_false c4
     clear c4
     obtain rfl := Option.some.inj H
     go_wp2
     repeat (go_quiet (fail); try go_wp2)
     go_ret
     exact ⟨by first | rfl | (simp; done) | (simp [*]; done) | exact not_isEmpty _ | exact (not_isEmpty _).symm | exact is_empty _ | exact (is_empty _).symm, by repeat (first | exact Drawn0.refl _ | apply Drawn0.step)⟩
 ·rw [if_neg c3] at H
  have c3b0 : ((l0.length : Int) == (l1.length : Int)) = false := beq_eq_false_iff_ne.mpr c3
  have c3b1 : ((l0.length : Int) != (l1.length : Int)) = true := bne_iff_ne.mpr c3
  have c3b2 : (l0.length == l1.length) = false := by first | simpa using c3 | (simp at c3 ⊢; omega)
  obtain rfl := Option.some.inj H
  go_enter Try.func22, Try.ntmps22
  go_wp2
  repeat (go_quiet (fail); try go_wp2)
  go_ret
  exact ⟨by first | rfl | (simp; done) | (simp [*]; done) | exact not_isEmpty _ | exact (not_isEmpty _).symm | exact is_empty _ | exact (is_empty _).symm, by repeat (first | exact Drawn0.refl _ | apply Drawn0.step)⟩
def laws_eqBits.f (k : Nat) (a0_0 : Int) (l0_1 : List Int) (a1_0 : Int) (l1_1 : List Int) : Option (Bool) := if a0_0 = a1_0 then ((laws_eqByteS.f k l0_1 l1_1).bind fun t178 => (if t178 = true then (some true) else (some false))) else (some false)
theorem laws_eqBits.mono : ∀ a0 a1 a2 a3 k, LeO (laws_eqBits.f k a0 a1 a2 a3) (laws_eqBits.f (k + 1) a0 a1 a2 a3) := by
 intro a0 a1 a2 a3 k
 unfold laws_eqBits.f
 repeat' first
   | (with_reducible exact laws_eqByteS.mono _ _ _)
   | (with_reducible first | exact LeO.refl _ | exact LeO.none _ | refine LeO.ite ?_ ?_ | refine LeO.bind ?_ (fun _ => ?_))
   | exact laws_eqByteS.mono _ _ _ | exact LeO.none _ | refine LeO.ite ?_ ?_ | refine LeO.bind ?_ (fun _ => ?_)
set_option maxHeartbeats 8000000 in
set_option maxRecDepth 100000 in
theorem laws_eqBits.calls (k : Nat) (a0_0 : Int) (A0_1 : Option Addr) (c0_1 : Nat) (l0_1 : List Int) (a1_0 : Int) (A1_1 : Option Addr) (c1_1 : Nat) (l1_1 : List Int) (r : Bool) (w : World) (hr0_1 : Kd.C (Kd.int .u8) w A0_1 l0_1.length l0_1) (hc0_1 : l0_1.length ≤ c0_1) (hr1_1 : Kd.C (Kd.int .u8) w A1_1 l1_1.length l1_1) (hc1_1 : l1_1.length ≤ c1_1) (h : laws_eqBits.f k a0_0 l0_1 a1_0 l1_1 = some r) :
  Calls Try.prog 8 #[.agg #[.int .i64 a0_0, .slice A0_1 l0_1.length c0_1], .agg #[.int .i64 a1_0, .slice A1_1 l1_1.length c1_1]] w fun e w' => e = .returned (.bool r) ∧ Below w.heap.size w w' := by
 have hu26 := Try.underlying26
 have HR0_1 := Aside0.mk hr0_1
 have HC0_1 := Aside0.mk hc0_1
 clear hr0_1 hc0_1
 have HR1_1 := Aside0.mk hr1_1
 have HC1_1 := Aside0.mk hc1_1
 clear hr1_1 hc1_1
 have HB := Aside0.mk (Below.refl w.heap.size w)
 have H : (if a0_0 = a1_0 then ((laws_eqByteS.f k l0_1 l1_1).bind fun t178 => (if t178 = true then (some true) else (some false))) else (some false)) = some r := h
 clear h
 by_cases c3 : a0_0 = a1_0
 ·rw [if_pos c3] at H
  have c3b0 : (a0_0 == a1_0) = true := beq_iff_eq.mpr c3
  have c3b1 : (a0_0 != a1_0) = false := bne_eq_false_iff_eq.mpr c3
  clear c3
  replace H := Option.bind_eq_some_iff.mp H
  obtain ⟨t178, A40, H⟩ := H
  replace H : (if t178 = true then (some true) else (some false)) = some r := H
  have A4 := Aside0.mk A40
  clear A40
  by_cases c5 : t178 = true
  ·subst c5
   have H1 : (some true) = some r := by rw [if_pos rfl] at H; exact H
   clear H
   have H := H1
   clear H1
   obtain rfl := Option.some.inj H
   go_enter Try.func8, Try.ntmps8
   go_wp2_with (first | ((with_reducible refine gate_dst (N := 2) rfl ?_); refine box_event rfl (N := 2) rfl (cs := #[.int .i64 a0_0, .slice A0_1 l0_1.length c0_1]) (t := 26) sE ?_; intro gb176 hg w6 hbox hb; have BK176 := Aside0.mk hbox; have GW176 := gS w hg (lU); have GE176 := gS w hg (lU); replace HB := bH (lU) hb; clear hb hbox hg) | ((with_reducible refine gate_dst (N := 3) rfl ?_); refine box_event rfl (N := 3) rfl (cs := #[.int .i64 a1_0, .slice A1_1 l1_1.length c1_1]) (t := 26) sE ?_; intro gb177 hg w7 hbox hb; have BK177 := Aside0.mk hbox; have GW177 := gS w hg (lV1 GE176); have GE177 := gS w hg (lV1 GE176); replace HB := bH (lV1 GE176) hb; have NB176_177 := nL hg (bV BK176); have NB177_176 := nG hg (bV BK176); replace BK176 := bB (bV BK176) hb; clear hb hbox hg; have hnb8 := NB176_177.out; have hnc8 := NB177_176.out; have hcz9_0 := cz BK176 0 (.int .i64 a0_0); have hcz9_1 := cz BK176 1 (.slice A0_1 l0_1.length c0_1); have hfz9_0 := fz BK176 0; have hfz9_1 := fz BK176 1; have hcz10_0 := cz BK177 0 (.int .i64 a1_0); have hcz10_1 := cz BK177 1 (.slice A1_1 l1_1.length c1_1); have hfz10_0 := fz BK177 0; have hfz10_1 := fz BK177 1) | ((with_reducible refine gate_callee (f := 22) rfl ?_); refine goesL_ (some 14) rfl rfl Try.func22 (by kernel_rfl) rfl #[.slice A0_1 l0_1.length c0_1, .slice A1_1 l1_1.length c1_1] rfl aE ?_; (with_reducible refine (laws_eqByteS.calls k _ _ l0_1 _ _ l1_1 true _ ?side1 ?side2 ?side3 ?side4 A4.out).mono ?_); (case side1 => exact cU (Kd.C_below HR0_1.out HB.out)); (case side2 => exact HC0_1.out); (case side3 => exact cU (Kd.C_below HR1_1.out HB.out)); (case side4 => exact HC1_1.out); rintro e w' ⟨rfl, ⟨nd, rfl⟩⟩; refine ⟨_, rfl, ?_⟩))
   go_ret
   exact ⟨eE, lV2 GE176 GE177⟩
  ·replace c5 := Bool.eq_false_iff.mpr c5
   subst c5
   have H1 : (some false) = some r := by rw [if_neg (show ¬ (false = true) by decide)] at H; exact H
   clear H
   have H := H1
   clear H1
   obtain rfl := Option.some.inj H
   go_enter Try.func8, Try.ntmps8
   go_wp2_with (first | ((with_reducible refine gate_dst (N := 2) rfl ?_); refine box_event rfl (N := 2) rfl (cs := #[.int .i64 a0_0, .slice A0_1 l0_1.length c0_1]) (t := 26) sE ?_; intro gb176 hg w11 hbox hb; have BK176 := Aside0.mk hbox; have GW176 := gS w hg (lU); have GE176 := gS w hg (lU); replace HB := bH (lU) hb; clear hb hbox hg) | ((with_reducible refine gate_dst (N := 3) rfl ?_); refine box_event rfl (N := 3) rfl (cs := #[.int .i64 a1_0, .slice A1_1 l1_1.length c1_1]) (t := 26) sE ?_; intro gb177 hg w12 hbox hb; have BK177 := Aside0.mk hbox; have GW177 := gS w hg (lV1 GE176); have GE177 := gS w hg (lV1 GE176); replace HB := bH (lV1 GE176) hb; have NB176_177 := nL hg (bV BK176); have NB177_176 := nG hg (bV BK176); replace BK176 := bB (bV BK176) hb; clear hb hbox hg; have hnb13 := NB176_177.out; have hnc13 := NB177_176.out; have hcz14_0 := cz BK176 0 (.int .i64 a0_0); have hcz14_1 := cz BK176 1 (.slice A0_1 l0_1.length c0_1); have hfz14_0 := fz BK176 0; have hfz14_1 := fz BK176 1; have hcz15_0 := cz BK177 0 (.int .i64 a1_0); have hcz15_1 := cz BK177 1 (.slice A1_1 l1_1.length c1_1); have hfz15_0 := fz BK177 0; have hfz15_1 := fz BK177 1) | ((with_reducible refine gate_callee (f := 22) rfl ?_); refine goesL_ (some 14) rfl rfl Try.func22 (by kernel_rfl) rfl #[.slice A0_1 l0_1.length c0_1, .slice A1_1 l1_1.length c1_1] rfl aE ?_; (with_reducible refine (laws_eqByteS.calls k _ _ l0_1 _ _ l1_1 false _ ?side1 ?side2 ?side3 ?side4 A4.out).mono ?_); (case side1 => exact cU (Kd.C_below HR0_1.out HB.out)); (case side2 => exact HC0_1.out); (case side3 => exact cU (Kd.C_below HR1_1.out HB.out)); (case side4 => exact HC1_1.out); rintro e w' ⟨rfl, ⟨nd, rfl⟩⟩; refine ⟨_, rfl, ?_⟩))
   go_ret
   exact ⟨eE, lV2 GE176 GE177⟩
 ·rw [if_neg c3] at H
  have c3b0 : (a0_0 == a1_0) = false := beq_eq_false_iff_ne.mpr c3
  have c3b1 : (a0_0 != a1_0) = true := bne_iff_ne.mpr c3
  obtain rfl := Option.some.inj H
  go_enter Try.func8, Try.ntmps8
  go_wp2_with (first | ((with_reducible refine gate_dst (N := 2) rfl ?_); refine box_event rfl (N := 2) rfl (cs := #[.int .i64 a0_0, .slice A0_1 l0_1.length c0_1]) (t := 26) sE ?_; intro gb176 hg w16 hbox hb; have BK176 := Aside0.mk hbox; have GW176 := gS w hg (lU); have GE176 := gS w hg (lU); replace HB := bH (lU) hb; clear hb hbox hg) | ((with_reducible refine gate_dst (N := 3) rfl ?_); refine box_event rfl (N := 3) rfl (cs := #[.int .i64 a1_0, .slice A1_1 l1_1.length c1_1]) (t := 26) sE ?_; intro gb177 hg w17 hbox hb; have BK177 := Aside0.mk hbox; have GW177 := gS w hg (lV1 GE176); have GE177 := gS w hg (lV1 GE176); replace HB := bH (lV1 GE176) hb; have NB176_177 := nL hg (bV BK176); have NB177_176 := nG hg (bV BK176); replace BK176 := bB (bV BK176) hb; clear hb hbox hg; have hnb18 := NB176_177.out; have hnc18 := NB177_176.out; have hcz19_0 := cz BK176 0 (.int .i64 a0_0); have hcz19_1 := cz BK176 1 (.slice A0_1 l0_1.length c0_1); have hfz19_0 := fz BK176 0; have hfz19_1 := fz BK176 1; have hcz20_0 := cz BK177 0 (.int .i64 a1_0); have hcz20_1 := cz BK177 1 (.slice A1_1 l1_1.length c1_1); have hfz20_0 := fz BK177 0; have hfz20_1 := fz BK177 1))
  go_ret
  exact ⟨eE, lV2 GE176 GE177⟩
def laws_markByteS.l0 : Nat → List Int → Int → Int → Option (Int × List Int)
 | 0, _, _, _ => none
 | k + 1, x0, x1, x5 => if x5 < (x0.length : Int) then (if 0 ≤ x5 then (laws_markByteS.l0 k (x0.set (x5 : Int).toNat ((x1) % 256)) (wrap64 (x1 + 1)) (wrap64 (x5 + 1))) else (none)) else (some (x1, x0))
def laws_markByteS.f (k : Nat) (l0 : List Int) (a1 : Int) : Option (Int × List Int) := laws_markByteS.l0 k l0 a1 0
theorem laws_markByteS.mono_l : ∀ k, (∀ y0 y1 y2, LeO (laws_markByteS.l0 k y0 y1 y2) (laws_markByteS.l0 (k + 1) y0 y1 y2))
 | 0 => fun _ _ _ r h => by simp [laws_markByteS.l0] at h
 | k + 1 => by
  have ih0 := laws_markByteS.mono_l k
  ·intro y0 y1 y2
   unfold laws_markByteS.l0
   repeat' first
   | (with_reducible exact ih0 _ _ _)
   | (with_reducible first | exact LeO.refl _ | exact LeO.none _ | refine LeO.ite ?_ ?_ | refine LeO.bind ?_ (fun _ => ?_))
   | exact ih0 _ _ _ | exact LeO.none _ | refine LeO.ite ?_ ?_ | refine LeO.bind ?_ (fun _ => ?_)
theorem laws_markByteS.mono : ∀ a0 a1 k, LeO (laws_markByteS.f k a0 a1) (laws_markByteS.f (k + 1) a0 a1) := by
 intro a0 a1 k
 have ih0 := laws_markByteS.mono_l k
 unfold laws_markByteS.f
 repeat' first
   | (with_reducible exact ih0 _ _ _)
   | (with_reducible first | exact LeO.refl _ | exact LeO.none _ | refine LeO.ite ?_ ?_ | refine LeO.bind ?_ (fun _ => ?_))
   | exact ih0 _ _ _ | exact LeO.none _ | refine LeO.ite ?_ ?_ | refine LeO.bind ?_ (fun _ => ?_)
set_option maxHeartbeats 8000000 in
set_option maxRecDepth 100000 in
theorem laws_markByteS.calls (k : Nat) (P0_ : Nat → Prop) (u9000_ : Value) (l0 : List Int) (a1 : Int) (r1 : Int) (r2 : List Int) (w0 w : World) (hB : Below w0.heap.size w0 w) (ho0 : Kd.R (Kd.int .u8) 5 w w0.heap.size P0_ u9000_ l0) (h : laws_markByteS.f k l0 a1 = some (r1, r2)) :
  Calls Try.prog 23 #[u9000_, .int .i64 a1] w fun e w' => e = .returned (.int .i64 r1) ∧ Kd.R (Kd.int .u8) 5 w' w0.heap.size (fun k_ => (P0_ k_ ∨ w.heap.size ≤ k_)) u9000_ r2 ∧ Below w0.heap.size w0 w' ∧ Kept w w' (fun k_ => P0_ k_) := by
 have HO0 := Aside0.mk (show Kd.R (Kd.int .u8) 5 w w0.heap.size (fun k_ => (P0_ k_ ∨ w.heap.size ≤ k_)) u9000_ l0 from Kd.R_mono ho0 (fun k_ hk => (.inl hk)))
 have HK := Aside0.mk (Kept.refl w (fun k_ => P0_ k_))
 have HW0 := Aside0.mk hB.size
 have HB := Aside0.mk hB
 clear hB
 have H : (laws_markByteS.l0 k l0 a1 0) = some (r1, r2) := h
 clear h
 have H' := Aside0.mk H
 clear H
 go_enter Try.func23, Try.ntmps23
 go_wp2
 go_loopg [1, 5] k (fun kq v1 v5 w' => ∃ (x0_1 : List Int) (x1_1 : Int) (x5_1 : Int), v1 = .int .i64 x1_1 ∧ v5 = .int .i64 x5_1 ∧ Aside0 (laws_markByteS.l0 kq x0_1 x1_1 x5_1 = some (r1, r2)) ∧ Aside0 (kq ≤ k) ∧ Aside0 (Kd.R (Kd.int .u8) 5 w' w0.heap.size (fun k_ => (P0_ k_ ∨ w.heap.size ≤ k_)) u9000_ x0_1) ∧ Aside0 (Kept w w' (fun k_ => P0_ k_)) ∧ Aside0 (Below w0.heap.size w0 w'))
 case atStart => exact ⟨(l0), (a1), (0), tE, tE, H', ⟨Nat.le_refl _⟩, ⟨by (with_reducible repeat (first | apply Kd.R_alloc | apply Kd.R_drewN | apply Kd.R_drew)); exact HO0.out⟩, ⟨by repeat (first | (with_reducible first | exact HK.out | apply Kept.alloc | apply Kept.drewN | apply Kept.drew) | exact HK.out)⟩, ⟨by repeat (first | (with_reducible first | exact HB.out | apply below_alloc | apply pw_below_drewN | apply below_drew1) | exact HB.out)⟩⟩
 case round =>
  clear H'
  try clear c2
  try clear p2
  obtain ⟨x0_1, x1_1, x5_1, rfl, rfl, HA, HK1, HO_0, HK, HB⟩ := hrel
  cases gk with
  | zero => exact absurd HA.out (by simp [laws_markByteS.l0])
  | succ k1 =>
   have H := HA.out
   clear HA
   simp only [laws_markByteS.l0] at H
   by_cases c3 : x5_1 < (x0_1.length : Int)
   ·rw [if_pos c3] at H
    have c3b0 : decide (x5_1 < (x0_1.length : Int)) = true := decide_eq_true c3
    clear c3
    by_cases c4 : 0 ≤ x5_1
    ·rw [if_pos c4] at H
     have c4b0 : decide (0 ≤ x5_1) = true := decide_eq_true c4
     clear c4
     obtain ⟨y179, hy179⟩ : ∃ y_ : List Int, y_ = (x0_1.set (x5_1 : Int).toNat ((x1_1) % 256)) := ⟨_, rfl⟩
     replace H : (laws_markByteS.l0 k1 y179 (wrap64 (x1_1 + 1)) (wrap64 (x5_1 + 1))) = some (r1, r2) := by first | (rw [hy179]; with_reducible exact H) | (have H2_ := (Option.bind_some _ _).symm.trans H; rw [hy179]; with_reducible exact H2_) | (have H2_ := (Option.bind_some _ _).symm.trans H; with_reducible exact H2_) | with_reducible exact H | (rw [hy179]; exact H) | exact H
     have Ny179 := Aside0.mk hy179
     clear hy179
     have H' := Aside0.mk H
     clear H
     obtain ⟨Ao6, co6, eo6⟩ := Kd.R_slice HO_0.out
     subst eo6
     have p5 : 0 ≤ (x5_1 : Int) := of_decide_eq_true hE
     have q5 : (x5_1 : Int) < ((x0_1.length : Int) : Int) := of_decide_eq_true hE
     obtain ⟨go5, co5, eo5, gb5, gl5, cl5, HG5⟩ := Kd.R_form HO_0.out (by omega)
     (first | cases eo5 | (injection eo5 with ea_ en_ ec_; (first | subst ea_ | (injection ea_ with ea_; subst ea_)); subst ec_; clear en_))
     have GB5 := Aside0.mk gb5
     have GG5 := Aside0.mk HG5
     clear gb5 gl5 HG5
     have HMgo5 := Aside0.mk (show (P0_ go5 ∨ w.heap.size ≤ go5) from (HO_0.out.1 _ rfl))
     obtain ⟨hx5_0, hf5_0⟩ := Kd.R_celln 0 HO_0.out (x5_1 : Int) p5 q5
     replace p5 := eq_true p5
     replace q5 := eq_true q5
     have HP7 := Kd.R_putg HO_0.out (x5_1 : Int) ((x1_1) % 256)
     go_wp2_with (first | ((with_reducible refine gate_store (t := 5) (p := 16) rfl ?_); refine store_event (t := 5) (p := 16) (v := ?vo_w8) (w1 := (wr.setCell ⟨go5, (x5_1 : Int).toNat, none⟩ (.int .u8 ((x1_1) % 256)))) ?hg ?ho ?hn ?hr ?_; (case ho => rfl); (case hg => rfl); (case hn => rfl); (case hr => exact sE); intro w8 hw; have hg : wr.grownBy w8 (some go5) := (by rw [hw]; exact HP7.2); have hp_ : Kd.R (Kd.int .u8) 5 w8 w0.heap.size (fun k_ => (P0_ k_ ∨ w.heap.size ≤ k_)) (.slice (some ⟨go5, 0, none⟩) x0_1.length co6) y179 := (by rw [hw, Ny179.out]; exact HP7.1); clear HP7; replace HB := Aside0.mk ((by rw [hw]; exact below_set (HB.out) GB5.out : Below w0.heap.size w0 w8)); replace HK := Aside0.mk (Kept.of_grown (S := (fun k_ => P0_ k_)) hg (by repeat (first | (with_reducible first | exact HK.out | apply Kept.alloc | apply Kept.drewN | apply Kept.drew) | exact HK.out)) (fun k_ e_ => (HO_0.out.1 k_ e_))); replace HO_0 := Aside0.mk hp_; clear hg hw hp_))
     go_roundg k1
     case measure => have := HK1.out; omega
     case rel => exact ⟨(y179), (wrap64 (x1_1 + 1)), (wrap64 (x5_1 + 1)), tE, tE, H', ⟨by have := HK1.out; omega⟩, ⟨by (with_reducible repeat (first | apply Kd.R_alloc | apply Kd.R_drewN | apply Kd.R_drew)); exact HO_0.out⟩, ⟨by repeat (first | (with_reducible first | exact HK.out | apply Kept.alloc | apply Kept.drewN | apply Kept.drew) | exact HK.out)⟩, ⟨by repeat (first | (with_reducible first | exact HB.out | apply below_alloc | apply pw_below_drewN | apply below_drew1) | exact HB.out)⟩⟩
    ·rw [if_neg c4] at H
     exact absurd H (by simp)
   ·rw [if_neg c3] at H
    have c3b0 : decide (x5_1 < (x0_1.length : Int)) = false := decide_eq_false c3
    clear c3
    simp only [Option.some.injEq, Prod.mk.injEq] at H
    obtain ⟨rfl, rfl⟩ := H
    obtain ⟨Ao9, co9, eo9⟩ := Kd.R_slice HO_0.out
    subst eo9
    go_wp2
    go_ret
    exact ⟨eE, by (with_reducible repeat (first | apply Kd.R_alloc | apply Kd.R_drewN | apply Kd.R_drew)); exact HO_0.out, lU, by repeat (first | (with_reducible first | exact HK.out | apply Kept.alloc | apply Kept.drewN | apply Kept.drew) | exact HK.out)⟩
end Go.Proofs.Ytggfmjfgfjphgaa.PFnExactPutBits
namespace Go.Proofs.Ytggfmjfgfjphgaa.PFnExactPutBits
open Go.RowKit Go.Proofs.YtggfmjfgfjphgaaW.PrintWords Go.Proofs.YtggfmjfgfjphgaaW.PrintLast Go.Proofs.YtggfmjfgfjphgaaW.PrintMore
attribute [local go_sem] max2_int min2_int max_two min_two max_three min_three max_four min_four   -- for this text's walks alone
set_option linter.unusedVariables false
set_option linter.unusedSimpArgs false
def laws_markBits.f (k : Nat) (a0_0 : Int) (l0_1 : List Int) (a1 : Int) : Option (Int × List Int) := (laws_markByteS.f k l0_1 a1).bind fun bt181 => (some (bt181.1, bt181.2))
theorem laws_markBits.mono : ∀ a0 a1 a2 k, LeO (laws_markBits.f k a0 a1 a2) (laws_markBits.f (k + 1) a0 a1 a2) := by
 intro a0 a1 a2 k
 unfold laws_markBits.f
 repeat' first
   | (with_reducible exact laws_markByteS.mono _ _ _)
   | (with_reducible first | exact LeO.refl _ | exact LeO.none _ | refine LeO.ite ?_ ?_ | refine LeO.bind ?_ (fun _ => ?_))
   | exact laws_markByteS.mono _ _ _ | exact LeO.none _ | refine LeO.ite ?_ ?_ | refine LeO.bind ?_ (fun _ => ?_)
set_option maxHeartbeats 8000000 in
set_option maxRecDepth 100000 in
theorem laws_markBits.calls (k : Nat) (a0_0 : Int) (P0_1_ : Nat → Prop) (u9000_ : Value) (l0_1 : List Int) (a1 : Int) (r1 : Int) (r2 : List Int) (w0 w : World) (hB : Below w0.heap.size w0 w) (ho0_1 : Kd.R (Kd.int .u8) 5 w w0.heap.size P0_1_ u9000_ l0_1) (h : laws_markBits.f k a0_0 l0_1 a1 = some (r1, r2)) :
  Calls Try.prog 9 #[.agg #[.int .i64 a0_0, u9000_], .int .i64 a1] w fun e w' => e = .returned (.int .i64 r1) ∧ Kd.R (Kd.int .u8) 5 w' w0.heap.size (fun k_ => (P0_1_ k_ ∨ w.heap.size ≤ k_)) u9000_ r2 ∧ Below w0.heap.size w0 w' ∧ Kept w w' (fun k_ => P0_1_ k_) := by
 have hu26 := Try.underlying26
 have HO0_1 := Aside0.mk (show Kd.R (Kd.int .u8) 5 w w0.heap.size (fun k_ => (P0_1_ k_ ∨ w.heap.size ≤ k_)) u9000_ l0_1 from Kd.R_mono ho0_1 (fun k_ hk => (.inl hk)))
 have HK := Aside0.mk (Kept.refl w (fun k_ => P0_1_ k_))
 have HW0 := Aside0.mk hB.size
 have HB := Aside0.mk hB
 clear hB
 have H : ((laws_markByteS.f k l0_1 a1).bind fun bt181 => (some (bt181.1, bt181.2))) = some (r1, r2) := h
 clear h
 replace H := Option.bind_eq_some_iff.mp H
 obtain ⟨⟨t181, t182⟩, A30, H⟩ := H
 replace H : (some (t181, t182)) = some (r1, r2) := H
 have A3 := Aside0.mk A30
 clear A30
 simp only [Option.some.injEq, Prod.mk.injEq] at H
 obtain ⟨rfl, rfl⟩ := H
 obtain ⟨Ao4, co4, eo4⟩ := Kd.R_slice HO0_1.out
 subst eo4
 go_enter Try.func9, Try.ntmps9
 go_wp2_with (first | ((with_reducible refine gate_dst (N := 2) rfl ?_); refine box_event rfl (N := 2) rfl (cs := #[.int .i64 a0_0, .slice Ao4 l0_1.length co4]) (t := 26) sE ?_; intro gb180 hg w5 hbox hb; replace HO0_1 := Aside0.mk (Kd.R_below (rU HO0_1.out) hb); have BK180 := Aside0.mk hbox; have GW180 := Aside0.mk ((by rw [hg]; exact (by first | exact HK.out.1 | exact (show Kept w _ (fun k_ => P0_1_ k_) from by repeat (first | (with_reducible first | exact HK.out | apply Kept.alloc | apply Kept.drewN | apply Kept.drew) | exact HK.out)).1) : w.heap.size ≤ gb180)); replace HK := Aside0.mk (Kept.below (S := (fun k_ => P0_1_ k_)) (by repeat (first | (with_reducible first | exact HK.out | apply Kept.alloc | apply Kept.drewN | apply Kept.drew) | exact HK.out)) hb); have GE180 := Aside0.mk ((by rw [hg]; exact (below_size (lU)) : w0.heap.size ≤ gb180)); replace HB := bH (lU) hb; clear hb hbox hg; have hcz6_0 := cz BK180 0 (.int .i64 a0_0); have hcz6_1 := cz BK180 1 (.slice Ao4 l0_1.length co4); have hfz6_0 := fz BK180 0; have hfz6_1 := fz BK180 1) | ((with_reducible refine gate_callee (f := 23) rfl ?_); refine goesL_ (some 8) rfl rfl Try.func23 (by kernel_rfl) rfl #[.slice Ao4 l0_1.length co4, .int .i64 a1] rfl aE ?_; (with_reducible refine (laws_markByteS.calls k (fun k_ => some k_ = (.slice Ao4 l0_1.length co4 : Value).ownBlock) (.slice Ao4 l0_1.length co4) l0_1 a1 t181 t182 w0 _ ?side1 ?side2 A3.out).mono ?_); (case side1 => repeat (first | (with_reducible first | exact HB.out | apply below_alloc | apply pw_below_drewN | apply below_drew1 | refine below_set ?_ GE180.out) | exact HB.out)); (case side2 => exact Kd.R_tight rfl HO0_1.out); rintro e w7 ⟨rfl, hy0, hb, hkp⟩; refine ⟨_, rfl, ?_⟩; replace BK180 := Aside0.mk (blk_kept (bV BK180) hkp (fun hs_ => (fun e_ => (Kd.R_ne HO0_1.out BK180.out (by decide)) e_) hs_)); replace HK := Aside0.mk (Kept.then_ (S := (fun k_ => P0_1_ k_)) (by repeat (first | (with_reducible first | exact HK.out | apply Kept.alloc | apply Kept.drewN | apply Kept.drew | refine Kept.setCell ?_ (.inr GW180.out) _) | exact HK.out)) hkp (fun k_ hs_ => (fun e_ => (HO0_1.out.1 k_ e_.symm)) hs_)); replace HO0_1 := Aside0.mk (Kd.R_reok rfl hy0 (fun k_ e_ => HO0_1.out.1 k_ e_)); replace HB := Aside0.mk hb; (try clear hb); (try clear hkp); (try clear hg_); (try clear hp_); (try clear hy0)))
 go_ret
 exact ⟨eE, by (with_reducible repeat (first | apply Kd.R_alloc | apply Kd.R_drewN | apply Kd.R_drew)); exact HO0_1.out, lV1 GE180, by repeat (first | (with_reducible first | exact HK.out | apply Kept.alloc | apply Kept.drewN | apply Kept.drew | refine Kept.setCell ?_ (.inr GW180.out) _) | exact HK.out)⟩
def laws_heldByteS.l0 : Nat → List Int → Int → Int → Option (Int)
 | 0, _, _, _ => none
 | k + 1, x0, x1, x5 => if x5 < (x0.length : Int) then (if 0 ≤ x5 then (if (rd x0 x5) = ((x1) % 256) then (laws_heldByteS.l0 k x0 (wrap64 (x1 + 1)) (wrap64 (x5 + 1))) else (some (-1))) else (none)) else (some x1)
def laws_heldByteS.f (k : Nat) (l0 : List Int) (a1 : Int) : Option (Int) := laws_heldByteS.l0 k l0 a1 0
theorem laws_heldByteS.mono_l : ∀ k, (∀ y0 y1 y2, LeO (laws_heldByteS.l0 k y0 y1 y2) (laws_heldByteS.l0 (k + 1) y0 y1 y2))
 | 0 => fun _ _ _ r h => by simp [laws_heldByteS.l0] at h
 | k + 1 => by
  have ih0 := laws_heldByteS.mono_l k
  ·intro y0 y1 y2
   unfold laws_heldByteS.l0
   repeat' first
   | (with_reducible exact ih0 _ _ _)
   | (with_reducible first | exact LeO.refl _ | exact LeO.none _ | refine LeO.ite ?_ ?_ | refine LeO.bind ?_ (fun _ => ?_))
   | exact ih0 _ _ _ | exact LeO.none _ | refine LeO.ite ?_ ?_ | refine LeO.bind ?_ (fun _ => ?_)
theorem laws_heldByteS.mono : ∀ a0 a1 k, LeO (laws_heldByteS.f k a0 a1) (laws_heldByteS.f (k + 1) a0 a1) := by
 intro a0 a1 k
 have ih0 := laws_heldByteS.mono_l k
 unfold laws_heldByteS.f
 repeat' first
   | (with_reducible exact ih0 _ _ _)
   | (with_reducible first | exact LeO.refl _ | exact LeO.none _ | refine LeO.ite ?_ ?_ | refine LeO.bind ?_ (fun _ => ?_))
   | exact ih0 _ _ _ | exact LeO.none _ | refine LeO.ite ?_ ?_ | refine LeO.bind ?_ (fun _ => ?_)
set_option maxHeartbeats 8000000 in
set_option maxRecDepth 100000 in
theorem laws_heldByteS.calls (k : Nat) (A0 : Option Addr) (c0 : Nat) (l0 : List Int) (a1 : Int) (r : Int) (w : World) (hr0 : Kd.C (Kd.int .u8) w A0 l0.length l0) (hc0 : l0.length ≤ c0) (h : laws_heldByteS.f k l0 a1 = some r) :
  Calls Try.prog 24 #[.slice A0 l0.length c0, .int .i64 a1] w fun e w' => e = .returned (.int .i64 r) ∧ Drawn0 w w' := by
 have HR0 := Aside0.mk hr0
 have HC0 := Aside0.mk hc0
 clear hr0 hc0
 have H : (laws_heldByteS.l0 k l0 a1 0) = some r := h
 clear h
 have H' := Aside0.mk H
 clear H
 go_enter Try.func24, Try.ntmps24
 go_wp2
 go_loopg [1, 5] k (fun kq v1 v5 w' => ∃ (x1_1 : Int) (x5_1 : Int), v1 = .int .i64 x1_1 ∧ v5 = .int .i64 x5_1 ∧ Aside0 (laws_heldByteS.l0 kq l0 x1_1 x5_1 = some r) ∧ Aside0 (kq ≤ k) ∧ Drawn0 w w')
 case atStart => exact ⟨(a1), (0), tE, tE, H', ⟨Nat.le_refl _⟩, by repeat (first | exact Drawn0.refl _ | apply Drawn0.step)⟩
 case round =>
  clear H'
  try clear c2
  try clear p2
  obtain ⟨x1_1, x5_1, rfl, rfl, HA, HK1, ⟨m1, rfl⟩⟩ := hrel
  cases gk with
  | zero => exact absurd HA.out (by simp [laws_heldByteS.l0])
  | succ k1 =>
   have H := HA.out
   clear HA
   simp only [laws_heldByteS.l0] at H
   by_cases c3 : x5_1 < (l0.length : Int)
   ·rw [if_pos c3] at H
    have c3b0 : decide (x5_1 < (l0.length : Int)) = true := decide_eq_true c3
    clear c3
    by_cases c4 : 0 ≤ x5_1
    ·rw [if_pos c4] at H
     have c4b0 : decide (0 ≤ x5_1) = true := decide_eq_true c4
     clear c4
     by_cases c5 : (rd l0 x5_1) = ((x1_1) % 256)
     ·rw [if_pos c5] at H
      have c5b0 : ((rd l0 x5_1) == ((x1_1) % 256)) = true := beq_iff_eq.mpr c5
      have c5b1 : ((rd l0 x5_1) != ((x1_1) % 256)) = false := bne_eq_false_iff_eq.mpr c5
      clear c5
      have H' := Aside0.mk H
      clear H
      have p183 : 0 ≤ (x5_1 : Int) := of_decide_eq_true hE
      have q183 : x5_1 < (l0.length : Int) := of_decide_eq_true hE
      obtain ⟨ad183, e183, hx183_0⟩ := Kd.at_int HR0.out x5_1 p183 q183
      cases e183
      replace p183 := eq_true p183
      replace q183 := eq_true q183
      go_wp2
      go_roundg k1
      case measure => have := HK1.out; omega
      case rel => exact ⟨(wrap64 (x1_1 + 1)), (wrap64 (x5_1 + 1)), tE, tE, H', ⟨by have := HK1.out; omega⟩, by repeat (first | exact Drawn0.refl _ | apply Drawn0.step)⟩
     ·rw [if_neg c5] at H
      have c5b0 : ((rd l0 x5_1) == ((x1_1) % 256)) = false := beq_eq_false_iff_ne.mpr c5
      have c5b1 : ((rd l0 x5_1) != ((x1_1) % 256)) = true := bne_iff_ne.mpr c5
      obtain rfl := Option.some.inj H
      have p183 : 0 ≤ (x5_1 : Int) := of_decide_eq_true hE
      have q183 : x5_1 < (l0.length : Int) := of_decide_eq_true hE
      obtain ⟨ad183, e183, hx183_0⟩ := Kd.at_int HR0.out x5_1 p183 q183
      cases e183
      replace p183 := eq_true p183
      replace q183 := eq_true q183
      go_wp2
      go_ret
      exact ⟨by first | rfl | (simp; done) | (simp [*]; done) | exact not_isEmpty _ | exact (not_isEmpty _).symm | exact is_empty _ | exact (is_empty _).symm, by repeat (first | exact Drawn0.refl _ | apply Drawn0.step)⟩
    ·rw [if_neg c4] at H
     exact absurd H (by simp)
   ·rw [if_neg c3] at H
    have c3b0 : decide (x5_1 < (l0.length : Int)) = false := decide_eq_false c3
    clear c3
    obtain rfl := Option.some.inj H
    go_wp2
    go_ret
    exact ⟨by first | rfl | (simp; done) | (simp [*]; done) | exact not_isEmpty _ | exact (not_isEmpty _).symm | exact is_empty _ | exact (is_empty _).symm, by repeat (first | exact Drawn0.refl _ | apply Drawn0.step)⟩
def laws_heldBits.f (k : Nat) (a0_0 : Int) (l0_1 : List Int) (a1 : Int) : Option (Int) := (laws_heldByteS.f k l0_1 a1).bind fun t185 => (if t185 < 0 then (some (-1)) else (some t185))
theorem laws_heldBits.mono : ∀ a0 a1 a2 k, LeO (laws_heldBits.f k a0 a1 a2) (laws_heldBits.f (k + 1) a0 a1 a2) := by
 intro a0 a1 a2 k
 unfold laws_heldBits.f
 repeat' first
   | (with_reducible exact laws_heldByteS.mono _ _ _)
   | (with_reducible first | exact LeO.refl _ | exact LeO.none _ | refine LeO.ite ?_ ?_ | refine LeO.bind ?_ (fun _ => ?_))
   | exact laws_heldByteS.mono _ _ _ | exact LeO.none _ | refine LeO.ite ?_ ?_ | refine LeO.bind ?_ (fun _ => ?_)
set_option maxHeartbeats 8000000 in
set_option maxRecDepth 100000 in
theorem laws_heldBits.calls (k : Nat) (a0_0 : Int) (A0_1 : Option Addr) (c0_1 : Nat) (l0_1 : List Int) (a1 : Int) (r : Int) (w : World) (hr0_1 : Kd.C (Kd.int .u8) w A0_1 l0_1.length l0_1) (hc0_1 : l0_1.length ≤ c0_1) (h : laws_heldBits.f k a0_0 l0_1 a1 = some r) :
  Calls Try.prog 10 #[.agg #[.int .i64 a0_0, .slice A0_1 l0_1.length c0_1], .int .i64 a1] w fun e w' => e = .returned (.int .i64 r) ∧ Below w.heap.size w w' := by
 have hu26 := Try.underlying26
 have HR0_1 := Aside0.mk hr0_1
 have HC0_1 := Aside0.mk hc0_1
 clear hr0_1 hc0_1
 have HB := Aside0.mk (Below.refl w.heap.size w)
 have H : ((laws_heldByteS.f k l0_1 a1).bind fun t185 => (if t185 < 0 then (some (-1)) else (some t185))) = some r := h
 clear h
 replace H := Option.bind_eq_some_iff.mp H
 obtain ⟨t185, A30, H⟩ := H
 replace H : (if t185 < 0 then (some (-1)) else (some t185)) = some r := H
 have A3 := Aside0.mk A30
 clear A30
 by_cases c4 : t185 < 0
 ·rw [if_pos c4] at H
  have c4b0 : decide (t185 < 0) = true := decide_eq_true c4
  clear c4
  obtain rfl := Option.some.inj H
  go_enter Try.func10, Try.ntmps10
  go_wp2_with (first | ((with_reducible refine gate_dst (N := 2) rfl ?_); refine box_event rfl (N := 2) rfl (cs := #[.int .i64 a0_0, .slice A0_1 l0_1.length c0_1]) (t := 26) sE ?_; intro gb184 hg w5 hbox hb; have BK184 := Aside0.mk hbox; have GW184 := gS w hg (lU); have GE184 := gS w hg (lU); replace HB := bH (lU) hb; clear hb hbox hg; have hcz6_0 := cz BK184 0 (.int .i64 a0_0); have hcz6_1 := cz BK184 1 (.slice A0_1 l0_1.length c0_1); have hfz6_0 := fz BK184 0; have hfz6_1 := fz BK184 1) | ((with_reducible refine gate_callee (f := 24) rfl ?_); refine goesL_ (some 8) rfl rfl Try.func24 (by kernel_rfl) rfl #[.slice A0_1 l0_1.length c0_1, .int .i64 a1] rfl aE ?_; (with_reducible refine (laws_heldByteS.calls k _ _ l0_1 a1 t185 _ ?side1 ?side2 A3.out).mono ?_); (case side1 => exact cU (Kd.C_below HR0_1.out HB.out)); (case side2 => exact HC0_1.out); rintro e w' ⟨rfl, ⟨nd, rfl⟩⟩; refine ⟨_, rfl, ?_⟩))
  go_ret
  exact ⟨eE, lV1 GE184⟩
 ·rw [if_neg c4] at H
  have c4b0 : decide (t185 < 0) = false := decide_eq_false c4
  clear c4
  obtain rfl := Option.some.inj H
  go_enter Try.func10, Try.ntmps10
  go_wp2_with (first | ((with_reducible refine gate_dst (N := 2) rfl ?_); refine box_event rfl (N := 2) rfl (cs := #[.int .i64 a0_0, .slice A0_1 l0_1.length c0_1]) (t := 26) sE ?_; intro gb184 hg w7 hbox hb; have BK184 := Aside0.mk hbox; have GW184 := gS w hg (lU); have GE184 := gS w hg (lU); replace HB := bH (lU) hb; clear hb hbox hg; have hcz8_0 := cz BK184 0 (.int .i64 a0_0); have hcz8_1 := cz BK184 1 (.slice A0_1 l0_1.length c0_1); have hfz8_0 := fz BK184 0; have hfz8_1 := fz BK184 1) | ((with_reducible refine gate_callee (f := 24) rfl ?_); refine goesL_ (some 8) rfl rfl Try.func24 (by kernel_rfl) rfl #[.slice A0_1 l0_1.length c0_1, .int .i64 a1] rfl aE ?_; (with_reducible refine (laws_heldByteS.calls k _ _ l0_1 a1 t185 _ ?side1 ?side2 A3.out).mono ?_); (case side1 => exact cU (Kd.C_below HR0_1.out HB.out)); (case side2 => exact HC0_1.out); rintro e w' ⟨rfl, ⟨nd, rfl⟩⟩; refine ⟨_, rfl, ?_⟩))
  go_ret
  exact ⟨eE, lV1 GE184⟩
end Go.Proofs.Ytggfmjfgfjphgaa.PFnExactPutBits
