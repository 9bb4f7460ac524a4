/- Texts of the row of the law FnExactQueryWorld, laid together. -/
import Derived.Test.YtcpodjegdpbalaaZFnExactQueryWorld0
import Derived.Deep.RegionLaw
import Derived.Lib.SliceRun
import Derived.Laws.Externs
import Derived.Lib.Bytealg
import Derived.Test.YtcpodjegdpbalaaZFnExactQueryWorld1
import Derived.Test.YtcpodjegdpbalaaProg
import Derived.Below
import Derived.Deep.Draws
import Derived.Deep.AppendLies
import Derived.Maps.AppendAt
import Derived.OwnWalk
import Derived.Laws.BytesArg
import Derived.Laws.MakeOwn
import Derived.Laws.OwnMore
import Derived.Deep.OwnRows
import Derived.Tactics
import Derived.Lib.ConvBytes
import Derived.Laws.Slices
import Derived.WalkKit
import Derived.KernelRfl
import Derived.RowKit3
import Derived.Deep.LoopGhost
import Derived.Deep.QuietTactic
import Derived.BigQuiet
import Derived.WideLaws
import Derived.Deep.DeepCutAuto
import Derived.Deep.CutBlock
import Derived.Deep.RegionHeld3
import Derived.Laws.Rows
import Derived.Lib.AppendStr
import Derived.ArgAppend
import Derived.Laws.IdiomCopy
import Derived.OrdersHeld
import Derived.Laws.BitsLemmas
import Derived.RowKit
import Derived.Laws.Cover1
import Derived.Test.YtcpodjegdpbalaaZFnExactQueryWorld2
namespace Go.Proofs.YtcpodjegdpbalaaW.PrintWords
open Go.RowKit
namespace Kd
section
variable {P : Program} {α : Type}
end
end Kd
end Go.Proofs.YtcpodjegdpbalaaW.PrintWords
namespace Go.Proofs.YtcpodjegdpbalaaW.PrintLast
open Go.RowKit Go.Proofs.YtcpodjegdpbalaaW.PrintWords
def bz (n m : Nat) : Array Bool := ((List.range n).map fun i => m.testBit i).toArray
section
variable {P : Program} {ops : Array Oper} {Q : Exit → Act → World → Prop} {md : Region.Mode} {S : World → Prop} {ds : List Nat}
theorem pureA (i : Nat) (N : Tmp) {oi : Oper} {v : Value} {fuel : Nat} {l : Array Bool} {a : Act} {w : World} (l' : Array Bool) {a' : Act} (hi : ops[i]? = some oi) (hN : oi.dst = some N) (hc : anyB md ops l l' i = true) (h : wpAnyLast P md ops Q S ds fuel l' a' w)
    (hQ : ∀ c a w, Q (.panic c) (a.put oi.dst v) w → Q (.panic c) a w := by exact fun _ _ _ h => h) (hw : Region.wanted oi (yielded ops a.tmps) = true := by rfl)
    (hy : ∀ w, (execOp a.eval oi).run P w = .ok (.value v) w := by intro w'; go_simp; with_reducible rfl) (ha : a.put (some N) v = a' := by simp only [Act.put, List.setIfInBounds_toArray, List.set_cons_zero, List.set_cons_succ, i64_w, i32_w]; rfl) : wpAnyLast P md ops Q S ds (fuel + 1) l a w :=
  pure_ l' hi hN hc hQ (Or.inl ⟨hw, hy⟩) ha h
theorem pureU (i : Nat) (N : Tmp) {oi : Oper} {fuel : Nat} {l : Array Bool} {a : Act} {w : World} (l' : Array Bool) {a' : Act} (hi : ops[i]? = some oi) (hN : oi.dst = some N) (hc : anyB md ops l l' i = true) (h : wpAnyLast P md ops Q S ds fuel l' a' w)
    (hQ : ∀ c a w, Q (.panic c) (a.put oi.dst undef) w → Q (.panic c) a w := by exact fun _ _ _ h => h) (hw : Region.wanted oi (yielded ops a.tmps) = false := by rfl)
    (ha : a.put (some N) undef = a' := by simp only [Act.put, List.setIfInBounds_toArray, List.set_cons_zero, List.set_cons_succ, i64_w, i32_w]; rfl) : wpAnyLast P md ops Q S ds (fuel + 1) l a w :=
  pure_ l' hi hN hc hQ (Or.inr ⟨hw, rfl⟩) ha h
theorem takeA (i : Nat) (N : Tmp) {oi : Oper} {v : Value} {fuel : Nat} {l : Array Bool} {a : Act} {w : World} (l' : Array Bool) {a' : Act} (hi : ops[i]? = some oi) (hN : oi.dst = some N) (hc : takeB md ops ds l l' i = true) (hS : S w) (hy : ∀ w, S w → (execOp a.eval oi).run P w = .ok (.value v) w) (h : wpAnyLast P md ops Q S ds fuel l' a' w)
    (hQ : ∀ c a w, Q (.panic c) (a.put oi.dst v) w → Q (.panic c) a w := by exact fun _ _ _ h => h) (hw : Region.wanted oi (yielded ops a.tmps) = true := by rfl)
    (ha : a.put (some N) v = a' := by simp only [Act.put, List.setIfInBounds_toArray, List.set_cons_zero, List.set_cons_succ, i64_w, i32_w]; rfl) : wpAnyLast P md ops Q S ds (fuel + 1) l a w :=
  take_ l' hi hN hc hQ (Or.inl ⟨hw, hy⟩) hS ha h
end
end Go.Proofs.YtcpodjegdpbalaaW.PrintLast
namespace Go.Proofs.YtcpodjegdpbalaaW.PrintWords
open Go.RowKit
end Go.Proofs.YtcpodjegdpbalaaW.PrintWords
namespace Go.Proofs.YtcpodjegdpbalaaW.PrintWords
open Go.RowKit
section
variable {P : Program} {ops : Array Oper} {o : Oper} {a : Act} {Q : Exit → Act → World → Prop} {Kc : Act → World → Prop}
end
end Go.Proofs.YtcpodjegdpbalaaW.PrintWords
namespace Go.Proofs.YtcpodjegdpbalaaW.PrintWords
open Go.RowKit
theorem grown_of_kept {B : Nat} {w0 W W2 : World} {row : Option Nat} (hB : Below B w0 W) (hb : Below B w0 W2) (hk : Kept W W2 (fun k => some k = row)) : W.grownBy W2 row :=
  ⟨hb.os.trans hB.os.symm, hb.tape.trans hB.tape.symm, hb.output.trans hB.output.symm, hk.1, fun k h hn => hk.2 k h hn⟩
theorem blk_notP {W : World} {g t : Nat} {cs : Array Value} {fr : Nat × Nat} {PS : Nat → Prop} {L : List Nat} (hb : W.heap[g]? = some (.cells cs t fr)) (hP : ∀ k, PS k → ∃ q, q ∈ L ∧ ∃ cells, W.heap[k]? = some (.cells cells q (0, 0))) (ht : t ∉ L) : ¬ PS g := by
  intro hp
  obtain ⟨q, hq, c, hc⟩ := hP g hp
  rw [hb] at hc
  injection hc with hc
  injection hc with _ h2
  exact ht (h2 ▸ hq)
namespace Kd
section
variable {α : Type} {d : Kd α} {e base : Nat} {ok : Nat → Prop} {W : World} {u : Value} {xs : List α} {PS : Nat → Prop} {L : List Nat}
theorem R_apartP (h : d.R e W base ok u xs) (hP : ∀ k, PS k → ∃ q, q ∈ L ∧ ∃ cells, W.heap[k]? = some (.cells cells q (0, 0))) (ht : ∀ q, q ∈ e :: d.E → q ∉ L) : d.R e W base (fun k => ok k ∧ ¬ PS k) u xs :=
  R_mono (R_bound h) (fun k hk => ⟨hk.1, fun hp => by
    obtain ⟨q, hq, c, hc⟩ := hP k hp
    obtain ⟨_, _, _, q2, hq2, c2, hc2⟩ := hk
    rw [hc] at hc2
    injection hc2 with hc2
    injection hc2 with _ h2
    exact ht q2 hq2 (h2 ▸ hq)⟩)
end
end Kd
end Go.Proofs.YtcpodjegdpbalaaW.PrintWords
namespace Go.Proofs.YtcpodjegdpbalaaW.PrintWords
open Go.RowKit
def cmps (x y : ByteArray) : Int := Lib.compareBytes x.data.toList y.data.toList
theorem call_cmps {P : Program} {f : FuncId} {fn : Func} (hf : P.funcs[f]? = some fn) (hname : (fn.name == "runtime.NumGoroutine") = false) (hb : fn.body.isNone = true) (hn : Extern.findNext fn = none) (he : Extern.find fn = some Extern.BytealgCompare.compare) (x y : ByteArray) (w : World) :
    (callFunc f #[.string x, .string y]).run P w = .ok (.value (.int .i64 (cmps x y))) w := by
  rw [run_callFunc_extern hf hname hb hn he, Lib.run_compareString]
  rfl
end Go.Proofs.YtcpodjegdpbalaaW.PrintWords
namespace Go.Proofs.YtcpodjegdpbalaaW.PrintLast
section
variable {P : Program} {ops : Array Oper} {Q : Exit → Act → World → Prop} {md : Region.Mode} {S T : World → Prop} {ds : List Nat}
end
end Go.Proofs.YtcpodjegdpbalaaW.PrintLast
namespace Go.Proofs.Ytcpodjegdpbalaa.PFnExactQueryWorld
open Go.RowKit Go.Proofs.YtcpodjegdpbalaaW.PrintWords Go.Proofs.YtcpodjegdpbalaaW.PrintLast Go.Proofs.YtcpodjegdpbalaaW.PrintMore
attribute [local go_sem] max2_int min2_int max_two min_two max_three min_three max_four min_four   -- for this text's walks alone
set_option linter.unusedVariables false
set_option linter.unusedSimpArgs false
def errW : Option Int → Value
 | none => .nilIface
 | some c => .iface 0 (.int .i64 c)
theorem errW_none : errW none = .nilIface := rfl
theorem errW_some (c : Int) : errW (some c) = .iface 0 (.int .i64 c) := rfl
theorem info3 : (Try.prog.info? 3).map (fun i => (i.zero, i.size, i.bytes)) = some (some (.int .i64 0), 1, 8) := by kernel_rfl
theorem info9 : (Try.prog.info? 9).map (fun i => (i.zero, i.size, i.bytes)) = some (some (.string ⟨#[]⟩), 1, 16) := by kernel_rfl
theorem info77 : (Try.prog.info? 77).map (fun i => (i.zero, i.size, i.bytes)) = some (some (.agg #[(.int .i64 0), (.slice none 0 0)]), 2, 32) := by kernel_rfl
theorem info80 : (Try.prog.info? 80).map (fun i => (i.zero, i.size, i.bytes)) = some (some (.agg #[(.string ⟨#[]⟩), (.int .i64 0), (.int .i64 0)]), 3, 32) := by kernel_rfl
structure S109 where
 f0 : ByteArray
 f1 : Int
 f2 : Int
def z109 : S109 := ⟨(⟨#[]⟩ : ByteArray), (0 : Int), (0 : Int)⟩
def k109 : Kd S109 := Kd.iso (Kd.pair Kd.string (Kd.pair (Kd.int .i64) (Kd.int .i64))) (fun x : S109 => (x.f0, x.f1, x.f2))
theorem k109_open {w : World} {x : S109} {cs : List Value} (h : k109.K w x cs) : cs = [.string x.f0, .int .i64 x.f1, .int .i64 x.f2] := by
 obtain ⟨_, _, rfl, rfl, ⟨_, _, rfl, rfl, rfl⟩⟩ := h
 exact rfl
def rd_T109 (xs : List S109) (i : Int) : S109 := xs.getD i.toNat z109
theorem at_T109 {w : World} {A : Option Addr} {n : Nat} {xs : List S109} (h : Kd.C k109 w A n xs) (i : Int) (h0 : 0 ≤ i) (h1 : i < n) : ∃ ad , A = some ad ∧ w.cell? (ad.add (i.toNat * 3)) = some (.string (rd_T109 xs i).f0) ∧ w.cell? ⟨(ad.add (i.toNat * 3)).block, (ad.add (i.toNat * 3)).off + 1, none⟩ = some (.int .i64 (rd_T109 xs i).f1) ∧ w.cell? ⟨(ad.add (i.toNat * 3)).block, (ad.add (i.toNat * 3)).off + 2, none⟩ = some (.int .i64 (rd_T109 xs i).f2) := by
 obtain ⟨ad, c, e, _, hK, hc0⟩ := Kd.C_get h z109 i h0 h1
 have hc : ∀ j u, c[j]? = some u → w.cell? (ad.add (i.toNat * 3 + j)) = some u := hc0
 obtain rfl := k109_open hK
 exact ⟨ad, e, hc 0 _ rfl, by rw [← add_field _ _ 1 (by omega)]; exact hc 1 _ rfl, by rw [← add_field _ _ 2 (by omega)]; exact hc 2 _ rfl⟩
structure S91 where
 f0 : Int
 f1 : (List S109)
def z91 : S91 := ⟨(0 : Int), ([] : List S109)⟩
def k91 : Kd S91 := Kd.iso (Kd.pair (Kd.int .i64) (Kd.slice 109 k109)) (fun x : S91 => (x.f0, x.f1))
theorem k91_open {w : World} {x : S91} {cs : List Value} (h : k91.K w x cs) : ∃ A1 c1, cs = [.int .i64 x.f0, .slice A1 x.f1.length c1] ∧ x.f1.length ≤ c1 ∧ k109.C w A1 x.f1.length x.f1 := by
 obtain ⟨_, _, rfl, rfl, ⟨A1, c1, rfl, l1, g1⟩⟩ := h
 exact ⟨A1, c1, rfl, l1, g1⟩
def rd_T91 (xs : List S91) (i : Int) : S91 := xs.getD i.toNat z91
theorem at_T91 {w : World} {A : Option Addr} {n : Nat} {xs : List S91} (h : Kd.C k91 w A n xs) (i : Int) (h0 : 0 ≤ i) (h1 : i < n) : ∃ ad A1 c1, A = some ad ∧ w.cell? (ad.add (i.toNat * 2)) = some (.int .i64 (rd_T91 xs i).f0) ∧ w.cell? ⟨(ad.add (i.toNat * 2)).block, (ad.add (i.toNat * 2)).off + 1, none⟩ = some (.slice A1 (rd_T91 xs i).f1.length c1) ∧ (rd_T91 xs i).f1.length ≤ c1 ∧ k109.C w A1 (rd_T91 xs i).f1.length (rd_T91 xs i).f1 := by
 obtain ⟨ad, c, e, _, hK, hc0⟩ := Kd.C_get h z91 i h0 h1
 have hc : ∀ j u, c[j]? = some u → w.cell? (ad.add (i.toNat * 2 + j)) = some u := hc0
 obtain ⟨A1, c1, rfl, l1, g1⟩ := k91_open hK
 exact ⟨ad, A1, c1, e, hc 0 _ rfl, by rw [← add_field _ _ 1 (by omega)]; exact hc 1 _ rfl, l1, g1⟩
structure S80 where
 f0 : ByteArray
 f1 : Int
 f2 : Int
def z80 : S80 := ⟨(⟨#[]⟩ : ByteArray), (0 : Int), (0 : Int)⟩
def k80 : Kd S80 := Kd.iso (Kd.pair Kd.string (Kd.pair (Kd.int .i64) (Kd.int .i64))) (fun x : S80 => (x.f0, x.f1, x.f2))
theorem k80_open {w : World} {x : S80} {cs : List Value} (h : k80.K w x cs) : cs = [.string x.f0, .int .i64 x.f1, .int .i64 x.f2] := by
 obtain ⟨_, _, rfl, rfl, ⟨_, _, rfl, rfl, rfl⟩⟩ := h
 exact rfl
theorem k80_openM {w : World} {base : Nat} {ok : Nat → Prop} {x : S80} {cs : List Value} (h : k80.M w base ok x cs) : cs = [.string x.f0, .int .i64 x.f1, .int .i64 x.f2] := by
 obtain ⟨_, _, rfl, rfl, ⟨_, _, rfl, rfl, rfl⟩⟩ := h
 exact rfl
theorem k80_mkM (w : World) (base : Nat) (ok : Nat → Prop) (x : S80)  : k80.M w base ok x [.string x.f0, .int .i64 x.f1, .int .i64 x.f2] := ⟨[.string x.f0], [.int .i64 x.f1, .int .i64 x.f2], rfl, rfl, ⟨[.int .i64 x.f1], [.int .i64 x.f2], rfl, rfl, rfl⟩⟩
def rd_T80 (xs : List S80) (i : Int) : S80 := xs.getD i.toNat z80
theorem at_T80 {w : World} {A : Option Addr} {n : Nat} {xs : List S80} (h : Kd.C k80 w A n xs) (i : Int) (h0 : 0 ≤ i) (h1 : i < n) : ∃ ad , A = some ad ∧ w.cell? (ad.add (i.toNat * 3)) = some (.string (rd_T80 xs i).f0) ∧ w.cell? ⟨(ad.add (i.toNat * 3)).block, (ad.add (i.toNat * 3)).off + 1, none⟩ = some (.int .i64 (rd_T80 xs i).f1) ∧ w.cell? ⟨(ad.add (i.toNat * 3)).block, (ad.add (i.toNat * 3)).off + 2, none⟩ = some (.int .i64 (rd_T80 xs i).f2) := by
 obtain ⟨ad, c, e, _, hK, hc0⟩ := Kd.C_get h z80 i h0 h1
 have hc : ∀ j u, c[j]? = some u → w.cell? (ad.add (i.toNat * 3 + j)) = some u := hc0
 obtain rfl := k80_open hK
 exact ⟨ad, e, hc 0 _ rfl, by rw [← add_field _ _ 1 (by omega)]; exact hc 1 _ rfl, by rw [← add_field _ _ 2 (by omega)]; exact hc 2 _ rfl⟩
structure S77 where
 f0 : Int
 f1 : (List S80)
def z77 : S77 := ⟨(0 : Int), ([] : List S80)⟩
def k77 : Kd S77 := Kd.iso (Kd.pair (Kd.int .i64) (Kd.slice 80 k80)) (fun x : S77 => (x.f0, x.f1))
theorem k77_open {w : World} {x : S77} {cs : List Value} (h : k77.K w x cs) : ∃ A1 c1, cs = [.int .i64 x.f0, .slice A1 x.f1.length c1] ∧ x.f1.length ≤ c1 ∧ k80.C w A1 x.f1.length x.f1 := by
 obtain ⟨_, _, rfl, rfl, ⟨A1, c1, rfl, l1, g1⟩⟩ := h
 exact ⟨A1, c1, rfl, l1, g1⟩
theorem k77_openM {w : World} {base : Nat} {ok : Nat → Prop} {x : S77} {cs : List Value} (h : k77.M w base ok x cs) : ∃ v1, cs = [.int .i64 x.f0, v1] ∧ k80.R 80 w base ok v1 x.f1 := by
 obtain ⟨_, _, rfl, rfl, ⟨v1, rfl, g1⟩⟩ := h
 exact ⟨v1, rfl, g1⟩
theorem k77_mkM (w : World) (base : Nat) (ok : Nat → Prop) (x : S77) {v1 : Value} (g1 : k80.R 80 w base ok v1 x.f1) : k77.M w base ok x [.int .i64 x.f0, v1] := ⟨[.int .i64 x.f0], [v1], rfl, rfl, ⟨v1, rfl, g1⟩⟩
def rd_T77 (xs : List S77) (i : Int) : S77 := xs.getD i.toNat z77
theorem at_T77 {w : World} {A : Option Addr} {n : Nat} {xs : List S77} (h : Kd.C k77 w A n xs) (i : Int) (h0 : 0 ≤ i) (h1 : i < n) : ∃ ad A1 c1, A = some ad ∧ w.cell? (ad.add (i.toNat * 2)) = some (.int .i64 (rd_T77 xs i).f0) ∧ w.cell? ⟨(ad.add (i.toNat * 2)).block, (ad.add (i.toNat * 2)).off + 1, none⟩ = some (.slice A1 (rd_T77 xs i).f1.length c1) ∧ (rd_T77 xs i).f1.length ≤ c1 ∧ k80.C w A1 (rd_T77 xs i).f1.length (rd_T77 xs i).f1 := by
 obtain ⟨ad, c, e, _, hK, hc0⟩ := Kd.C_get h z77 i h0 h1
 have hc : ∀ j u, c[j]? = some u → w.cell? (ad.add (i.toNat * 2 + j)) = some u := hc0
 obtain ⟨A1, c1, rfl, l1, g1⟩ := k77_open hK
 exact ⟨ad, A1, c1, e, hc 0 _ rfl, by rw [← add_field _ _ 1 (by omega)]; exact hc 1 _ rfl, l1, g1⟩
end Go.Proofs.Ytcpodjegdpbalaa.PFnExactQueryWorld
namespace Go.Proofs.Ytcpodjegdpbalaa.PFnExactQueryWorld
open Go.RowKit Go.Proofs.YtcpodjegdpbalaaW.PrintWords Go.Proofs.YtcpodjegdpbalaaW.PrintLast Go.Proofs.YtcpodjegdpbalaaW.PrintMore
attribute [local go_sem] max2_int min2_int max_two min_two max_three min_three max_four min_four   -- for this text's walks alone
set_option linter.unusedVariables false
set_option linter.unusedSimpArgs false
def laws_szPart.f (a0_0 : ByteArray) (a0_1 : Int) (a0_2 : Int) (a1 : Int) : Option (Int) := if (wrap64 (a1 - (a0_0.size : Int))) < 0 then (some (-1)) else (some (wrap64 (a1 - (a0_0.size : Int))))
set_option maxHeartbeats 8000000 in
set_option maxRecDepth 100000 in
theorem laws_szPart.calls (a0_0 : ByteArray) (a0_1 : Int) (a0_2 : Int) (a1 : Int) (r : Int) (w : World) (h : laws_szPart.f a0_0 a0_1 a0_2 a1 = some r) :
  Calls Try.prog 72 #[.agg #[.string a0_0, .int .i64 a0_1, .int .i64 a0_2], .int .i64 a1] w fun e w' => e = .returned (.int .i64 r) ∧ Below w.heap.size w w' := by
 have hu109 := Try.underlying109
 have HB := Aside0.mk (Below.refl w.heap.size w)
 have H : (if (wrap64 (a1 - (a0_0.size : Int))) < 0 then (some (-1)) else (some (wrap64 (a1 - (a0_0.size : Int))))) = some r := h
 clear h
 by_cases c3 : (wrap64 (a1 - (a0_0.size : Int))) < 0
 ·rw [if_pos c3] at H
  have c3b0 : decide ((wrap64 (a1 - (a0_0.size : Int))) < 0) = true := decide_eq_true c3
  clear c3
  obtain rfl := Option.some.inj H
  go_enter Try.func72, Try.ntmps72
  go_wp2_with (first | ((with_reducible refine gate_dst (N := 2) rfl ?_); refine box_event rfl (N := 2) rfl (cs := #[.string a0_0, .int .i64 a0_1, .int .i64 a0_2]) (t := 109) sE ?_; intro gb101 hg w4 hbox hb; have BK101 := Aside0.mk hbox; have GW101 := gS w hg (lU); have GE101 := gS w hg (lU); replace HB := bH (lU) hb; clear hb hbox hg; have hcz5_0 := cz BK101 0 (.string a0_0); have hcz5_1 := cz BK101 1 (.int .i64 a0_1); have hcz5_2 := cz BK101 2 (.int .i64 a0_2); have hfz5_0 := fz BK101 0; have hfz5_1 := fz BK101 1; have hfz5_2 := fz BK101 2))
  go_ret
  exact ⟨eE, lV1 GE101⟩
 ·rw [if_neg c3] at H
  have c3b0 : decide ((wrap64 (a1 - (a0_0.size : Int))) < 0) = false := decide_eq_false c3
  clear c3
  obtain rfl := Option.some.inj H
  go_enter Try.func72, Try.ntmps72
  go_wp2_with (first | ((with_reducible refine gate_dst (N := 2) rfl ?_); refine box_event rfl (N := 2) rfl (cs := #[.string a0_0, .int .i64 a0_1, .int .i64 a0_2]) (t := 109) sE ?_; intro gb101 hg w6 hbox hb; have BK101 := Aside0.mk hbox; have GW101 := gS w hg (lU); have GE101 := gS w hg (lU); replace HB := bH (lU) hb; clear hb hbox hg; have hcz7_0 := cz BK101 0 (.string a0_0); have hcz7_1 := cz BK101 1 (.int .i64 a0_1); have hcz7_2 := cz BK101 2 (.int .i64 a0_2); have hfz7_0 := fz BK101 0; have hfz7_1 := fz BK101 1; have hfz7_2 := fz BK101 2))
  go_ret
  exact ⟨eE, lV1 GE101⟩
def laws_szPartS.l0 : Nat → List (S109) → Int → Int → Option (Int)
 | 0, _, _, _ => none
 | k + 1, x0, x1, x5 => if x5 < (x0.length : Int) then (if 0 ≤ x5 then ((laws_szPart.f ((rd_T109 x0 x5).f0) ((rd_T109 x0 x5).f1) ((rd_T109 x0 x5).f2) x1).bind fun t103 => (if t103 < 0 then (some (-1)) else (laws_szPartS.l0 k x0 t103 (wrap64 (x5 + 1))))) else (none)) else (some x1)
def laws_szPartS.f (k : Nat) (l0 : List (S109)) (a1 : Int) : Option (Int) := if (wrap64 (a1 - (l0.length : Int))) < 0 then (some (-1)) else (laws_szPartS.l0 k l0 (wrap64 (a1 - (l0.length : Int))) 0)
theorem laws_szPartS.mono_l : ∀ k, (∀ y0 y1 y2, LeO (laws_szPartS.l0 k y0 y1 y2) (laws_szPartS.l0 (k + 1) y0 y1 y2))
 | 0 => fun _ _ _ r h => by simp [laws_szPartS.l0] at h
 | k + 1 => by
  have ih0 := laws_szPartS.mono_l k
  ·intro y0 y1 y2
   unfold laws_szPartS.l0
   repeat' first
   | (with_reducible exact ih0 _ _ _)
   | (with_reducible exact LeO.refl _)
   | (with_reducible exact LeO.none _)
   | (with_reducible refine LeO.ite ?_ ?_)
   | (with_reducible refine LeO.bind ?_ (fun _ => ?_))
   | exact ih0 _ _ _
   | exact LeO.none _
   | refine LeO.ite ?_ ?_
   | refine LeO.bind ?_ (fun _ => ?_)
theorem laws_szPartS.mono : ∀ a0 a1 k, LeO (laws_szPartS.f k a0 a1) (laws_szPartS.f (k + 1) a0 a1) := by
 intro a0 a1 k
 have ih0 := laws_szPartS.mono_l k
 unfold laws_szPartS.f
 repeat' first
   | (with_reducible exact ih0 _ _ _)
   | (with_reducible exact LeO.refl _)
   | (with_reducible exact LeO.none _)
   | (with_reducible refine LeO.ite ?_ ?_)
   | (with_reducible refine LeO.bind ?_ (fun _ => ?_))
   | exact ih0 _ _ _
   | exact LeO.none _
   | refine LeO.ite ?_ ?_
   | refine LeO.bind ?_ (fun _ => ?_)
set_option maxHeartbeats 8000000 in
set_option maxRecDepth 100000 in
theorem laws_szPartS.calls (k : Nat) (A0 : Option Addr) (c0 : Nat) (l0 : List (S109)) (a1 : Int) (r : Int) (w : World) (hr0 : Kd.C k109 w A0 l0.length l0) (hc0 : l0.length ≤ c0) (h : laws_szPartS.f k l0 a1 = some r) :
  Calls Try.prog 63 #[.slice A0 l0.length c0, .int .i64 a1] w fun e w' => e = .returned (.int .i64 r) ∧ Below w.heap.size w w' := by
 have hu109 := Try.underlying109
 have HR0 := Aside0.mk hr0
 have HC0 := Aside0.mk hc0
 clear hr0 hc0
 have HB := Aside0.mk (Below.refl w.heap.size w)
 have H : (if (wrap64 (a1 - (l0.length : Int))) < 0 then (some (-1)) else (laws_szPartS.l0 k l0 (wrap64 (a1 - (l0.length : Int))) 0)) = some r := h
 clear h
 by_cases c3 : (wrap64 (a1 - (l0.length : Int))) < 0
 ·rw [if_pos c3] at H
  have c3b0 : decide ((wrap64 (a1 - (l0.length : Int))) < 0) = true := decide_eq_true c3
  clear c3
  obtain rfl := Option.some.inj H
  go_enter Try.func63, Try.ntmps63
  go_wp2
  go_ret
  exact ⟨eE, lU⟩
 ·rw [if_neg c3] at H
  have c3b0 : decide ((wrap64 (a1 - (l0.length : Int))) < 0) = false := decide_eq_false c3
  clear c3
  have H' := Aside0.mk H
  clear H
  go_enter Try.func63, Try.ntmps63
  go_wp2
  go_loopg [1, 5] k (fun kq v1 v5 w' => ∃ (x1_1 : Int) (x5_1 : Int), v1 = .int .i64 x1_1 ∧ v5 = .int .i64 x5_1 ∧ Aside0 (laws_szPartS.l0 kq l0 x1_1 x5_1 = some r) ∧ Aside0 (kq ≤ k) ∧ Aside0 (Below w.heap.size w w'))
  case atStart => exact ⟨(wrap64 (a1 - (l0.length : Int))), (0), tE, tE, H', ⟨Nat.le_refl _⟩, ⟨by repeat (first | (with_reducible first | exact HB.out | apply below_alloc | apply pw_below_drewN | apply below_drew1) | exact HB.out)⟩⟩
  case round =>
   clear H'
   try clear p2
   try clear c3
   try clear c3b0
   obtain ⟨x1_1, x5_1, rfl, rfl, HA, HK1, HB⟩ := hrel
   cases gk with
   | zero => exact absurd HA.out (by simp [laws_szPartS.l0])
   | succ k1 =>
    have H := HA.out
    clear HA
    simp only [laws_szPartS.l0] at H
    by_cases c4 : x5_1 < (l0.length : Int)
    ·rw [if_pos c4] at H
     have c4b0 : decide (x5_1 < (l0.length : Int)) = true := decide_eq_true c4
     clear c4
     by_cases c5 : 0 ≤ x5_1
     ·rw [if_pos c5] at H
      have c5b0 : decide (0 ≤ x5_1) = true := decide_eq_true c5
      clear c5
      replace H := Option.bind_eq_some_iff.mp H
      obtain ⟨t103, A60, H⟩ := H
      replace H : (if t103 < 0 then (some (-1)) else (laws_szPartS.l0 k1 l0 t103 (wrap64 (x5_1 + 1)))) = some r := H
      have A6 := Aside0.mk A60
      clear A60
      by_cases c7 : t103 < 0
      ·rw [if_pos c7] at H
       have c7b0 : decide (t103 < 0) = true := decide_eq_true c7
       clear c7
       obtain rfl := Option.some.inj H
       have p102 : 0 ≤ (x5_1 : Int) := of_decide_eq_true hE
       have q102 : x5_1 < (l0.length : Int) := of_decide_eq_true hE
       obtain ⟨ad102, e102, hx102_0, hx102_1, hx102_2⟩ := at_T109 HR0.out x5_1 p102 q102
       cases e102
       replace hx102_0 := (HB.out.cell (World.block_lt_of_cell? w _ hx102_0)).trans hx102_0
       replace hx102_1 := (HB.out.cell (World.block_lt_of_cell? w _ hx102_1)).trans hx102_1
       replace hx102_2 := (HB.out.cell (World.block_lt_of_cell? w _ hx102_2)).trans hx102_2
       replace p102 := eq_true p102
       replace q102 := eq_true q102
       go_wp2_with (first | ((with_reducible refine gate_callee (f := 72) rfl ?_); refine goesL_ (some 23) rfl rfl Try.func72 (by kernel_rfl) rfl #[.agg #[.string ((rd_T109 l0 x5_1).f0), .int .i64 ((rd_T109 l0 x5_1).f1), .int .i64 ((rd_T109 l0 x5_1).f2)], .int .i64 x1_1] rfl aE ?_; (with_reducible refine (laws_szPart.calls ((rd_T109 l0 x5_1).f0) ((rd_T109 l0 x5_1).f1) ((rd_T109 l0 x5_1).f2) x1_1 t103 _ A6.out).mono ?_); rintro e w8 ⟨rfl, hb⟩; refine ⟨_, rfl, ?_⟩; replace HB := bH (lU) hb; (try clear hb)))
       go_ret
       exact ⟨eE, lU⟩
      ·rw [if_neg c7] at H
       have c7b0 : decide (t103 < 0) = false := decide_eq_false c7
       clear c7
       have H' := Aside0.mk H
       clear H
       have p102 : 0 ≤ (x5_1 : Int) := of_decide_eq_true hE
       have q102 : x5_1 < (l0.length : Int) := of_decide_eq_true hE
       obtain ⟨ad102, e102, hx102_0, hx102_1, hx102_2⟩ := at_T109 HR0.out x5_1 p102 q102
       cases e102
       replace hx102_0 := (HB.out.cell (World.block_lt_of_cell? w _ hx102_0)).trans hx102_0
       replace hx102_1 := (HB.out.cell (World.block_lt_of_cell? w _ hx102_1)).trans hx102_1
       replace hx102_2 := (HB.out.cell (World.block_lt_of_cell? w _ hx102_2)).trans hx102_2
       replace p102 := eq_true p102
       replace q102 := eq_true q102
       go_wp2_with (first | ((with_reducible refine gate_callee (f := 72) rfl ?_); refine goesL_ (some 23) rfl rfl Try.func72 (by kernel_rfl) rfl #[.agg #[.string ((rd_T109 l0 x5_1).f0), .int .i64 ((rd_T109 l0 x5_1).f1), .int .i64 ((rd_T109 l0 x5_1).f2)], .int .i64 x1_1] rfl aE ?_; (with_reducible refine (laws_szPart.calls ((rd_T109 l0 x5_1).f0) ((rd_T109 l0 x5_1).f1) ((rd_T109 l0 x5_1).f2) x1_1 t103 _ A6.out).mono ?_); rintro e w9 ⟨rfl, hb⟩; refine ⟨_, rfl, ?_⟩; replace HB := bH (lU) hb; (try clear hb)))
       go_roundg k1
       case measure => have := HK1.out; omega
       case rel => exact ⟨(t103), (wrap64 (x5_1 + 1)), tE, tE, H', ⟨by have := HK1.out; omega⟩, ⟨by repeat (first | (with_reducible first | exact HB.out | apply below_alloc | apply pw_below_drewN | apply below_drew1) | exact HB.out)⟩⟩
     ·rw [if_neg c5] at H
      exact absurd H (by simp)
    ·rw [if_neg c4] at H
     have c4b0 : decide (x5_1 < (l0.length : Int)) = false := decide_eq_false c4
     clear c4
     obtain rfl := Option.some.inj H
     go_wp2
     go_ret
     exact ⟨eE, lU⟩
def laws_szEntity.f (k : Nat) (a0_0 : Int) (l0_1 : List (S109)) (a1 : Int) : Option (Int) := (laws_szPartS.f k l0_1 a1).bind fun t105 => (if t105 < 0 then (some (-1)) else (some t105))
theorem laws_szEntity.mono : ∀ a0 a1 a2 k, LeO (laws_szEntity.f k a0 a1 a2) (laws_szEntity.f (k + 1) a0 a1 a2) := by
 intro a0 a1 a2 k
 unfold laws_szEntity.f
 repeat' first
   | (with_reducible exact laws_szPartS.mono _ _ _)
   | (with_reducible exact LeO.refl _)
   | (with_reducible exact LeO.none _)
   | (with_reducible refine LeO.ite ?_ ?_)
   | (with_reducible refine LeO.bind ?_ (fun _ => ?_))
   | exact laws_szPartS.mono _ _ _
   | exact LeO.none _
   | refine LeO.ite ?_ ?_
   | refine LeO.bind ?_ (fun _ => ?_)
set_option maxHeartbeats 8000000 in
set_option maxRecDepth 100000 in
theorem laws_szEntity.calls (k : Nat) (a0_0 : Int) (A0_1 : Option Addr) (c0_1 : Nat) (l0_1 : List (S109)) (a1 : Int) (r : Int) (w : World) (hr0_1 : Kd.C k109 w A0_1 l0_1.length l0_1) (hc0_1 : l0_1.length ≤ c0_1) (h : laws_szEntity.f k a0_0 l0_1 a1 = some r) :
  Calls Try.prog 54 #[.agg #[.int .i64 a0_0, .slice A0_1 l0_1.length c0_1], .int .i64 a1] w fun e w' => e = .returned (.int .i64 r) ∧ Below w.heap.size w w' := by
 have hu91 := Try.underlying91
 have HR0_1 := Aside0.mk hr0_1
 have HC0_1 := Aside0.mk hc0_1
 clear hr0_1 hc0_1
 have HB := Aside0.mk (Below.refl w.heap.size w)
 have H : ((laws_szPartS.f k l0_1 a1).bind fun t105 => (if t105 < 0 then (some (-1)) else (some t105))) = some r := h
 clear h
 replace H := Option.bind_eq_some_iff.mp H
 obtain ⟨t105, A30, H⟩ := H
 replace H : (if t105 < 0 then (some (-1)) else (some t105)) = some r := H
 have A3 := Aside0.mk A30
 clear A30
 by_cases c4 : t105 < 0
 ·rw [if_pos c4] at H
  have c4b0 : decide (t105 < 0) = true := decide_eq_true c4
  clear c4
  obtain rfl := Option.some.inj H
  go_enter Try.func54, Try.ntmps54
  go_wp2_with (first | ((with_reducible refine gate_dst (N := 2) rfl ?_); refine box_event rfl (N := 2) rfl (cs := #[.int .i64 a0_0, .slice A0_1 l0_1.length c0_1]) (t := 91) sE ?_; intro gb104 hg w5 hbox hb; have BK104 := Aside0.mk hbox; have GW104 := gS w hg (lU); have GE104 := gS w hg (lU); replace HB := bH (lU) hb; clear hb hbox hg; have hcz6_0 := cz BK104 0 (.int .i64 a0_0); have hcz6_1 := cz BK104 1 (.slice A0_1 l0_1.length c0_1); have hfz6_0 := fz BK104 0; have hfz6_1 := fz BK104 1) | ((with_reducible refine gate_callee (f := 63) rfl ?_); refine goesL_ (some 8) rfl rfl Try.func63 (by kernel_rfl) rfl #[.slice A0_1 l0_1.length c0_1, .int .i64 a1] rfl aE ?_; (with_reducible refine (laws_szPartS.calls k _ _ l0_1 a1 t105 _ ?side1 ?side2 A3.out).mono ?_); (case side1 => exact cU (Kd.C_below HR0_1.out HB.out)); (case side2 => exact HC0_1.out); rintro e w7 ⟨rfl, hb⟩; refine ⟨_, rfl, ?_⟩; replace BK104 := bB (bV BK104) hb; replace HB := bH (lV1 GE104) hb; (try clear hb)))
  go_ret
  exact ⟨eE, lV1 GE104⟩
 ·rw [if_neg c4] at H
  have c4b0 : decide (t105 < 0) = false := decide_eq_false c4
  clear c4
  obtain rfl := Option.some.inj H
  go_enter Try.func54, Try.ntmps54
  go_wp2_with (first | ((with_reducible refine gate_dst (N := 2) rfl ?_); refine box_event rfl (N := 2) rfl (cs := #[.int .i64 a0_0, .slice A0_1 l0_1.length c0_1]) (t := 91) sE ?_; intro gb104 hg w8 hbox hb; have BK104 := Aside0.mk hbox; have GW104 := gS w hg (lU); have GE104 := gS w hg (lU); replace HB := bH (lU) hb; clear hb hbox hg; have hcz9_0 := cz BK104 0 (.int .i64 a0_0); have hcz9_1 := cz BK104 1 (.slice A0_1 l0_1.length c0_1); have hfz9_0 := fz BK104 0; have hfz9_1 := fz BK104 1) | ((with_reducible refine gate_callee (f := 63) rfl ?_); refine goesL_ (some 8) rfl rfl Try.func63 (by kernel_rfl) rfl #[.slice A0_1 l0_1.length c0_1, .int .i64 a1] rfl aE ?_; (with_reducible refine (laws_szPartS.calls k _ _ l0_1 a1 t105 _ ?side1 ?side2 A3.out).mono ?_); (case side1 => exact cU (Kd.C_below HR0_1.out HB.out)); (case side2 => exact HC0_1.out); rintro e w10 ⟨rfl, hb⟩; refine ⟨_, rfl, ?_⟩; replace BK104 := bB (bV BK104) hb; replace HB := bH (lV1 GE104) hb; (try clear hb)))
  go_ret
  exact ⟨eE, lV1 GE104⟩
def laws_szEntityS.l0 : Nat → List (S91) → Int → Int → Option (Int)
 | 0, _, _, _ => none
 | k + 1, x0, x1, x5 => if x5 < (x0.length : Int) then (if 0 ≤ x5 then ((laws_szEntity.f k ((rd_T91 x0 x5).f0) ((rd_T91 x0 x5).f1) x1).bind fun t107 => (if t107 < 0 then (some (-1)) else (laws_szEntityS.l0 k x0 t107 (wrap64 (x5 + 1))))) else (none)) else (some x1)
def laws_szEntityS.f (k : Nat) (l0 : List (S91)) (a1 : Int) : Option (Int) := if (wrap64 (a1 - (l0.length : Int))) < 0 then (some (-1)) else (laws_szEntityS.l0 k l0 (wrap64 (a1 - (l0.length : Int))) 0)
theorem laws_szEntityS.mono_l : ∀ k, (∀ y0 y1 y2, LeO (laws_szEntityS.l0 k y0 y1 y2) (laws_szEntityS.l0 (k + 1) y0 y1 y2))
 | 0 => fun _ _ _ r h => by simp [laws_szEntityS.l0] at h
 | k + 1 => by
  have ih0 := laws_szEntityS.mono_l k
  ·intro y0 y1 y2
   unfold laws_szEntityS.l0
   repeat' first
   | (with_reducible exact ih0 _ _ _)
   | (with_reducible exact laws_szEntity.mono _ _ _ _)
   | (with_reducible exact LeO.refl _)
   | (with_reducible exact LeO.none _)
   | (with_reducible refine LeO.ite ?_ ?_)
   | (with_reducible refine LeO.bind ?_ (fun _ => ?_))
   | exact ih0 _ _ _
   | exact laws_szEntity.mono _ _ _ _
   | exact LeO.none _
   | refine LeO.ite ?_ ?_
   | refine LeO.bind ?_ (fun _ => ?_)
theorem laws_szEntityS.mono : ∀ a0 a1 k, LeO (laws_szEntityS.f k a0 a1) (laws_szEntityS.f (k + 1) a0 a1) := by
 intro a0 a1 k
 have ih0 := laws_szEntityS.mono_l k
 unfold laws_szEntityS.f
 repeat' first
   | (with_reducible exact ih0 _ _ _)
   | (with_reducible exact laws_szEntity.mono _ _ _ _)
   | (with_reducible exact LeO.refl _)
   | (with_reducible exact LeO.none _)
   | (with_reducible refine LeO.ite ?_ ?_)
   | (with_reducible refine LeO.bind ?_ (fun _ => ?_))
   | exact ih0 _ _ _
   | exact laws_szEntity.mono _ _ _ _
   | exact LeO.none _
   | refine LeO.ite ?_ ?_
   | refine LeO.bind ?_ (fun _ => ?_)
set_option maxHeartbeats 8000000 in
set_option maxRecDepth 100000 in
theorem laws_szEntityS.calls (k : Nat) (A0 : Option Addr) (c0 : Nat) (l0 : List (S91)) (a1 : Int) (r : Int) (w : World) (hr0 : Kd.C k91 w A0 l0.length l0) (hc0 : l0.length ≤ c0) (h : laws_szEntityS.f k l0 a1 = some r) :
  Calls Try.prog 38 #[.slice A0 l0.length c0, .int .i64 a1] w fun e w' => e = .returned (.int .i64 r) ∧ Below w.heap.size w w' := by
 have hu91 := Try.underlying91
 have HR0 := Aside0.mk hr0
 have HC0 := Aside0.mk hc0
 clear hr0 hc0
 have HB := Aside0.mk (Below.refl w.heap.size w)
 have H : (if (wrap64 (a1 - (l0.length : Int))) < 0 then (some (-1)) else (laws_szEntityS.l0 k l0 (wrap64 (a1 - (l0.length : Int))) 0)) = some r := h
 clear h
 by_cases c3 : (wrap64 (a1 - (l0.length : Int))) < 0
 ·rw [if_pos c3] at H
  have c3b0 : decide ((wrap64 (a1 - (l0.length : Int))) < 0) = true := decide_eq_true c3
  clear c3
  obtain rfl := Option.some.inj H
  go_enter Try.func38, Try.ntmps38
  go_wp2
  go_ret
  exact ⟨eE, lU⟩
 ·rw [if_neg c3] at H
  have c3b0 : decide ((wrap64 (a1 - (l0.length : Int))) < 0) = false := decide_eq_false c3
  clear c3
  have H' := Aside0.mk H
  clear H
  go_enter Try.func38, Try.ntmps38
  go_wp2
  go_loopg [1, 5] k (fun kq v1 v5 w' => ∃ (x1_1 : Int) (x5_1 : Int), v1 = .int .i64 x1_1 ∧ v5 = .int .i64 x5_1 ∧ Aside0 (laws_szEntityS.l0 kq l0 x1_1 x5_1 = some r) ∧ Aside0 (kq ≤ k) ∧ Aside0 (Below w.heap.size w w'))
  case atStart => exact ⟨(wrap64 (a1 - (l0.length : Int))), (0), tE, tE, H', ⟨Nat.le_refl _⟩, ⟨by repeat (first | (with_reducible first | exact HB.out | apply below_alloc | apply pw_below_drewN | apply below_drew1) | exact HB.out)⟩⟩
  case round =>
   clear H'
   try clear p2
   try clear c3
   try clear c3b0
   obtain ⟨x1_1, x5_1, rfl, rfl, HA, HK1, HB⟩ := hrel
   cases gk with
   | zero => exact absurd HA.out (by simp [laws_szEntityS.l0])
   | succ k1 =>
    have H := HA.out
    clear HA
    simp only [laws_szEntityS.l0] at H
    by_cases c4 : x5_1 < (l0.length : Int)
    ·rw [if_pos c4] at H
     have c4b0 : decide (x5_1 < (l0.length : Int)) = true := decide_eq_true c4
     clear c4
     by_cases c5 : 0 ≤ x5_1
     ·rw [if_pos c5] at H
      have c5b0 : decide (0 ≤ x5_1) = true := decide_eq_true c5
      clear c5
      replace H := Option.bind_eq_some_iff.mp H
      obtain ⟨t107, A60, H⟩ := H
      replace H : (if t107 < 0 then (some (-1)) else (laws_szEntityS.l0 k1 l0 t107 (wrap64 (x5_1 + 1)))) = some r := H
      have A6 := Aside0.mk A60
      clear A60
      by_cases c7 : t107 < 0
      ·rw [if_pos c7] at H
       have c7b0 : decide (t107 < 0) = true := decide_eq_true c7
       clear c7
       obtain rfl := Option.some.inj H
       have p106 : 0 ≤ (x5_1 : Int) := of_decide_eq_true hE
       have q106 : x5_1 < (l0.length : Int) := of_decide_eq_true hE
       obtain ⟨ad106, A106_1, c106_1, e106, hx106_0, hx106_1, hl106_1, hi106_1⟩ := at_T91 HR0.out x5_1 p106 q106
       cases e106
       replace hx106_0 := (HB.out.cell (World.block_lt_of_cell? w _ hx106_0)).trans hx106_0
       replace hx106_1 := (HB.out.cell (World.block_lt_of_cell? w _ hx106_1)).trans hx106_1
       have HR106_1 := Aside0.mk hi106_1
       have HC106_1 := Aside0.mk hl106_1
       clear hi106_1 hl106_1
       replace p106 := eq_true p106
       replace q106 := eq_true q106
       go_wp2_with (first | ((with_reducible refine gate_callee (f := 54) rfl ?_); refine goesL_ (some 23) rfl rfl Try.func54 (by kernel_rfl) rfl #[.agg #[.int .i64 ((rd_T91 l0 x5_1).f0), .slice A106_1 ((rd_T91 l0 x5_1).f1).length c106_1], .int .i64 x1_1] rfl aE ?_; (with_reducible refine (laws_szEntity.calls k1 ((rd_T91 l0 x5_1).f0) _ _ ((rd_T91 l0 x5_1).f1) x1_1 t107 _ ?side1 ?side2 A6.out).mono ?_); (case side1 => exact cU (Kd.C_below HR106_1.out HB.out)); (case side2 => exact HC106_1.out); rintro e w8 ⟨rfl, hb⟩; refine ⟨_, rfl, ?_⟩; replace HB := bH (lU) hb; (try clear hb)))
       go_ret
       exact ⟨eE, lU⟩
      ·rw [if_neg c7] at H
       have c7b0 : decide (t107 < 0) = false := decide_eq_false c7
       clear c7
       have H' := Aside0.mk H
       clear H
       have p106 : 0 ≤ (x5_1 : Int) := of_decide_eq_true hE
       have q106 : x5_1 < (l0.length : Int) := of_decide_eq_true hE
       obtain ⟨ad106, A106_1, c106_1, e106, hx106_0, hx106_1, hl106_1, hi106_1⟩ := at_T91 HR0.out x5_1 p106 q106
       cases e106
       replace hx106_0 := (HB.out.cell (World.block_lt_of_cell? w _ hx106_0)).trans hx106_0
       replace hx106_1 := (HB.out.cell (World.block_lt_of_cell? w _ hx106_1)).trans hx106_1
       have HR106_1 := Aside0.mk hi106_1
       have HC106_1 := Aside0.mk hl106_1
       clear hi106_1 hl106_1
       replace p106 := eq_true p106
       replace q106 := eq_true q106
       go_wp2_with (first | ((with_reducible refine gate_callee (f := 54) rfl ?_); refine goesL_ (some 23) rfl rfl Try.func54 (by kernel_rfl) rfl #[.agg #[.int .i64 ((rd_T91 l0 x5_1).f0), .slice A106_1 ((rd_T91 l0 x5_1).f1).length c106_1], .int .i64 x1_1] rfl aE ?_; (with_reducible refine (laws_szEntity.calls k1 ((rd_T91 l0 x5_1).f0) _ _ ((rd_T91 l0 x5_1).f1) x1_1 t107 _ ?side1 ?side2 A6.out).mono ?_); (case side1 => exact cU (Kd.C_below HR106_1.out HB.out)); (case side2 => exact HC106_1.out); rintro e w9 ⟨rfl, hb⟩; refine ⟨_, rfl, ?_⟩; replace HB := bH (lU) hb; (try clear hb)))
       go_roundg k1
       case measure => have := HK1.out; omega
       case rel => exact ⟨(t107), (wrap64 (x5_1 + 1)), tE, tE, H', ⟨by have := HK1.out; omega⟩, ⟨by repeat (first | (with_reducible first | exact HB.out | apply below_alloc | apply pw_below_drewN | apply below_drew1) | exact HB.out)⟩⟩
     ·rw [if_neg c5] at H
      exact absurd H (by simp)
    ·rw [if_neg c4] at H
     have c4b0 : decide (x5_1 < (l0.length : Int)) = false := decide_eq_false c4
     clear c4
     obtain rfl := Option.some.inj H
     go_wp2
     go_ret
     exact ⟨eE, lU⟩
def laws_szWorld.f (k : Nat) (a0_0 : Int) (a0_1 : Int) (l0_2 : List (S91)) (a1 : Int) : Option (Int) := (laws_szEntityS.f k l0_2 a1).bind fun t109 => (if t109 < 0 then (some (-1)) else (some t109))
theorem laws_szWorld.mono : ∀ a0 a1 a2 a3 k, LeO (laws_szWorld.f k a0 a1 a2 a3) (laws_szWorld.f (k + 1) a0 a1 a2 a3) := by
 intro a0 a1 a2 a3 k
 unfold laws_szWorld.f
 repeat' first
   | (with_reducible exact laws_szEntityS.mono _ _ _)
   | (with_reducible exact LeO.refl _)
   | (with_reducible exact LeO.none _)
   | (with_reducible refine LeO.ite ?_ ?_)
   | (with_reducible refine LeO.bind ?_ (fun _ => ?_))
   | exact laws_szEntityS.mono _ _ _
   | exact LeO.none _
   | refine LeO.ite ?_ ?_
   | refine LeO.bind ?_ (fun _ => ?_)
set_option maxHeartbeats 8000000 in
set_option maxRecDepth 100000 in
theorem laws_szWorld.calls (k : Nat) (a0_0 : Int) (a0_1 : Int) (A0_2 : Option Addr) (c0_2 : Nat) (l0_2 : List (S91)) (a1 : Int) (r : Int) (w : World) (hr0_2 : Kd.C k91 w A0_2 l0_2.length l0_2) (hc0_2 : l0_2.length ≤ c0_2) (h : laws_szWorld.f k a0_0 a0_1 l0_2 a1 = some r) :
  Calls Try.prog 19 #[.agg #[.int .i64 a0_0, .int .i64 a0_1, .slice A0_2 l0_2.length c0_2], .int .i64 a1] w fun e w' => e = .returned (.int .i64 r) ∧ Below w.heap.size w w' := by
 have hu39 := Try.underlying39
 have HR0_2 := Aside0.mk hr0_2
 have HC0_2 := Aside0.mk hc0_2
 clear hr0_2 hc0_2
 have HB := Aside0.mk (Below.refl w.heap.size w)
 have H : ((laws_szEntityS.f k l0_2 a1).bind fun t109 => (if t109 < 0 then (some (-1)) else (some t109))) = some r := h
 clear h
 replace H := Option.bind_eq_some_iff.mp H
 obtain ⟨t109, A30, H⟩ := H
 replace H : (if t109 < 0 then (some (-1)) else (some t109)) = some r := H
 have A3 := Aside0.mk A30
 clear A30
 by_cases c4 : t109 < 0
 ·rw [if_pos c4] at H
  have c4b0 : decide (t109 < 0) = true := decide_eq_true c4
  clear c4
  obtain rfl := Option.some.inj H
  go_enter Try.func19, Try.ntmps19
  go_wp2_with (first | ((with_reducible refine gate_dst (N := 2) rfl ?_); refine box_event rfl (N := 2) rfl (cs := #[.int .i64 a0_0, .int .i64 a0_1, .slice A0_2 l0_2.length c0_2]) (t := 39) sE ?_; intro gb108 hg w5 hbox hb; have BK108 := Aside0.mk hbox; have GW108 := gS w hg (lU); have GE108 := gS w hg (lU); replace HB := bH (lU) hb; clear hb hbox hg; have hcz6_0 := cz BK108 0 (.int .i64 a0_0); have hcz6_1 := cz BK108 1 (.int .i64 a0_1); have hcz6_2 := cz BK108 2 (.slice A0_2 l0_2.length c0_2); have hfz6_0 := fz BK108 0; have hfz6_1 := fz BK108 1; have hfz6_2 := fz BK108 2) | ((with_reducible refine gate_callee (f := 38) rfl ?_); refine goesL_ (some 8) rfl rfl Try.func38 (by kernel_rfl) rfl #[.slice A0_2 l0_2.length c0_2, .int .i64 a1] rfl aE ?_; (with_reducible refine (laws_szEntityS.calls k _ _ l0_2 a1 t109 _ ?side1 ?side2 A3.out).mono ?_); (case side1 => exact cU (Kd.C_below HR0_2.out HB.out)); (case side2 => exact HC0_2.out); rintro e w7 ⟨rfl, hb⟩; refine ⟨_, rfl, ?_⟩; replace BK108 := bB (bV BK108) hb; replace HB := bH (lV1 GE108) hb; (try clear hb)))
  go_ret
  exact ⟨eE, lV1 GE108⟩
 ·rw [if_neg c4] at H
  have c4b0 : decide (t109 < 0) = false := decide_eq_false c4
  clear c4
  obtain rfl := Option.some.inj H
  go_enter Try.func19, Try.ntmps19
  go_wp2_with (first | ((with_reducible refine gate_dst (N := 2) rfl ?_); refine box_event rfl (N := 2) rfl (cs := #[.int .i64 a0_0, .int .i64 a0_1, .slice A0_2 l0_2.length c0_2]) (t := 39) sE ?_; intro gb108 hg w8 hbox hb; have BK108 := Aside0.mk hbox; have GW108 := gS w hg (lU); have GE108 := gS w hg (lU); replace HB := bH (lU) hb; clear hb hbox hg; have hcz9_0 := cz BK108 0 (.int .i64 a0_0); have hcz9_1 := cz BK108 1 (.int .i64 a0_1); have hcz9_2 := cz BK108 2 (.slice A0_2 l0_2.length c0_2); have hfz9_0 := fz BK108 0; have hfz9_1 := fz BK108 1; have hfz9_2 := fz BK108 2) | ((with_reducible refine gate_callee (f := 38) rfl ?_); refine goesL_ (some 8) rfl rfl Try.func38 (by kernel_rfl) rfl #[.slice A0_2 l0_2.length c0_2, .int .i64 a1] rfl aE ?_; (with_reducible refine (laws_szEntityS.calls k _ _ l0_2 a1 t109 _ ?side1 ?side2 A3.out).mono ?_); (case side1 => exact cU (Kd.C_below HR0_2.out HB.out)); (case side2 => exact HC0_2.out); rintro e w10 ⟨rfl, hb⟩; refine ⟨_, rfl, ?_⟩; replace BK108 := bB (bV BK108) hb; replace HB := bH (lV1 GE108) hb; (try clear hb)))
  go_ret
  exact ⟨eE, lV1 GE108⟩
def laws_szStringS.l0 : Nat → List ByteArray → Int → Int → Option (Int)
 | 0, _, _, _ => none
 | k + 1, x0, x1, x5 => if x5 < (x0.length : Int) then (if 0 ≤ x5 then (if (wrap64 (x1 - ((rdOf ByteArray.empty x0 x5).size : Int))) < 0 then (some (-1)) else (laws_szStringS.l0 k x0 (wrap64 (x1 - ((rdOf ByteArray.empty x0 x5).size : Int))) (wrap64 (x5 + 1)))) else (none)) else (some x1)
def laws_szStringS.f (k : Nat) (l0 : List ByteArray) (a1 : Int) : Option (Int) := if (wrap64 (a1 - (l0.length : Int))) < 0 then (some (-1)) else (laws_szStringS.l0 k l0 (wrap64 (a1 - (l0.length : Int))) 0)
theorem laws_szStringS.mono_l : ∀ k, (∀ y0 y1 y2, LeO (laws_szStringS.l0 k y0 y1 y2) (laws_szStringS.l0 (k + 1) y0 y1 y2))
 | 0 => fun _ _ _ r h => by simp [laws_szStringS.l0] at h
 | k + 1 => by
  have ih0 := laws_szStringS.mono_l k
  ·intro y0 y1 y2
   unfold laws_szStringS.l0
   repeat' first
   | (with_reducible exact ih0 _ _ _)
   | (with_reducible exact LeO.refl _)
   | (with_reducible exact LeO.none _)
   | (with_reducible refine LeO.ite ?_ ?_)
   | (with_reducible refine LeO.bind ?_ (fun _ => ?_))
   | exact ih0 _ _ _
   | exact LeO.none _
   | refine LeO.ite ?_ ?_
   | refine LeO.bind ?_ (fun _ => ?_)
theorem laws_szStringS.mono : ∀ a0 a1 k, LeO (laws_szStringS.f k a0 a1) (laws_szStringS.f (k + 1) a0 a1) := by
 intro a0 a1 k
 have ih0 := laws_szStringS.mono_l k
 unfold laws_szStringS.f
 repeat' first
   | (with_reducible exact ih0 _ _ _)
   | (with_reducible exact LeO.refl _)
   | (with_reducible exact LeO.none _)
   | (with_reducible refine LeO.ite ?_ ?_)
   | (with_reducible refine LeO.bind ?_ (fun _ => ?_))
   | exact ih0 _ _ _
   | exact LeO.none _
   | refine LeO.ite ?_ ?_
   | refine LeO.bind ?_ (fun _ => ?_)
set_option maxHeartbeats 8000000 in
set_option maxRecDepth 100000 in
theorem laws_szStringS.calls (k : Nat) (A0 : Option Addr) (c0 : Nat) (l0 : List ByteArray) (a1 : Int) (r : Int) (w : World) (hr0 : Kd.C Kd.string w A0 l0.length l0) (hc0 : l0.length ≤ c0) (h : laws_szStringS.f k l0 a1 = some r) :
  Calls Try.prog 39 #[.slice A0 l0.length c0, .int .i64 a1] w fun e w' => e = .returned (.int .i64 r) ∧ Drawn0 w w' := by
 have HR0 := Aside0.mk hr0
 have HC0 := Aside0.mk hc0
 clear hr0 hc0
 have H : (if (wrap64 (a1 - (l0.length : Int))) < 0 then (some (-1)) else (laws_szStringS.l0 k l0 (wrap64 (a1 - (l0.length : Int))) 0)) = some r := h
 clear h
 by_cases c3 : (wrap64 (a1 - (l0.length : Int))) < 0
 ·rw [if_pos c3] at H
  have c3b0 : decide ((wrap64 (a1 - (l0.length : Int))) < 0) = true := decide_eq_true c3
  clear c3
  obtain rfl := Option.some.inj H
  go_enter Try.func39, Try.ntmps39
  go_wp2
  go_ret
  exact ⟨by first | rfl | (simp; done) | (simp [*]; done) | exact not_isEmpty _ | exact (not_isEmpty _).symm | exact is_empty _ | exact (is_empty _).symm, by repeat (first | exact Drawn0.refl _ | apply Drawn0.step)⟩
 ·rw [if_neg c3] at H
  have c3b0 : decide ((wrap64 (a1 - (l0.length : Int))) < 0) = false := decide_eq_false c3
  clear c3
  have H' := Aside0.mk H
  clear H
  go_enter Try.func39, Try.ntmps39
  go_wp2
  go_loopg [1, 5] k (fun kq v1 v5 w' => ∃ (x1_1 : Int) (x5_1 : Int), v1 = .int .i64 x1_1 ∧ v5 = .int .i64 x5_1 ∧ Aside0 (laws_szStringS.l0 kq l0 x1_1 x5_1 = some r) ∧ Aside0 (kq ≤ k) ∧ Drawn0 w w')
  case atStart => exact ⟨(wrap64 (a1 - (l0.length : Int))), (0), tE, tE, H', ⟨Nat.le_refl _⟩, by repeat (first | exact Drawn0.refl _ | apply Drawn0.step)⟩
  case round =>
   clear H'
   try clear p2
   try clear c3
   try clear c3b0
   obtain ⟨x1_1, x5_1, rfl, rfl, HA, HK1, ⟨m1, rfl⟩⟩ := hrel
   cases gk with
   | zero => exact absurd HA.out (by simp [laws_szStringS.l0])
   | succ k1 =>
    have H := HA.out
    clear HA
    simp only [laws_szStringS.l0] at H
    by_cases c4 : x5_1 < (l0.length : Int)
    ·rw [if_pos c4] at H
     have c4b0 : decide (x5_1 < (l0.length : Int)) = true := decide_eq_true c4
     clear c4
     by_cases c5 : 0 ≤ x5_1
     ·rw [if_pos c5] at H
      have c5b0 : decide (0 ≤ x5_1) = true := decide_eq_true c5
      clear c5
      by_cases c6 : (wrap64 (x1_1 - ((rdOf ByteArray.empty l0 x5_1).size : Int))) < 0
      ·rw [if_pos c6] at H
       have c6b0 : decide ((wrap64 (x1_1 - ((rdOf ByteArray.empty l0 x5_1).size : Int))) < 0) = true := decide_eq_true c6
       clear c6
       obtain rfl := Option.some.inj H
       have p110 : 0 ≤ (x5_1 : Int) := of_decide_eq_true hE
       have q110 : x5_1 < (l0.length : Int) := of_decide_eq_true hE
       obtain ⟨ad110, e110, hx110_0⟩ := Kd.at_string HR0.out x5_1 p110 q110
       cases e110
       replace p110 := eq_true p110
       replace q110 := eq_true q110
       go_wp2
       go_ret
       exact ⟨by first | rfl | (simp; done) | (simp [*]; done) | exact not_isEmpty _ | exact (not_isEmpty _).symm | exact is_empty _ | exact (is_empty _).symm, by repeat (first | exact Drawn0.refl _ | apply Drawn0.step)⟩
      ·rw [if_neg c6] at H
       have c6b0 : decide ((wrap64 (x1_1 - ((rdOf ByteArray.empty l0 x5_1).size : Int))) < 0) = false := decide_eq_false c6
       clear c6
       have H' := Aside0.mk H
       clear H
       have p110 : 0 ≤ (x5_1 : Int) := of_decide_eq_true hE
       have q110 : x5_1 < (l0.length : Int) := of_decide_eq_true hE
       obtain ⟨ad110, e110, hx110_0⟩ := Kd.at_string HR0.out x5_1 p110 q110
       cases e110
       replace p110 := eq_true p110
       replace q110 := eq_true q110
       go_wp2
       go_roundg k1
       case measure => have := HK1.out; omega
       case rel => exact ⟨(wrap64 (x1_1 - ((rdOf ByteArray.empty l0 x5_1).size : Int))), (wrap64 (x5_1 + 1)), tE, tE, H', ⟨by have := HK1.out; omega⟩, by repeat (first | exact Drawn0.refl _ | apply Drawn0.step)⟩
     ·rw [if_neg c5] at H
      exact absurd H (by simp)
    ·rw [if_neg c4] at H
     have c4b0 : decide (x5_1 < (l0.length : Int)) = false := decide_eq_false c4
     clear c4
     obtain rfl := Option.some.inj H
     go_wp2
     go_ret
     exact ⟨by first | rfl | (simp; done) | (simp [*]; done) | exact not_isEmpty _ | exact (not_isEmpty _).symm | exact is_empty _ | exact (is_empty _).symm, by repeat (first | exact Drawn0.refl _ | apply Drawn0.step)⟩
def laws_szQuery.f (k : Nat) (l0_0 : List ByteArray) (l0_1 : List ByteArray) (a0_2 : Int) (a1 : Int) : Option (Int) := (laws_szStringS.f k l0_0 a1).bind fun t112 => (if t112 < 0 then (some (-1)) else ((laws_szStringS.f k l0_1 t112).bind fun t113 => (if t113 < 0 then (some (-1)) else (some t113))))
theorem laws_szQuery.mono : ∀ a0 a1 a2 a3 k, LeO (laws_szQuery.f k a0 a1 a2 a3) (laws_szQuery.f (k + 1) a0 a1 a2 a3) := by
 intro a0 a1 a2 a3 k
 unfold laws_szQuery.f
 repeat' first
   | (with_reducible exact laws_szStringS.mono _ _ _)
   | (with_reducible exact LeO.refl _)
   | (with_reducible exact LeO.none _)
   | (with_reducible refine LeO.ite ?_ ?_)
   | (with_reducible refine LeO.bind ?_ (fun _ => ?_))
   | exact laws_szStringS.mono _ _ _
   | exact LeO.none _
   | refine LeO.ite ?_ ?_
   | refine LeO.bind ?_ (fun _ => ?_)
set_option maxHeartbeats 8000000 in
set_option maxRecDepth 100000 in
theorem laws_szQuery.calls (k : Nat) (A0_0 : Option Addr) (c0_0 : Nat) (l0_0 : List ByteArray) (A0_1 : Option Addr) (c0_1 : Nat) (l0_1 : List ByteArray) (a0_2 : Int) (a1 : Int) (r : Int) (w : World) (hr0_0 : Kd.C Kd.string w A0_0 l0_0.length l0_0) (hc0_0 : l0_0.length ≤ c0_0) (hr0_1 : Kd.C Kd.string w A0_1 l0_1.length l0_1) (hc0_1 : l0_1.length ≤ c0_1) (h : laws_szQuery.f k l0_0 l0_1 a0_2 a1 = some r) :
  Calls Try.prog 20 #[.agg #[.slice A0_0 l0_0.length c0_0, .slice A0_1 l0_1.length c0_1, .int .i64 a0_2], .int .i64 a1] w fun e w' => e = .returned (.int .i64 r) ∧ Below w.heap.size w w' := by
 have hu42 := Try.underlying42
 have HR0_0 := Aside0.mk hr0_0
 have HC0_0 := Aside0.mk hc0_0
 clear hr0_0 hc0_0
 have HR0_1 := Aside0.mk hr0_1
 have HC0_1 := Aside0.mk hc0_1
 clear hr0_1 hc0_1
 have HB := Aside0.mk (Below.refl w.heap.size w)
 have H : ((laws_szStringS.f k l0_0 a1).bind fun t112 => (if t112 < 0 then (some (-1)) else ((laws_szStringS.f k l0_1 t112).bind fun t113 => (if t113 < 0 then (some (-1)) else (some t113))))) = some r := h
 clear h
 replace H := Option.bind_eq_some_iff.mp H
 obtain ⟨t112, A30, H⟩ := H
 replace H : (if t112 < 0 then (some (-1)) else ((laws_szStringS.f k l0_1 t112).bind fun t113 => (if t113 < 0 then (some (-1)) else (some t113)))) = some r := H
 have A3 := Aside0.mk A30
 clear A30
 by_cases c4 : t112 < 0
 ·rw [if_pos c4] at H
  have c4b0 : decide (t112 < 0) = true := decide_eq_true c4
  clear c4
  obtain rfl := Option.some.inj H
  go_enter Try.func20, Try.ntmps20
  go_wp2_with (first | ((with_reducible refine gate_dst (N := 2) rfl ?_); refine box_event rfl (N := 2) rfl (cs := #[.slice A0_0 l0_0.length c0_0, .slice A0_1 l0_1.length c0_1, .int .i64 a0_2]) (t := 42) sE ?_; intro gb111 hg w5 hbox hb; have BK111 := Aside0.mk hbox; have GW111 := gS w hg (lU); have GE111 := gS w hg (lU); replace HB := bH (lU) hb; clear hb hbox hg; have hcz6_0 := cz BK111 0 (.slice A0_0 l0_0.length c0_0); have hcz6_1 := cz BK111 1 (.slice A0_1 l0_1.length c0_1); have hcz6_2 := cz BK111 2 (.int .i64 a0_2); have hfz6_0 := fz BK111 0; have hfz6_1 := fz BK111 1; have hfz6_2 := fz BK111 2) | ((with_reducible refine gate_callee (f := 39) rfl ?_); refine goesL_ (some 8) rfl rfl Try.func39 (by kernel_rfl) rfl #[.slice A0_0 l0_0.length c0_0, .int .i64 a1] rfl aE ?_; (with_reducible refine (laws_szStringS.calls k _ _ l0_0 a1 t112 _ ?side1 ?side2 A3.out).mono ?_); (case side1 => exact cU (Kd.C_below HR0_0.out HB.out)); (case side2 => exact HC0_0.out); rintro e w' ⟨rfl, ⟨nd, rfl⟩⟩; refine ⟨_, rfl, ?_⟩))
  go_ret
  exact ⟨eE, lV1 GE111⟩
 ·rw [if_neg c4] at H
  have c4b0 : decide (t112 < 0) = false := decide_eq_false c4
  clear c4
  replace H := Option.bind_eq_some_iff.mp H
  obtain ⟨t113, A70, H⟩ := H
  replace H : (if t113 < 0 then (some (-1)) else (some t113)) = some r := H
  have A7 := Aside0.mk A70
  clear A70
  by_cases c8 : t113 < 0
  ·rw [if_pos c8] at H
   have c8b0 : decide (t113 < 0) = true := decide_eq_true c8
   clear c8
   obtain rfl := Option.some.inj H
   go_enter Try.func20, Try.ntmps20
   go_wp2_with (first | ((with_reducible refine gate_dst (N := 2) rfl ?_); refine box_event rfl (N := 2) rfl (cs := #[.slice A0_0 l0_0.length c0_0, .slice A0_1 l0_1.length c0_1, .int .i64 a0_2]) (t := 42) sE ?_; intro gb111 hg w9 hbox hb; have BK111 := Aside0.mk hbox; have GW111 := gS w hg (lU); have GE111 := gS w hg (lU); replace HB := bH (lU) hb; clear hb hbox hg; have hcz10_0 := cz BK111 0 (.slice A0_0 l0_0.length c0_0); have hcz10_1 := cz BK111 1 (.slice A0_1 l0_1.length c0_1); have hcz10_2 := cz BK111 2 (.int .i64 a0_2); have hfz10_0 := fz BK111 0; have hfz10_1 := fz BK111 1; have hfz10_2 := fz BK111 2) | ((with_reducible refine gate_callee (f := 39) rfl ?_); refine goesL_ (some 8) rfl rfl Try.func39 (by kernel_rfl) rfl #[.slice A0_0 l0_0.length c0_0, .int .i64 a1] rfl aE ?_; (with_reducible refine (laws_szStringS.calls k _ _ l0_0 a1 t112 _ ?side1 ?side2 A3.out).mono ?_); (case side1 => exact cU (Kd.C_below HR0_0.out HB.out)); (case side2 => exact HC0_0.out); rintro e w' ⟨rfl, ⟨nd, rfl⟩⟩; refine ⟨_, rfl, ?_⟩) | ((with_reducible refine gate_callee (f := 39) rfl ?_); refine goesL_ (some 14) rfl rfl Try.func39 (by kernel_rfl) rfl #[.slice A0_1 l0_1.length c0_1, .int .i64 t112] rfl aE ?_; (with_reducible refine (laws_szStringS.calls k _ _ l0_1 t112 t113 _ ?side1 ?side2 A7.out).mono ?_); (case side1 => exact cU (Kd.C_below HR0_1.out (lV1 GE111))); (case side2 => exact HC0_1.out); rintro e w' ⟨rfl, ⟨nd, rfl⟩⟩; refine ⟨_, rfl, ?_⟩))
   go_ret
   exact ⟨eE, lV1 GE111⟩
  ·rw [if_neg c8] at H
   have c8b0 : decide (t113 < 0) = false := decide_eq_false c8
   clear c8
   obtain rfl := Option.some.inj H
   go_enter Try.func20, Try.ntmps20
   go_wp2_with (first | ((with_reducible refine gate_dst (N := 2) rfl ?_); refine box_event rfl (N := 2) rfl (cs := #[.slice A0_0 l0_0.length c0_0, .slice A0_1 l0_1.length c0_1, .int .i64 a0_2]) (t := 42) sE ?_; intro gb111 hg w11 hbox hb; have BK111 := Aside0.mk hbox; have GW111 := gS w hg (lU); have GE111 := gS w hg (lU); replace HB := bH (lU) hb; clear hb hbox hg; have hcz12_0 := cz BK111 0 (.slice A0_0 l0_0.length c0_0); have hcz12_1 := cz BK111 1 (.slice A0_1 l0_1.length c0_1); have hcz12_2 := cz BK111 2 (.int .i64 a0_2); have hfz12_0 := fz BK111 0; have hfz12_1 := fz BK111 1; have hfz12_2 := fz BK111 2) | ((with_reducible refine gate_callee (f := 39) rfl ?_); refine goesL_ (some 8) rfl rfl Try.func39 (by kernel_rfl) rfl #[.slice A0_0 l0_0.length c0_0, .int .i64 a1] rfl aE ?_; (with_reducible refine (laws_szStringS.calls k _ _ l0_0 a1 t112 _ ?side1 ?side2 A3.out).mono ?_); (case side1 => exact cU (Kd.C_below HR0_0.out HB.out)); (case side2 => exact HC0_0.out); rintro e w' ⟨rfl, ⟨nd, rfl⟩⟩; refine ⟨_, rfl, ?_⟩) | ((with_reducible refine gate_callee (f := 39) rfl ?_); refine goesL_ (some 14) rfl rfl Try.func39 (by kernel_rfl) rfl #[.slice A0_1 l0_1.length c0_1, .int .i64 t112] rfl aE ?_; (with_reducible refine (laws_szStringS.calls k _ _ l0_1 t112 t113 _ ?side1 ?side2 A7.out).mono ?_); (case side1 => exact cU (Kd.C_below HR0_1.out (lV1 GE111))); (case side2 => exact HC0_1.out); rintro e w' ⟨rfl, ⟨nd, rfl⟩⟩; refine ⟨_, rfl, ?_⟩))
   go_ret
   exact ⟨eE, lV1 GE111⟩
def spec_l1In.f (a0 : Int) (a1 : Int) (a2 : Int) : Option (Bool) := if a0 ≥ a1 then (some (decide (a0 ≤ a2))) else (some false)
set_option maxHeartbeats 8000000 in
set_option maxRecDepth 100000 in
theorem spec_l1In.calls (a0 : Int) (a1 : Int) (a2 : Int) (r : Bool) (w : World) (h : spec_l1In.f a0 a1 a2 = some r) :
  Calls Try.prog 42 #[.int .i64 a0, .int .i64 a1, .int .i64 a2] w fun e w' => e = .returned (.bool r) ∧ Drawn0 w w' := by
 have H : (if a0 ≥ a1 then (some (decide (a0 ≤ a2))) else (some false)) = some r := h
 clear h
 by_cases c4 : a0 ≥ a1
 ·rw [if_pos c4] at H
  have c4b0 : decide (a1 ≤ a0) = true := decide_eq_true c4
  clear c4
  obtain rfl := Option.some.inj H
  go_enter Try.func42, Try.ntmps42
  go_wp2
  go_ret
  exact ⟨by first | rfl | (simp; done) | (simp [*]; done) | exact not_isEmpty _ | exact (not_isEmpty _).symm | exact is_empty _ | exact (is_empty _).symm, by repeat (first | exact Drawn0.refl _ | apply Drawn0.step)⟩
 ·rw [if_neg c4] at H
  have c4b0 : decide (a1 ≤ a0) = false := decide_eq_false c4
  clear c4
  obtain rfl := Option.some.inj H
  go_enter Try.func42, Try.ntmps42
  go_wp2
  go_ret
  exact ⟨by first | rfl | (simp; done) | (simp [*]; done) | exact not_isEmpty _ | exact (not_isEmpty _).symm | exact is_empty _ | exact (is_empty _).symm, by repeat (first | exact Drawn0.refl _ | apply Drawn0.step)⟩
def spec_l1Digit.f (a0 : Int) : Option (Bool) := if a0 ≥ 48 then (some (decide (a0 ≤ 57))) else (some false)
set_option maxHeartbeats 8000000 in
set_option maxRecDepth 100000 in
theorem spec_l1Digit.calls (a0 : Int) (r : Bool) (w : World) (h : spec_l1Digit.f a0 = some r) :
  Calls Try.prog 64 #[.int .u8 a0] w fun e w' => e = .returned (.bool r) ∧ Drawn0 w w' := by
 have H : (if a0 ≥ 48 then (some (decide (a0 ≤ 57))) else (some false)) = some r := h
 clear h
 by_cases c2 : a0 ≥ 48
 ·rw [if_pos c2] at H
  have c2b0 : decide (48 ≤ a0) = true := decide_eq_true c2
  clear c2
  obtain rfl := Option.some.inj H
  go_enter Try.func64, Try.ntmps64
  go_wp2
  go_ret
  exact ⟨by first | rfl | (simp; done) | (simp [*]; done) | exact not_isEmpty _ | exact (not_isEmpty _).symm | exact is_empty _ | exact (is_empty _).symm, by repeat (first | exact Drawn0.refl _ | apply Drawn0.step)⟩
 ·rw [if_neg c2] at H
  have c2b0 : decide (48 ≤ a0) = false := decide_eq_false c2
  clear c2
  obtain rfl := Option.some.inj H
  go_enter Try.func64, Try.ntmps64
  go_wp2
  go_ret
  exact ⟨by first | rfl | (simp; done) | (simp [*]; done) | exact not_isEmpty _ | exact (not_isEmpty _).symm | exact is_empty _ | exact (is_empty _).symm, by repeat (first | exact Drawn0.refl _ | apply Drawn0.step)⟩
def spec_l1Letter.f (a0 : Int) : Option (Bool) := if a0 ≥ 97 then (if a0 ≤ 122 then (some true) else (if a0 ≥ 65 then (if a0 ≤ 90 then (some true) else (some (a0 == 95))) else (some (a0 == 95)))) else (if a0 ≥ 65 then (if a0 ≤ 90 then (some true) else (some (a0 == 95))) else (some (a0 == 95)))
set_option maxHeartbeats 8000000 in
set_option maxRecDepth 100000 in
theorem spec_l1Letter.calls (a0 : Int) (r : Bool) (w : World) (h : spec_l1Letter.f a0 = some r) :
  Calls Try.prog 65 #[.int .u8 a0] w fun e w' => e = .returned (.bool r) ∧ Drawn0 w w' := by
 have H : (if a0 ≥ 97 then (if a0 ≤ 122 then (some true) else (if a0 ≥ 65 then (if a0 ≤ 90 then (some true) else (some (a0 == 95))) else (some (a0 == 95)))) else (if a0 ≥ 65 then (if a0 ≤ 90 then (some true) else (some (a0 == 95))) else (some (a0 == 95)))) = some r := h
 clear h
 by_cases c2 : a0 ≥ 97
 ·rw [if_pos c2] at H
  have c2b0 : decide (97 ≤ a0) = true := decide_eq_true c2
  clear c2
  by_cases c3 : a0 ≤ 122
  ·rw [if_pos c3] at H
   have c3b0 : decide (a0 ≤ 122) = true := decide_eq_true c3
   clear c3
   obtain rfl := Option.some.inj H
   go_enter Try.func65, Try.ntmps65
   go_wp2
   go_ret
   exact ⟨by first | rfl | (simp; done) | (simp [*]; done) | exact not_isEmpty _ | exact (not_isEmpty _).symm | exact is_empty _ | exact (is_empty _).symm, by repeat (first | exact Drawn0.refl _ | apply Drawn0.step)⟩
  ·rw [if_neg c3] at H
   have c3b0 : decide (a0 ≤ 122) = false := decide_eq_false c3
   clear c3
   by_cases c4 : a0 ≥ 65
   ·rw [if_pos c4] at H
    have c4b0 : decide (65 ≤ a0) = true := decide_eq_true c4
    clear c4
    by_cases c5 : a0 ≤ 90
    ·rw [if_pos c5] at H
     have c5b0 : decide (a0 ≤ 90) = true := decide_eq_true c5
     clear c5
     obtain rfl := Option.some.inj H
     go_enter Try.func65, Try.ntmps65
     go_wp2
     go_ret
     exact ⟨by first | rfl | (simp; done) | (simp [*]; done) | exact not_isEmpty _ | exact (not_isEmpty _).symm | exact is_empty _ | exact (is_empty _).symm, by repeat (first | exact Drawn0.refl _ | apply Drawn0.step)⟩
    ·rw [if_neg c5] at H
     have c5b0 : decide (a0 ≤ 90) = false := decide_eq_false c5
     clear c5
     obtain rfl := Option.some.inj H
     go_enter Try.func65, Try.ntmps65
     go_wp2
     go_ret
     exact ⟨by first | rfl | (simp; done) | (simp [*]; done) | exact not_isEmpty _ | exact (not_isEmpty _).symm | exact is_empty _ | exact (is_empty _).symm, by repeat (first | exact Drawn0.refl _ | apply Drawn0.step)⟩
   ·rw [if_neg c4] at H
    have c4b0 : decide (65 ≤ a0) = false := decide_eq_false c4
    clear c4
    obtain rfl := Option.some.inj H
    go_enter Try.func65, Try.ntmps65
    go_wp2
    go_ret
    exact ⟨by first | rfl | (simp; done) | (simp [*]; done) | exact not_isEmpty _ | exact (not_isEmpty _).symm | exact is_empty _ | exact (is_empty _).symm, by repeat (first | exact Drawn0.refl _ | apply Drawn0.step)⟩
 ·rw [if_neg c2] at H
  have c2b0 : decide (97 ≤ a0) = false := decide_eq_false c2
  clear c2
  by_cases c6 : a0 ≥ 65
  ·rw [if_pos c6] at H
   have c6b0 : decide (65 ≤ a0) = true := decide_eq_true c6
   clear c6
   by_cases c7 : a0 ≤ 90
   ·rw [if_pos c7] at H
    have c7b0 : decide (a0 ≤ 90) = true := decide_eq_true c7
    clear c7
    obtain rfl := Option.some.inj H
    go_enter Try.func65, Try.ntmps65
    go_wp2
    go_ret
    exact ⟨by first | rfl | (simp; done) | (simp [*]; done) | exact not_isEmpty _ | exact (not_isEmpty _).symm | exact is_empty _ | exact (is_empty _).symm, by repeat (first | exact Drawn0.refl _ | apply Drawn0.step)⟩
   ·rw [if_neg c7] at H
    have c7b0 : decide (a0 ≤ 90) = false := decide_eq_false c7
    clear c7
    obtain rfl := Option.some.inj H
    go_enter Try.func65, Try.ntmps65
    go_wp2
    go_ret
    exact ⟨by first | rfl | (simp; done) | (simp [*]; done) | exact not_isEmpty _ | exact (not_isEmpty _).symm | exact is_empty _ | exact (is_empty _).symm, by repeat (first | exact Drawn0.refl _ | apply Drawn0.step)⟩
  ·rw [if_neg c6] at H
   have c6b0 : decide (65 ≤ a0) = false := decide_eq_false c6
   clear c6
   obtain rfl := Option.some.inj H
   go_enter Try.func65, Try.ntmps65
   go_wp2
   go_ret
   exact ⟨by first | rfl | (simp; done) | (simp [*]; done) | exact not_isEmpty _ | exact (not_isEmpty _).symm | exact is_empty _ | exact (is_empty _).symm, by repeat (first | exact Drawn0.refl _ | apply Drawn0.step)⟩
end Go.Proofs.Ytcpodjegdpbalaa.PFnExactQueryWorld
namespace Go.Proofs.Ytcpodjegdpbalaa.PFnExactQueryWorld
open Go.RowKit Go.Proofs.YtcpodjegdpbalaaW.PrintWords Go.Proofs.YtcpodjegdpbalaaW.PrintLast Go.Proofs.YtcpodjegdpbalaaW.PrintMore
attribute [local go_sem] max2_int min2_int max_two min_two max_three min_three max_four min_four   -- for this text's walks alone
set_option linter.unusedVariables false
set_option linter.unusedSimpArgs false
mutual
def spec_GoodName.j0 : Nat → ByteArray → Bool → Option (Bool)
 | 0, _, _ => none
 | k + 1, x0, x16 => if x16 = true then (some false) else (spec_GoodName.l0 k x0 0)
def spec_GoodName.l0 : Nat → ByteArray → Int → Option (Bool)
 | 0, _, _ => none
 | k + 1, x0, x3 => if x3 < (x0.size : Int) then (if 0 ≤ x3 then ((spec_l1Letter.f (bt x0 x3)).bind fun t115 => (if t115 = true then (spec_GoodName.l0 k x0 (wrap64 (x3 + 1))) else ((spec_l1Digit.f (bt x0 x3)).bind fun t116 => (if t116 = true then (spec_GoodName.l0 k x0 (wrap64 (x3 + 1))) else (some false))))) else (none)) else (some true)
end
def spec_GoodName.f (k : Nat) (a0 : ByteArray) : Option (Bool) := if (a0.size : Int) < 1 then (spec_GoodName.j0 k a0 true) else (if (a0.size : Int) > 20 then (spec_GoodName.j0 k a0 true) else (if 0 < (a0.size : Int) then ((spec_l1Digit.f (bt a0 0)).bind fun t114 => (spec_GoodName.j0 k a0 t114)) else (none)))
theorem spec_GoodName.mono_l : ∀ k, (∀ y0 y1, LeO (spec_GoodName.j0 k y0 y1) (spec_GoodName.j0 (k + 1) y0 y1)) ∧ (∀ y0 y1, LeO (spec_GoodName.l0 k y0 y1) (spec_GoodName.l0 (k + 1) y0 y1))
 | 0 => ⟨fun _ _ r h => by simp [spec_GoodName.j0] at h, fun _ _ r h => by simp [spec_GoodName.l0] at h⟩
 | k + 1 => by
  obtain ⟨ih0, ih1⟩ := spec_GoodName.mono_l k
  refine ⟨?_, ?_⟩
  ·intro y0 y1
   unfold spec_GoodName.j0
   repeat' first
   | (with_reducible exact ih0 _ _)
   | (with_reducible exact ih1 _ _)
   | (with_reducible exact LeO.refl _)
   | (with_reducible exact LeO.none _)
   | (with_reducible refine LeO.ite ?_ ?_)
   | (with_reducible refine LeO.bind ?_ (fun _ => ?_))
   | exact ih0 _ _
   | exact ih1 _ _
   | exact LeO.none _
   | refine LeO.ite ?_ ?_
   | refine LeO.bind ?_ (fun _ => ?_)
  ·intro y0 y1
   unfold spec_GoodName.l0
   repeat' first
   | (with_reducible exact ih0 _ _)
   | (with_reducible exact ih1 _ _)
   | (with_reducible exact LeO.refl _)
   | (with_reducible exact LeO.none _)
   | (with_reducible refine LeO.ite ?_ ?_)
   | (with_reducible refine LeO.bind ?_ (fun _ => ?_))
   | exact ih0 _ _
   | exact ih1 _ _
   | exact LeO.none _
   | refine LeO.ite ?_ ?_
   | refine LeO.bind ?_ (fun _ => ?_)
theorem spec_GoodName.mono : ∀ a0 k, LeO (spec_GoodName.f k a0) (spec_GoodName.f (k + 1) a0) := by
 intro a0 k
 obtain ⟨ih0, ih1⟩ := spec_GoodName.mono_l k
 unfold spec_GoodName.f
 repeat' first
   | (with_reducible exact ih0 _ _)
   | (with_reducible exact ih1 _ _)
   | (with_reducible exact LeO.refl _)
   | (with_reducible exact LeO.none _)
   | (with_reducible refine LeO.ite ?_ ?_)
   | (with_reducible refine LeO.bind ?_ (fun _ => ?_))
   | exact ih0 _ _
   | exact ih1 _ _
   | exact LeO.none _
   | refine LeO.ite ?_ ?_
   | refine LeO.bind ?_ (fun _ => ?_)
set_option maxHeartbeats 8000000 in
set_option maxRecDepth 100000 in
theorem spec_GoodName.calls (k : Nat) (a0 : ByteArray) (r : Bool) (w : World) (h : spec_GoodName.f k a0 = some r) :
  Calls Try.prog 55 #[.string a0] w fun e w' => e = .returned (.bool r) ∧ Drawn0 w w' := by
 have H : (if (a0.size : Int) < 1 then (spec_GoodName.j0 k a0 true) else (if (a0.size : Int) > 20 then (spec_GoodName.j0 k a0 true) else (if 0 < (a0.size : Int) then ((spec_l1Digit.f (bt a0 0)).bind fun t114 => (spec_GoodName.j0 k a0 t114)) else (none)))) = some r := h
 clear h
 have HC2 := Aside0.mk H
 clear H
 go_enter Try.func55, Try.ntmps55
 go_upto_region 1 with (fail)
 go_cut [16] (fun v16 wc => ∃ (kq : Nat) (x16_1 : Bool), v16 = .bool x16_1 ∧ Aside0 (spec_GoodName.j0 kq a0 x16_1 = some r) ∧ Aside0 (kq ≤ k) ∧ Drawn0 w wc)
 case first =>
  have H := HC2.out
  clear HC2
  by_cases c3 : (a0.size : Int) < 1
  ·rw [if_pos c3] at H
   have c3b0 : decide ((a0.size : Int) < 1) = true := decide_eq_true c3
   have c3b1 : decide (a0.size < 1) = true := decide_eq_true (by omega)
   clear c3
   (first | rw [c3b0] | (simp only [i64_w, i32_w]; rw [c3b0]) | (rw [c3b2]; simp only [Bool.not_false, Bool.not_true]) | skip)
   have H' := Aside0.mk H
   clear H
   go_wp2
   go_meet
   case rel => exact ⟨_, (true), tE, H', ⟨by first | omega | exact Nat.le_refl _⟩, by repeat (first | exact Drawn0.refl _ | apply Drawn0.step)⟩
  ·rw [if_neg c3] at H
   have c3b0 : decide ((a0.size : Int) < 1) = false := decide_eq_false c3
   have c3b1 : decide (a0.size < 1) = false := decide_eq_false (by omega)
   clear c3
   (first | rw [c3b0] | (simp only [i64_w, i32_w]; rw [c3b0]) | (rw [c3b2]; simp only [Bool.not_false, Bool.not_true]) | skip)
   by_cases c4 : (a0.size : Int) > 20
   ·rw [if_pos c4] at H
    have c4b0 : decide (20 < (a0.size : Int)) = true := decide_eq_true c4
    have c4b1 : decide (20 < a0.size) = true := decide_eq_true (by omega)
    clear c4
    have H' := Aside0.mk H
    clear H
    go_wp2
    go_meet
    case rel => exact ⟨_, (true), tE, H', ⟨by first | omega | exact Nat.le_refl _⟩, by repeat (first | exact Drawn0.refl _ | apply Drawn0.step)⟩
   ·rw [if_neg c4] at H
    have c4b0 : decide (20 < (a0.size : Int)) = false := decide_eq_false c4
    have c4b1 : decide (20 < a0.size) = false := decide_eq_false (by omega)
    clear c4
    by_cases c5 : 0 < (a0.size : Int)
    ·rw [if_pos c5] at H
     have c5b0 : decide (0 < (a0.size : Int)) = true := decide_eq_true c5
     have c5b1 : decide (0 < a0.size) = true := decide_eq_true (by omega)
     clear c5
     replace H := Option.bind_eq_some_iff.mp H
     obtain ⟨t114, A70, H⟩ := H
     replace H : (spec_GoodName.j0 k a0 t114) = some r := H
     have A7 := Aside0.mk A70
     clear A70
     have H' := Aside0.mk H
     clear H
     have p6 : 0 ≤ (0 : Int) := (by omega)
     have q6 : 0 < a0.size := (by have : (0 : Int) < (a0.size : Int) := of_decide_eq_true hE; omega)
     have hx6 : ∀ h : 0 < a0.size, ((a0[0]'h).toNat : Int) = bt a0 0 := bt_at a0 0
     clear p6
     have qi6 : (0 < (a0.size : Int)) = True := eq_true (of_decide_eq_true hE)
     replace q6 := eq_true q6
     go_wp2_with (first | (go_at_call 64; (with_reducible refine (spec_l1Digit.calls (bt a0 0) t114 _ A7.out).mono ?_); rintro e w' ⟨rfl, ⟨nd, rfl⟩⟩))
     go_meet
     case rel => exact ⟨_, (t114), tE, H', ⟨by first | omega | exact Nat.le_refl _⟩, by repeat (first | exact Drawn0.refl _ | apply Drawn0.step)⟩
    ·rw [if_neg c5] at H
     exact absurd H (by simp)
 case rest =>
  clear HC2
  try clear p2
  try clear c3
  try clear c3b0
  try clear c3b1
  try clear c3b2
  try clear c4
  try clear c4b0
  try clear c4b1
  try clear c5
  try clear c5b0
  try clear c5b1
  try clear p6
  try clear q6
  try clear hx6
  try clear qi6
  try clear p6
  try clear q6
  obtain ⟨kq, x16_1, rfl, HA, HJ1, ⟨mc1, rfl⟩⟩ := hcut
  cases kq with
  | zero => exact absurd HA.out (by simp [spec_GoodName.j0])
  | succ kj1 =>
   have H := HA.out
   clear HA
   simp only [spec_GoodName.j0] at H
   by_cases c8 : x16_1 = true
   ·subst c8
    have H1 : (some false) = some r := by rw [if_pos rfl] at H; exact H
    clear H
    have H := H1
    clear H1
    obtain rfl := Option.some.inj H
    go_wp2
    go_ret
    exact ⟨by first | rfl | (simp; done) | (simp [*]; done) | exact not_isEmpty _ | exact (not_isEmpty _).symm | exact is_empty _ | exact (is_empty _).symm, by repeat (first | exact Drawn0.refl _ | apply Drawn0.step)⟩
   ·replace c8 := Bool.eq_false_iff.mpr c8
    subst c8
    have H1 : (spec_GoodName.l0 kj1 a0 0) = some r := by rw [if_neg (show ¬ (false = true) by decide)] at H; exact H
    clear H
    have H := H1
    clear H1
    have H' := Aside0.mk H
    clear H
    go_wp2
    go_loopg [3] kj1 (fun kq v3 w' => ∃ (x3_2 : Int), v3 = .int .i64 x3_2 ∧ Aside0 (spec_GoodName.l0 kq a0 x3_2 = some r) ∧ Aside0 (kq ≤ kj1) ∧ Drawn0 w w')
    case atStart => exact ⟨(0), tE, H', ⟨Nat.le_refl _⟩, by repeat (first | exact Drawn0.refl _ | apply Drawn0.step)⟩
    case round =>
     clear H'
     try clear c1
     try clear p2
     try clear c3
     try clear c3b0
     try clear c3b1
     try clear c3b2
     try clear c4
     try clear c4b0
     try clear c4b1
     try clear c5
     try clear c5b0
     try clear c5b1
     try clear p6
     try clear q6
     try clear hx6
     try clear qi6
     try clear c8
     try clear p2
     try clear p6
     try clear q6
     obtain ⟨x3_2, rfl, HA, HK2, ⟨m2, rfl⟩⟩ := hrel
     cases gk with
     | zero => exact absurd HA.out (by simp [spec_GoodName.l0])
     | succ k2 =>
      have H := HA.out
      clear HA
      simp only [spec_GoodName.l0] at H
      by_cases c9 : x3_2 < (a0.size : Int)
      ·rw [if_pos c9] at H
       have c9b0 : decide (x3_2 < (a0.size : Int)) = true := decide_eq_true c9
       clear c9
       by_cases c10 : 0 ≤ x3_2
       ·rw [if_pos c10] at H
        have c10b0 : decide (0 ≤ x3_2) = true := decide_eq_true c10
        clear c10
        replace H := Option.bind_eq_some_iff.mp H
        obtain ⟨t115, A120, H⟩ := H
        replace H : (if t115 = true then (spec_GoodName.l0 k2 a0 (wrap64 (x3_2 + 1))) else ((spec_l1Digit.f (bt a0 x3_2)).bind fun t116 => (if t116 = true then (spec_GoodName.l0 k2 a0 (wrap64 (x3_2 + 1))) else (some false)))) = some r := H
        have A12 := Aside0.mk A120
        clear A120
        by_cases c13 : t115 = true
        ·subst c13
         have H1 : (spec_GoodName.l0 k2 a0 (wrap64 (x3_2 + 1))) = some r := by rw [if_pos rfl] at H; exact H
         clear H
         have H := H1
         clear H1
         have H' := Aside0.mk H
         clear H
         have p11 : 0 ≤ (x3_2 : Int) := of_decide_eq_true hE
         have q11 : x3_2 < (a0.size : Int) := of_decide_eq_true hE
         have hx11 := bt_at a0 x3_2
         replace p11 := eq_true p11
         replace q11 := eq_true q11
         go_wp2_with (first | ((with_reducible refine gate_callee (f := 65) rfl ?_); refine goesL_ (some 26) rfl rfl Try.func65 (by kernel_rfl) rfl #[.int .u8 (bt a0 x3_2)] rfl aE ?_; (with_reducible refine (spec_l1Letter.calls (bt a0 x3_2) true _ A12.out).mono ?_); rintro e w' ⟨rfl, ⟨nd, rfl⟩⟩; refine ⟨_, rfl, ?_⟩))
         go_roundg k2
         case measure => have := HJ1.out; have := HK2.out; omega
         case rel => exact ⟨(wrap64 (x3_2 + 1)), tE, H', ⟨by have := HJ1.out; have := HK2.out; omega⟩, by repeat (first | exact Drawn0.refl _ | apply Drawn0.step)⟩
        ·replace c13 := Bool.eq_false_iff.mpr c13
         subst c13
         have H1 : ((spec_l1Digit.f (bt a0 x3_2)).bind fun t116 => (if t116 = true then (spec_GoodName.l0 k2 a0 (wrap64 (x3_2 + 1))) else (some false))) = some r := by rw [if_neg (show ¬ (false = true) by decide)] at H; exact H
         clear H
         have H := H1
         clear H1
         replace H := Option.bind_eq_some_iff.mp H
         obtain ⟨t116, A150, H⟩ := H
         replace H : (if t116 = true then (spec_GoodName.l0 k2 a0 (wrap64 (x3_2 + 1))) else (some false)) = some r := H
         have A15 := Aside0.mk A150
         clear A150
         by_cases c16 : t116 = true
         ·subst c16
          have H1 : (spec_GoodName.l0 k2 a0 (wrap64 (x3_2 + 1))) = some r := by rw [if_pos rfl] at H; exact H
          clear H
          have H := H1
          clear H1
          have H' := Aside0.mk H
          clear H
          have p11 : 0 ≤ (x3_2 : Int) := of_decide_eq_true hE
          have q11 : x3_2 < (a0.size : Int) := of_decide_eq_true hE
          have hx11 := bt_at a0 x3_2
          replace p11 := eq_true p11
          replace q11 := eq_true q11
          go_wp2_with (first | ((with_reducible refine gate_callee (f := 65) rfl ?_); refine goesL_ (some 26) rfl rfl Try.func65 (by kernel_rfl) rfl #[.int .u8 (bt a0 x3_2)] rfl aE ?_; (with_reducible refine (spec_l1Letter.calls (bt a0 x3_2) false _ A12.out).mono ?_); rintro e w' ⟨rfl, ⟨nd, rfl⟩⟩; refine ⟨_, rfl, ?_⟩; have p14 : 0 ≤ (x3_2 : Int) := of_decide_eq_true hE; have q14 : x3_2 < (a0.size : Int) := of_decide_eq_true hE; have hx14 := bt_at a0 x3_2; replace p14 := eq_true p14; replace q14 := eq_true q14) | (go_at_call 64; (with_reducible refine (spec_l1Digit.calls (bt a0 x3_2) true _ A15.out).mono ?_); rintro e w' ⟨rfl, ⟨nd, rfl⟩⟩))
          go_roundg k2
          case measure => have := HJ1.out; have := HK2.out; omega
          case rel => exact ⟨(wrap64 (x3_2 + 1)), tE, H', ⟨by have := HJ1.out; have := HK2.out; omega⟩, by repeat (first | exact Drawn0.refl _ | apply Drawn0.step)⟩
         ·replace c16 := Bool.eq_false_iff.mpr c16
          subst c16
          have H1 : (some false) = some r := by rw [if_neg (show ¬ (false = true) by decide)] at H; exact H
          clear H
          have H := H1
          clear H1
          obtain rfl := Option.some.inj H
          have p11 : 0 ≤ (x3_2 : Int) := of_decide_eq_true hE
          have q11 : x3_2 < (a0.size : Int) := of_decide_eq_true hE
          have hx11 := bt_at a0 x3_2
          replace p11 := eq_true p11
          replace q11 := eq_true q11
          go_wp2_with (first | ((with_reducible refine gate_callee (f := 65) rfl ?_); refine goesL_ (some 26) rfl rfl Try.func65 (by kernel_rfl) rfl #[.int .u8 (bt a0 x3_2)] rfl aE ?_; (with_reducible refine (spec_l1Letter.calls (bt a0 x3_2) false _ A12.out).mono ?_); rintro e w' ⟨rfl, ⟨nd, rfl⟩⟩; refine ⟨_, rfl, ?_⟩; have p14 : 0 ≤ (x3_2 : Int) := of_decide_eq_true hE; have q14 : x3_2 < (a0.size : Int) := of_decide_eq_true hE; have hx14 := bt_at a0 x3_2; replace p14 := eq_true p14; replace q14 := eq_true q14) | (go_at_call 64; (with_reducible refine (spec_l1Digit.calls (bt a0 x3_2) false _ A15.out).mono ?_); rintro e w' ⟨rfl, ⟨nd, rfl⟩⟩))
          go_ret
          exact ⟨by first | rfl | (simp; done) | (simp [*]; done) | exact not_isEmpty _ | exact (not_isEmpty _).symm | exact is_empty _ | exact (is_empty _).symm, by repeat (first | exact Drawn0.refl _ | apply Drawn0.step)⟩
       ·rw [if_neg c10] at H
        exact absurd H (by simp)
      ·rw [if_neg c9] at H
       have c9b0 : decide (x3_2 < (a0.size : Int)) = false := decide_eq_false c9
       clear c9
       obtain rfl := Option.some.inj H
       go_wp2
       go_ret
       exact ⟨by first | rfl | (simp; done) | (simp [*]; done) | exact not_isEmpty _ | exact (not_isEmpty _).symm | exact is_empty _ | exact (is_empty _).symm, by repeat (first | exact Drawn0.refl _ | apply Drawn0.step)⟩
end Go.Proofs.Ytcpodjegdpbalaa.PFnExactQueryWorld
namespace Go.Proofs.Ytcpodjegdpbalaa.PFnExactQueryWorld
open Go.RowKit Go.Proofs.YtcpodjegdpbalaaW.PrintWords Go.Proofs.YtcpodjegdpbalaaW.PrintLast Go.Proofs.YtcpodjegdpbalaaW.PrintMore
attribute [local go_sem] max2_int min2_int max_two min_two max_three min_three max_four min_four   -- for this text's walks alone
set_option linter.unusedVariables false
set_option linter.unusedSimpArgs false
mutual
def spec_GoodWorld.j0 : Nat → Bool → Int → Int → List (S77) → Option (Bool)
 | 0, _, _, _, _ => none
 | k + 1, x22, x118000, x118001, x118002 => if x22 = true then (some false) else (spec_GoodWorld.l0 k x118002 (x118002.length : Int) 0 x118000 x118001 x118002)
def spec_GoodWorld.l0 : Nat → List (S77) → Int → Int → Int → Int → List (S77) → Option (Bool)
 | 0, _, _, _, _, _, _ => none
 | k + 1, x24, x25, x26, x118000, x118001, x118002 => if x26 < x25 then (if 0 ≤ x26 then (if x26 < (x24.length : Int) then ((spec_l1In.f ((rd_T77 x24 x26).f0) 1 (wrap64 (x118000 - 1))).bind fun t122 => (if t122 = true then (if x26 > 0 then (if 0 ≤ (wrap64 (x26 - 1)) then (if (wrap64 (x26 - 1)) < (x118002.length : Int) then (if ((rd_T77 x118002 (wrap64 (x26 - 1))).f0) ≥ ((rd_T77 x24 x26).f0) then (spec_GoodWorld.j2 k x24 x25 x26 true x118000 x118001 x118002 ((rd_T77 x24 x26).f0) ((rd_T77 x24 x26).f1)) else (spec_GoodWorld.j2 k x24 x25 x26 (decide ((((rd_T77 x24 x26).f1).length : Int) > 12)) x118000 x118001 x118002 ((rd_T77 x24 x26).f0) ((rd_T77 x24 x26).f1))) else (none)) else (none)) else (spec_GoodWorld.j2 k x24 x25 x26 (decide ((((rd_T77 x24 x26).f1).length : Int) > 12)) x118000 x118001 x118002 ((rd_T77 x24 x26).f0) ((rd_T77 x24 x26).f1))) else (spec_GoodWorld.j2 k x24 x25 x26 true x118000 x118001 x118002 ((rd_T77 x24 x26).f0) ((rd_T77 x24 x26).f1)))) else (none)) else (none)) else (some true)
def spec_GoodWorld.j2 : Nat → List (S77) → Int → Int → Bool → Int → Int → List (S77) → Int → List (S80) → Option (Bool)
 | 0, _, _, _, _, _, _, _, _, _ => none
 | k + 1, x24, x25, x26, x59, x118000, x118001, x118002, x122000, x122001 => if x59 = true then (some false) else (spec_GoodWorld.l1 k x24 x25 x26 x122001 (x122001.length : Int) 0 x118000 x118001 x118002 x122000 x122001)
def spec_GoodWorld.l1 : Nat → List (S77) → Int → Int → List (S80) → Int → Int → Int → Int → List (S77) → Int → List (S80) → Option (Bool)
 | 0, _, _, _, _, _, _, _, _, _, _, _ => none
 | k + 1, x24, x25, x26, x61, x62, x63, x118000, x118001, x118002, x122000, x122001 => if x63 < x62 then (if 0 ≤ x63 then (if x63 < (x61.length : Int) then ((spec_GoodName.f k ((rd_T80 x61 x63).f0)).bind fun t126 => (if t126 = true then ((spec_l1In.f ((rd_T80 x61 x63).f2) 0 x118001).bind fun t127 => (if t127 = true then (if x63 > 0 then (if 0 ≤ (wrap64 (x63 - 1)) then (if (wrap64 (x63 - 1)) < (x122001.length : Int) then (if ((Op.bytesLess (((rd_T80 x122001 (wrap64 (x63 - 1))).f0).toList) (((rd_T80 x61 x63).f0).toList)) = true) then (spec_GoodWorld.l1 k x24 x25 x26 x61 x62 (wrap64 (x63 + 1)) x118000 x118001 x118002 x122000 x122001) else (some false)) else (none)) else (none)) else (spec_GoodWorld.l1 k x24 x25 x26 x61 x62 (wrap64 (x63 + 1)) x118000 x118001 x118002 x122000 x122001)) else (some false))) else (some false))) else (none)) else (none)) else (spec_GoodWorld.l0 k x24 x25 (wrap64 (x26 + 1)) x118000 x118001 x118002)
end
def spec_GoodWorld.f (k : Nat) (a0_0 : Int) (a0_1 : Int) (l0_2 : List (S77)) : Option (Bool) := (spec_l1In.f a0_0 1 1000000).bind fun t118 => (if t118 = true then ((spec_l1In.f a0_1 0 1000000).bind fun t119 => (if t119 = true then (spec_GoodWorld.j0 k (decide ((l0_2.length : Int) > 60)) a0_0 a0_1 l0_2) else (spec_GoodWorld.j0 k true a0_0 a0_1 l0_2))) else (spec_GoodWorld.j0 k true a0_0 a0_1 l0_2))
theorem spec_GoodWorld.mono_l : ∀ k, (∀ y0 y1 y2 y3, LeO (spec_GoodWorld.j0 k y0 y1 y2 y3) (spec_GoodWorld.j0 (k + 1) y0 y1 y2 y3)) ∧ (∀ y0 y1 y2 y3 y4 y5, LeO (spec_GoodWorld.l0 k y0 y1 y2 y3 y4 y5) (spec_GoodWorld.l0 (k + 1) y0 y1 y2 y3 y4 y5)) ∧ (∀ y0 y1 y2 y3 y4 y5 y6 y7 y8, LeO (spec_GoodWorld.j2 k y0 y1 y2 y3 y4 y5 y6 y7 y8) (spec_GoodWorld.j2 (k + 1) y0 y1 y2 y3 y4 y5 y6 y7 y8)) ∧ (∀ y0 y1 y2 y3 y4 y5 y6 y7 y8 y9 y10, LeO (spec_GoodWorld.l1 k y0 y1 y2 y3 y4 y5 y6 y7 y8 y9 y10) (spec_GoodWorld.l1 (k + 1) y0 y1 y2 y3 y4 y5 y6 y7 y8 y9 y10))
 | 0 => ⟨fun _ _ _ _ r h => by simp [spec_GoodWorld.j0] at h, fun _ _ _ _ _ _ r h => by simp [spec_GoodWorld.l0] at h, fun _ _ _ _ _ _ _ _ _ r h => by simp [spec_GoodWorld.j2] at h, fun _ _ _ _ _ _ _ _ _ _ _ r h => by simp [spec_GoodWorld.l1] at h⟩
 | k + 1 => by
  obtain ⟨ih0, ih1, ih2, ih3⟩ := spec_GoodWorld.mono_l k
  refine ⟨?_, ?_, ?_, ?_⟩
  ·intro y0 y1 y2 y3
   unfold spec_GoodWorld.j0
   repeat' first
   | (with_reducible exact ih0 _ _ _ _)
   | (with_reducible exact ih1 _ _ _ _ _ _)
   | (with_reducible exact ih2 _ _ _ _ _ _ _ _ _)
   | (with_reducible exact ih3 _ _ _ _ _ _ _ _ _ _ _)
   | (with_reducible exact spec_GoodName.mono _ _)
   | (with_reducible exact LeO.refl _)
   | (with_reducible exact LeO.none _)
   | (with_reducible refine LeO.ite ?_ ?_)
   | (with_reducible refine LeO.bind ?_ (fun _ => ?_))
   | exact ih0 _ _ _ _
   | exact ih1 _ _ _ _ _ _
   | exact ih2 _ _ _ _ _ _ _ _ _
   | exact ih3 _ _ _ _ _ _ _ _ _ _ _
   | exact spec_GoodName.mono _ _
   | exact LeO.none _
   | refine LeO.ite ?_ ?_
   | refine LeO.bind ?_ (fun _ => ?_)
  ·intro y0 y1 y2 y3 y4 y5
   unfold spec_GoodWorld.l0
   repeat' first
   | (with_reducible exact ih0 _ _ _ _)
   | (with_reducible exact ih1 _ _ _ _ _ _)
   | (with_reducible exact ih2 _ _ _ _ _ _ _ _ _)
   | (with_reducible exact ih3 _ _ _ _ _ _ _ _ _ _ _)
   | (with_reducible exact spec_GoodName.mono _ _)
   | (with_reducible exact LeO.refl _)
   | (with_reducible exact LeO.none _)
   | (with_reducible refine LeO.ite ?_ ?_)
   | (with_reducible refine LeO.bind ?_ (fun _ => ?_))
   | exact ih0 _ _ _ _
   | exact ih1 _ _ _ _ _ _
   | exact ih2 _ _ _ _ _ _ _ _ _
   | exact ih3 _ _ _ _ _ _ _ _ _ _ _
   | exact spec_GoodName.mono _ _
   | exact LeO.none _
   | refine LeO.ite ?_ ?_
   | refine LeO.bind ?_ (fun _ => ?_)
  ·intro y0 y1 y2 y3 y4 y5 y6 y7 y8
   unfold spec_GoodWorld.j2
   repeat' first
   | (with_reducible exact ih0 _ _ _ _)
   | (with_reducible exact ih1 _ _ _ _ _ _)
   | (with_reducible exact ih2 _ _ _ _ _ _ _ _ _)
   | (with_reducible exact ih3 _ _ _ _ _ _ _ _ _ _ _)
   | (with_reducible exact spec_GoodName.mono _ _)
   | (with_reducible exact LeO.refl _)
   | (with_reducible exact LeO.none _)
   | (with_reducible refine LeO.ite ?_ ?_)
   | (with_reducible refine LeO.bind ?_ (fun _ => ?_))
   | exact ih0 _ _ _ _
   | exact ih1 _ _ _ _ _ _
   | exact ih2 _ _ _ _ _ _ _ _ _
   | exact ih3 _ _ _ _ _ _ _ _ _ _ _
   | exact spec_GoodName.mono _ _
   | exact LeO.none _
   | refine LeO.ite ?_ ?_
   | refine LeO.bind ?_ (fun _ => ?_)
  ·intro y0 y1 y2 y3 y4 y5 y6 y7 y8 y9 y10
   unfold spec_GoodWorld.l1
   repeat' first
   | (with_reducible exact ih0 _ _ _ _)
   | (with_reducible exact ih1 _ _ _ _ _ _)
   | (with_reducible exact ih2 _ _ _ _ _ _ _ _ _)
   | (with_reducible exact ih3 _ _ _ _ _ _ _ _ _ _ _)
   | (with_reducible exact spec_GoodName.mono _ _)
   | (with_reducible exact LeO.refl _)
   | (with_reducible exact LeO.none _)
   | (with_reducible refine LeO.ite ?_ ?_)
   | (with_reducible refine LeO.bind ?_ (fun _ => ?_))
   | exact ih0 _ _ _ _
   | exact ih1 _ _ _ _ _ _
   | exact ih2 _ _ _ _ _ _ _ _ _
   | exact ih3 _ _ _ _ _ _ _ _ _ _ _
   | exact spec_GoodName.mono _ _
   | exact LeO.none _
   | refine LeO.ite ?_ ?_
   | refine LeO.bind ?_ (fun _ => ?_)
theorem spec_GoodWorld.mono : ∀ a0 a1 a2 k, LeO (spec_GoodWorld.f k a0 a1 a2) (spec_GoodWorld.f (k + 1) a0 a1 a2) := by
 intro a0 a1 a2 k
 obtain ⟨ih0, ih1, ih2, ih3⟩ := spec_GoodWorld.mono_l k
 unfold spec_GoodWorld.f
 repeat' first
   | (with_reducible exact ih0 _ _ _ _)
   | (with_reducible exact ih1 _ _ _ _ _ _)
   | (with_reducible exact ih2 _ _ _ _ _ _ _ _ _)
   | (with_reducible exact ih3 _ _ _ _ _ _ _ _ _ _ _)
   | (with_reducible exact spec_GoodName.mono _ _)
   | (with_reducible exact LeO.refl _)
   | (with_reducible exact LeO.none _)
   | (with_reducible refine LeO.ite ?_ ?_)
   | (with_reducible refine LeO.bind ?_ (fun _ => ?_))
   | exact ih0 _ _ _ _
   | exact ih1 _ _ _ _ _ _
   | exact ih2 _ _ _ _ _ _ _ _ _
   | exact ih3 _ _ _ _ _ _ _ _ _ _ _
   | exact spec_GoodName.mono _ _
   | exact LeO.none _
   | refine LeO.ite ?_ ?_
   | refine LeO.bind ?_ (fun _ => ?_)
set_option maxHeartbeats 60000000 in
set_option maxRecDepth 100000 in
theorem spec_GoodWorld.calls (k : Nat) (a0_0 : Int) (a0_1 : Int) (A0_2 : Option Addr) (c0_2 : Nat) (l0_2 : List (S77)) (r : Bool) (w : World) (hr0_2 : Kd.C k77 w A0_2 l0_2.length l0_2) (hc0_2 : l0_2.length ≤ c0_2) (h : spec_GoodWorld.f k a0_0 a0_1 l0_2 = some r) :
  Calls Try.prog 40 #[.agg #[.int .i64 a0_0, .int .i64 a0_1, .slice A0_2 l0_2.length c0_2]] w fun e w' => e = .returned (.bool r) ∧ Below w.heap.size w w' := by
 have hu50 := Try.underlying50
 have hu77 := Try.underlying77
 have hu80 := Try.underlying80
 have HR0_2 := Aside0.mk hr0_2
 have HC0_2 := Aside0.mk hc0_2
 clear hr0_2 hc0_2
 have HB := Aside0.mk (Below.refl w.heap.size w)
 have H : ((spec_l1In.f a0_0 1 1000000).bind fun t118 => (if t118 = true then ((spec_l1In.f a0_1 0 1000000).bind fun t119 => (if t119 = true then (spec_GoodWorld.j0 k (decide ((l0_2.length : Int) > 60)) a0_0 a0_1 l0_2) else (spec_GoodWorld.j0 k true a0_0 a0_1 l0_2))) else (spec_GoodWorld.j0 k true a0_0 a0_1 l0_2))) = some r := h
 clear h
 have HC2 := Aside0.mk H
 clear H
 go_enter Try.func40, Try.ntmps40
 go_upto_region 1 with (first | ((with_reducible refine gate_dst (N := 1) rfl ?_); (try (refine gate_guard (by rfl) ?_; dsimp only)); refine box_event rfl (N := 1) rfl (cs := #[.int .i64 a0_0, .int .i64 a0_1, .slice A0_2 l0_2.length c0_2]) (t := 50) sE ?_; intro gb117 hg w3 hbox hb; have BK117 := Aside0.mk hbox; have GW117 := gS w hg (lU); have GE117 := gS w hg (lU); replace HB := bH (lU) hb; clear hb hbox hg))
 repeat (go_quiet (first | ((with_reducible refine gate_dst (N := 1) rfl ?_); (try (refine gate_guard (by rfl) ?_; dsimp only)); refine box_event rfl (N := 1) rfl (cs := #[.int .i64 a0_0, .int .i64 a0_1, .slice A0_2 l0_2.length c0_2]) (t := 50) sE ?_; intro gb117 hg w3 hbox hb; have BK117 := Aside0.mk hbox; have GW117 := gS w hg (lU); have GE117 := gS w hg (lU); replace HB := bH (lU) hb; clear hb hbox hg)); go_upto_region 1 with (first | ((with_reducible refine gate_dst (N := 1) rfl ?_); (try (refine gate_guard (by rfl) ?_; dsimp only)); refine box_event rfl (N := 1) rfl (cs := #[.int .i64 a0_0, .int .i64 a0_1, .slice A0_2 l0_2.length c0_2]) (t := 50) sE ?_; intro gb117 hg w3 hbox hb; have BK117 := Aside0.mk hbox; have GW117 := gS w hg (lU); have GE117 := gS w hg (lU); replace HB := bH (lU) hb; clear hb hbox hg)))
 (try simp only [Act.put, List.setIfInBounds_toArray, List.set_cons_zero, List.set_cons_succ])
 go_cut [22] (fun v22 wc => ∃ (kq : Nat) (x22_1 : Bool), v22 = .bool x22_1 ∧ Aside0 (spec_GoodWorld.j0 kq x22_1 a0_0 a0_1 l0_2 = some r) ∧ Aside0 (kq ≤ k) ∧ Aside0 (wc.heap[gb117]? = some (.cells #[.int .i64 a0_0, .int .i64 a0_1, (.slice A0_2 l0_2.length c0_2)] 50 (0, 0))) ∧ Aside0 (Below w.heap.size w wc))
 case first =>
  have H := HC2.out
  clear HC2
  replace H := Option.bind_eq_some_iff.mp H
  obtain ⟨t118, A40, H⟩ := H
  replace H : (if t118 = true then ((spec_l1In.f a0_1 0 1000000).bind fun t119 => (if t119 = true then (spec_GoodWorld.j0 k (decide ((l0_2.length : Int) > 60)) a0_0 a0_1 l0_2) else (spec_GoodWorld.j0 k true a0_0 a0_1 l0_2))) else (spec_GoodWorld.j0 k true a0_0 a0_1 l0_2)) = some r := H
  have A4 := Aside0.mk A40
  clear A40
  by_cases c5 : t118 = true
  ·subst c5
   have H1 : ((spec_l1In.f a0_1 0 1000000).bind fun t119 => (if t119 = true then (spec_GoodWorld.j0 k (decide ((l0_2.length : Int) > 60)) a0_0 a0_1 l0_2) else (spec_GoodWorld.j0 k true a0_0 a0_1 l0_2))) = some r := by rw [if_pos rfl] at H; exact H
   clear H
   have H := H1
   clear H1
   replace H := Option.bind_eq_some_iff.mp H
   obtain ⟨t119, A60, H⟩ := H
   replace H : (if t119 = true then (spec_GoodWorld.j0 k (decide ((l0_2.length : Int) > 60)) a0_0 a0_1 l0_2) else (spec_GoodWorld.j0 k true a0_0 a0_1 l0_2)) = some r := H
   have A6 := Aside0.mk A60
   clear A60
   by_cases c7 : t119 = true
   ·subst c7
    have H1 : (spec_GoodWorld.j0 k (decide ((l0_2.length : Int) > 60)) a0_0 a0_1 l0_2) = some r := by rw [if_pos rfl] at H; exact H
    clear H
    have H := H1
    clear H1
    have H' := Aside0.mk H
    clear H
    have hcz8_0 := cz BK117 0 (.int .i64 a0_0)
    have hcz8_1 := cz BK117 1 (.int .i64 a0_1)
    have hcz8_2 := cz BK117 2 (.slice A0_2 l0_2.length c0_2)
    have hfz8_0 := fz BK117 0
    have hfz8_1 := fz BK117 1
    have hfz8_2 := fz BK117 2
    go_wp2_with (first | (go_at_call 42; (with_reducible refine (spec_l1In.calls a0_0 1 1000000 true _ A4.out).mono ?_); rintro e w' ⟨rfl, ⟨nd, rfl⟩⟩; (try first | exact ⟨rfl, _, World.drewN_drewN _ _ _⟩ | exact ⟨rfl, _, Eq.trans (World.drewN_drewN _ _ _) (congrArg (World.drewN _) (Nat.add_assoc _ _ _))⟩)) | (go_at_call 42; (with_reducible refine (spec_l1In.calls a0_1 0 1000000 true _ A6.out).mono ?_); rintro e w' ⟨rfl, ⟨nd, rfl⟩⟩; (try first | exact ⟨rfl, _, World.drewN_drewN _ _ _⟩ | exact ⟨rfl, _, Eq.trans (World.drewN_drewN _ _ _) (congrArg (World.drewN _) (Nat.add_assoc _ _ _))⟩)))
    repeat (go_quiet (first | (go_at_call 42; (with_reducible refine (spec_l1In.calls a0_0 1 1000000 true _ A4.out).mono ?_); rintro e w' ⟨rfl, ⟨nd, rfl⟩⟩; (try first | exact ⟨rfl, _, World.drewN_drewN _ _ _⟩ | exact ⟨rfl, _, Eq.trans (World.drewN_drewN _ _ _) (congrArg (World.drewN _) (Nat.add_assoc _ _ _))⟩)) | (go_at_call 42; (with_reducible refine (spec_l1In.calls a0_1 0 1000000 true _ A6.out).mono ?_); rintro e w' ⟨rfl, ⟨nd, rfl⟩⟩; (try first | exact ⟨rfl, _, World.drewN_drewN _ _ _⟩ | exact ⟨rfl, _, Eq.trans (World.drewN_drewN _ _ _) (congrArg (World.drewN _) (Nat.add_assoc _ _ _))⟩))); try go_wp2_with (first | (go_at_call 42; (with_reducible refine (spec_l1In.calls a0_0 1 1000000 true _ A4.out).mono ?_); rintro e w' ⟨rfl, ⟨nd, rfl⟩⟩; (try first | exact ⟨rfl, _, World.drewN_drewN _ _ _⟩ | exact ⟨rfl, _, Eq.trans (World.drewN_drewN _ _ _) (congrArg (World.drewN _) (Nat.add_assoc _ _ _))⟩)) | (go_at_call 42; (with_reducible refine (spec_l1In.calls a0_1 0 1000000 true _ A6.out).mono ?_); rintro e w' ⟨rfl, ⟨nd, rfl⟩⟩; (try first | exact ⟨rfl, _, World.drewN_drewN _ _ _⟩ | exact ⟨rfl, _, Eq.trans (World.drewN_drewN _ _ _) (congrArg (World.drewN _) (Nat.add_assoc _ _ _))⟩))))
    go_meet
    case rel => exact ⟨_, (decide ((l0_2.length : Int) > 60)), tE, H', ⟨by first | omega | exact Nat.le_refl _⟩, ⟨by refine bU ?_; exact BK117.out⟩, ⟨by repeat (first | (with_reducible first | exact HB.out | apply below_alloc | apply pw_below_drewN | apply below_drew1 | refine below_set ?_ GE117.out) | exact HB.out)⟩⟩
   ·replace c7 := Bool.eq_false_iff.mpr c7
    subst c7
    have H1 : (spec_GoodWorld.j0 k true a0_0 a0_1 l0_2) = some r := by rw [if_neg (show ¬ (false = true) by decide)] at H; exact H
    clear H
    have H := H1
    clear H1
    have H' := Aside0.mk H
    clear H
    have hcz9_0 := cz BK117 0 (.int .i64 a0_0)
    have hcz9_1 := cz BK117 1 (.int .i64 a0_1)
    have hcz9_2 := cz BK117 2 (.slice A0_2 l0_2.length c0_2)
    have hfz9_0 := fz BK117 0
    have hfz9_1 := fz BK117 1
    have hfz9_2 := fz BK117 2
    go_wp2_with (first | (go_at_call 42; (with_reducible refine (spec_l1In.calls a0_0 1 1000000 true _ A4.out).mono ?_); rintro e w' ⟨rfl, ⟨nd, rfl⟩⟩; (try first | exact ⟨rfl, _, World.drewN_drewN _ _ _⟩ | exact ⟨rfl, _, Eq.trans (World.drewN_drewN _ _ _) (congrArg (World.drewN _) (Nat.add_assoc _ _ _))⟩)) | (go_at_call 42; (with_reducible refine (spec_l1In.calls a0_1 0 1000000 false _ A6.out).mono ?_); rintro e w' ⟨rfl, ⟨nd, rfl⟩⟩; (try first | exact ⟨rfl, _, World.drewN_drewN _ _ _⟩ | exact ⟨rfl, _, Eq.trans (World.drewN_drewN _ _ _) (congrArg (World.drewN _) (Nat.add_assoc _ _ _))⟩)))
    repeat (go_quiet (first | (go_at_call 42; (with_reducible refine (spec_l1In.calls a0_0 1 1000000 true _ A4.out).mono ?_); rintro e w' ⟨rfl, ⟨nd, rfl⟩⟩; (try first | exact ⟨rfl, _, World.drewN_drewN _ _ _⟩ | exact ⟨rfl, _, Eq.trans (World.drewN_drewN _ _ _) (congrArg (World.drewN _) (Nat.add_assoc _ _ _))⟩)) | (go_at_call 42; (with_reducible refine (spec_l1In.calls a0_1 0 1000000 false _ A6.out).mono ?_); rintro e w' ⟨rfl, ⟨nd, rfl⟩⟩; (try first | exact ⟨rfl, _, World.drewN_drewN _ _ _⟩ | exact ⟨rfl, _, Eq.trans (World.drewN_drewN _ _ _) (congrArg (World.drewN _) (Nat.add_assoc _ _ _))⟩))); try go_wp2_with (first | (go_at_call 42; (with_reducible refine (spec_l1In.calls a0_0 1 1000000 true _ A4.out).mono ?_); rintro e w' ⟨rfl, ⟨nd, rfl⟩⟩; (try first | exact ⟨rfl, _, World.drewN_drewN _ _ _⟩ | exact ⟨rfl, _, Eq.trans (World.drewN_drewN _ _ _) (congrArg (World.drewN _) (Nat.add_assoc _ _ _))⟩)) | (go_at_call 42; (with_reducible refine (spec_l1In.calls a0_1 0 1000000 false _ A6.out).mono ?_); rintro e w' ⟨rfl, ⟨nd, rfl⟩⟩; (try first | exact ⟨rfl, _, World.drewN_drewN _ _ _⟩ | exact ⟨rfl, _, Eq.trans (World.drewN_drewN _ _ _) (congrArg (World.drewN _) (Nat.add_assoc _ _ _))⟩))))
    go_meet
    case rel => exact ⟨_, (true), tE, H', ⟨by first | omega | exact Nat.le_refl _⟩, ⟨by refine bU ?_; exact BK117.out⟩, ⟨by repeat (first | (with_reducible first | exact HB.out | apply below_alloc | apply pw_below_drewN | apply below_drew1 | refine below_set ?_ GE117.out) | exact HB.out)⟩⟩
  ·replace c5 := Bool.eq_false_iff.mpr c5
   subst c5
   have H1 : (spec_GoodWorld.j0 k true a0_0 a0_1 l0_2) = some r := by rw [if_neg (show ¬ (false = true) by decide)] at H; exact H
   clear H
   have H := H1
   clear H1
   have H' := Aside0.mk H
   clear H
   have hcz10_0 := cz BK117 0 (.int .i64 a0_0)
   have hcz10_1 := cz BK117 1 (.int .i64 a0_1)
   have hcz10_2 := cz BK117 2 (.slice A0_2 l0_2.length c0_2)
   have hfz10_0 := fz BK117 0
   have hfz10_1 := fz BK117 1
   have hfz10_2 := fz BK117 2
   go_wp2_with (first | (go_at_call 42; (with_reducible refine (spec_l1In.calls a0_0 1 1000000 false _ A4.out).mono ?_); rintro e w' ⟨rfl, ⟨nd, rfl⟩⟩; (try first | exact ⟨rfl, _, World.drewN_drewN _ _ _⟩ | exact ⟨rfl, _, Eq.trans (World.drewN_drewN _ _ _) (congrArg (World.drewN _) (Nat.add_assoc _ _ _))⟩)))
   repeat (go_quiet (first | (go_at_call 42; (with_reducible refine (spec_l1In.calls a0_0 1 1000000 false _ A4.out).mono ?_); rintro e w' ⟨rfl, ⟨nd, rfl⟩⟩; (try first | exact ⟨rfl, _, World.drewN_drewN _ _ _⟩ | exact ⟨rfl, _, Eq.trans (World.drewN_drewN _ _ _) (congrArg (World.drewN _) (Nat.add_assoc _ _ _))⟩))); try go_wp2_with (first | (go_at_call 42; (with_reducible refine (spec_l1In.calls a0_0 1 1000000 false _ A4.out).mono ?_); rintro e w' ⟨rfl, ⟨nd, rfl⟩⟩; (try first | exact ⟨rfl, _, World.drewN_drewN _ _ _⟩ | exact ⟨rfl, _, Eq.trans (World.drewN_drewN _ _ _) (congrArg (World.drewN _) (Nat.add_assoc _ _ _))⟩))))
   go_meet
   case rel => exact ⟨_, (true), tE, H', ⟨by first | omega | exact Nat.le_refl _⟩, ⟨by refine bU ?_; exact BK117.out⟩, ⟨by repeat (first | (with_reducible first | exact HB.out | apply below_alloc | apply pw_below_drewN | apply below_drew1 | refine below_set ?_ GE117.out) | exact HB.out)⟩⟩
 case rest =>
  clear HC2
  try clear p2
  try clear c4
  try clear c5
  try clear c7
  try clear hcz10_0
  try clear hcz10_1
  try clear hcz10_2
  try clear hcz8_0
  try clear hcz8_1
  try clear hcz8_2
  try clear hcz9_0
  try clear hcz9_1
  try clear hcz9_2
  try clear hfz10_0
  try clear hfz10_1
  try clear hfz10_2
  try clear hfz8_0
  try clear hfz8_1
  try clear hfz8_2
  try clear hfz9_0
  try clear hfz9_1
  try clear hfz9_2
  obtain ⟨kq, x22_1, rfl, HA, HJ1, BK117, HB⟩ := hcut
  cases kq with
  | zero => exact absurd HA.out (by simp [spec_GoodWorld.j0])
  | succ kj1 =>
   have H := HA.out
   clear HA
   simp only [spec_GoodWorld.j0] at H
   by_cases c11 : x22_1 = true
   ·subst c11
    have H1 : (some false) = some r := by rw [if_pos rfl] at H; exact H
    clear H
    have H := H1
    clear H1
    obtain rfl := Option.some.inj H
    go_wp2
    repeat (go_quiet (fail); try go_wp2)
    go_ret
    exact ⟨eE, lV1 GE117⟩
   ·replace c11 := Bool.eq_false_iff.mpr c11
    subst c11
    have H1 : (spec_GoodWorld.l0 kj1 l0_2 (l0_2.length : Int) 0 a0_0 a0_1 l0_2) = some r := by rw [if_neg (show ¬ (false = true) by decide)] at H; exact H
    clear H
    have H := H1
    clear H1
    have H' := Aside0.mk H
    clear H
    have hcz12_0 := cz BK117 0 (.int .i64 a0_0)
    have hcz12_1 := cz BK117 1 (.int .i64 a0_1)
    have hcz12_2 := cz BK117 2 (.slice A0_2 l0_2.length c0_2)
    have hfz12_0 := fz BK117 0
    have hfz12_1 := fz BK117 1
    have hfz12_2 := fz BK117 2
    go_wp2
    repeat (go_quiet (fail); try go_wp2)
    go_loopg [26] kj1 (fun kq v26 w' => ∃ (x26_2 : Int), v26 = .int .i64 x26_2 ∧ Aside0 (spec_GoodWorld.l0 kq l0_2 (l0_2.length : Int) x26_2 a0_0 a0_1 l0_2 = some r) ∧ Aside0 (kq ≤ kj1) ∧ Aside0 (w'.heap[gb117]? = some (.cells #[.int .i64 a0_0, .int .i64 a0_1, (.slice A0_2 l0_2.length c0_2)] 50 (0, 0))) ∧ Aside0 (Below w.heap.size w w'))
    case atStart => exact ⟨(0), tE, H', ⟨Nat.le_refl _⟩, ⟨by refine bU ?_; exact BK117.out⟩, ⟨by repeat (first | (with_reducible first | exact HB.out | apply below_alloc | apply pw_below_drewN | apply below_drew1 | refine below_set ?_ GE117.out) | exact HB.out)⟩⟩
    case round =>
     clear H'
     try clear c1
     try clear p2
     try clear c4
     try clear c5
     try clear c7
     try clear c11
     try clear hcz10_0
     try clear hcz10_1
     try clear hcz10_2
     try clear hcz12_0
     try clear hcz12_1
     try clear hcz12_2
     try clear hcz8_0
     try clear hcz8_1
     try clear hcz8_2
     try clear hcz9_0
     try clear hcz9_1
     try clear hcz9_2
     try clear hfz10_0
     try clear hfz10_1
     try clear hfz10_2
     try clear hfz12_0
     try clear hfz12_1
     try clear hfz12_2
     try clear hfz8_0
     try clear hfz8_1
     try clear hfz8_2
     try clear hfz9_0
     try clear hfz9_1
     try clear hfz9_2
     try clear p2
     obtain ⟨x26_2, rfl, HA, HK2, BK117, HB⟩ := hrel
     cases gk with
     | zero => exact absurd HA.out (by simp [spec_GoodWorld.l0])
     | succ k2 =>
      have H := HA.out
      clear HA
      simp only [spec_GoodWorld.l0] at H
      by_cases c13 : x26_2 < (l0_2.length : Int)
      ·rw [if_pos c13] at H
       have c13b0 : decide (x26_2 < (l0_2.length : Int)) = true := decide_eq_true c13
       clear c13
       by_cases c14 : 0 ≤ x26_2
       ·rw [if_pos c14] at H
        have c14b0 : decide (0 ≤ x26_2) = true := decide_eq_true c14
        clear c14
        by_cases c15 : x26_2 < (l0_2.length : Int)
        ·rw [if_pos c15] at H
         have c15b0 : decide (x26_2 < (l0_2.length : Int)) = true := decide_eq_true c15
         clear c15
         have HC16 := Aside0.mk H
         clear H
         have p120 : 0 ≤ (x26_2 : Int) := of_decide_eq_true hE
         have q120 : x26_2 < (l0_2.length : Int) := of_decide_eq_true hE
         obtain ⟨ad120, A120_1, c120_1, e120, hx120_0, hx120_1, hl120_1, hi120_1⟩ := at_T77 HR0_2.out x26_2 p120 q120
         cases e120
         replace hx120_0 := (HB.out.cell (World.block_lt_of_cell? w _ hx120_0)).trans hx120_0
         replace hx120_1 := (HB.out.cell (World.block_lt_of_cell? w _ hx120_1)).trans hx120_1
         have HR120_1 := Aside0.mk hi120_1
         have HC120_1 := Aside0.mk hl120_1
         clear hi120_1 hl120_1
         replace p120 := eq_true p120
         replace q120 := eq_true q120
         go_upto_region 6 with (first | ((with_reducible refine gate_dst (N := 4) rfl ?_); (try (refine gate_guard (by rfl) ?_; dsimp only)); refine box_event rfl (N := 4) rfl (cs := #[.int .i64 0, .slice none 0 0]) (t := 77) sE ?_; intro gb121 hg w17 hbox hb; have BK121 := Aside0.mk hbox; have GW121 := gS w hg (lV1 GE117); have GE121 := gS w hg (lV1 GE117); replace HB := bH (lV1 GE117) hb; have NB117_121 := nL hg (bV BK117); have NB121_117 := nG hg (bV BK117); replace BK117 := bB (bV BK117) hb; clear hb hbox hg; have hnb18 := NB121_117.out; have hnc18 := NB117_121.out; have hcz19_0 := cz BK121 0 (.int .i64 0); have hcz19_1 := cz BK121 1 (.slice none 0 0); have hfz19_0 := fz BK121 0; have hfz19_1 := fz BK121 1) | ((with_reducible refine gate_store (t := 77) (p := 4) rfl ?_); (try (rw [drewN_self w17]; generalize hq_ : World.drewN w17 _ = w17; replace BK117 := Aside0.mk (blk_at hq_ BK117.out); replace BK121 := Aside0.mk (blk_at hq_ BK121.out); replace HB := Aside0.mk (below_at hq_ HB.out); clear hq_)); refine store_event (t := 77) (p := 4) (v := ?vo_w20) (w1 := ((w17.setCell ⟨gb121, 0, none⟩ (.int .i64 ((rd_T77 l0_2 x26_2).f0))).setCell ⟨gb121, 1, none⟩ (.slice A120_1 ((rd_T77 l0_2 x26_2).f1).length c120_1))) ?hg ?ho ?hn ?hr ?_; (case ho => rfl); (case hg => rfl); (case hn => rfl); (case hr => first | (go_simp; done) | (go_simp; rfl) | (have hq0_ := (blk_cell BK121.out 0).trans (show _ = some _ from rfl); have hf0_ := blk_frozen BK121.out 0; have hq1_ := (blk_cell BK121.out 1).trans (show _ = some _ from rfl); have hf1_ := blk_frozen BK121.out 1; first | (go_simp; done) | (go_simp; rfl))); intro w20 hw; replace BK117 : Aside0 (w20.heap[gb117]? = some (.cells #[.int .i64 a0_0, .int .i64 a0_1, .slice (some ad120) l0_2.length c0_2] 50 (0, 0))) := ⟨(by rw [hw]; exact (bG NB117_121 BK117))⟩; replace BK121 : Aside0 (w20.heap[gb121]? = some (.cells #[.int .i64 ((rd_T77 l0_2 x26_2).f0), .slice A120_1 ((rd_T77 l0_2 x26_2).f1).length c120_1] 77 (0, 0))) := ⟨(by rw [hw]; exact (by refine bU ?_; refine blk_put (cs := #[.int .i64 ((rd_T77 l0_2 x26_2).f0), .slice none 0 0]) ?_ 1 _ rfl; refine bU ?_; refine blk_put (cs := #[.int .i64 0, .slice none 0 0]) ?_ 0 _ rfl; refine bU ?_; exact BK121.out))⟩; replace HB : Aside0 (Below w.heap.size w w20) := ⟨(by rw [hw]; exact (lV2 GE117 GE121))⟩; clear hw))
         repeat (go_quiet (first | ((with_reducible refine gate_dst (N := 4) rfl ?_); (try (refine gate_guard (by rfl) ?_; dsimp only)); refine box_event rfl (N := 4) rfl (cs := #[.int .i64 0, .slice none 0 0]) (t := 77) sE ?_; intro gb121 hg w17 hbox hb; have BK121 := Aside0.mk hbox; have GW121 := gS w hg (lV1 GE117); have GE121 := gS w hg (lV1 GE117); replace HB := bH (lV1 GE117) hb; have NB117_121 := nL hg (bV BK117); have NB121_117 := nG hg (bV BK117); replace BK117 := bB (bV BK117) hb; clear hb hbox hg; have hnb18 := NB121_117.out; have hnc18 := NB117_121.out; have hcz19_0 := cz BK121 0 (.int .i64 0); have hcz19_1 := cz BK121 1 (.slice none 0 0); have hfz19_0 := fz BK121 0; have hfz19_1 := fz BK121 1) | ((with_reducible refine gate_store (t := 77) (p := 4) rfl ?_); (try (rw [drewN_self w17]; generalize hq_ : World.drewN w17 _ = w17; replace BK117 := Aside0.mk (blk_at hq_ BK117.out); replace BK121 := Aside0.mk (blk_at hq_ BK121.out); replace HB := Aside0.mk (below_at hq_ HB.out); clear hq_)); refine store_event (t := 77) (p := 4) (v := ?vo_w20) (w1 := ((w17.setCell ⟨gb121, 0, none⟩ (.int .i64 ((rd_T77 l0_2 x26_2).f0))).setCell ⟨gb121, 1, none⟩ (.slice A120_1 ((rd_T77 l0_2 x26_2).f1).length c120_1))) ?hg ?ho ?hn ?hr ?_; (case ho => rfl); (case hg => rfl); (case hn => rfl); (case hr => first | (go_simp; done) | (go_simp; rfl) | (have hq0_ := (blk_cell BK121.out 0).trans (show _ = some _ from rfl); have hf0_ := blk_frozen BK121.out 0; have hq1_ := (blk_cell BK121.out 1).trans (show _ = some _ from rfl); have hf1_ := blk_frozen BK121.out 1; first | (go_simp; done) | (go_simp; rfl))); intro w20 hw; replace BK117 : Aside0 (w20.heap[gb117]? = some (.cells #[.int .i64 a0_0, .int .i64 a0_1, .slice (some ad120) l0_2.length c0_2] 50 (0, 0))) := ⟨(by rw [hw]; exact (bG NB117_121 BK117))⟩; replace BK121 : Aside0 (w20.heap[gb121]? = some (.cells #[.int .i64 ((rd_T77 l0_2 x26_2).f0), .slice A120_1 ((rd_T77 l0_2 x26_2).f1).length c120_1] 77 (0, 0))) := ⟨(by rw [hw]; exact (by refine bU ?_; refine blk_put (cs := #[.int .i64 ((rd_T77 l0_2 x26_2).f0), .slice none 0 0]) ?_ 1 _ rfl; refine bU ?_; refine blk_put (cs := #[.int .i64 0, .slice none 0 0]) ?_ 0 _ rfl; refine bU ?_; exact BK121.out))⟩; replace HB : Aside0 (Below w.heap.size w w20) := ⟨(by rw [hw]; exact (lV2 GE117 GE121))⟩; clear hw)); go_upto_region 6 with (first | ((with_reducible refine gate_dst (N := 4) rfl ?_); (try (refine gate_guard (by rfl) ?_; dsimp only)); refine box_event rfl (N := 4) rfl (cs := #[.int .i64 0, .slice none 0 0]) (t := 77) sE ?_; intro gb121 hg w17 hbox hb; have BK121 := Aside0.mk hbox; have GW121 := gS w hg (lV1 GE117); have GE121 := gS w hg (lV1 GE117); replace HB := bH (lV1 GE117) hb; have NB117_121 := nL hg (bV BK117); have NB121_117 := nG hg (bV BK117); replace BK117 := bB (bV BK117) hb; clear hb hbox hg; have hnb18 := NB121_117.out; have hnc18 := NB117_121.out; have hcz19_0 := cz BK121 0 (.int .i64 0); have hcz19_1 := cz BK121 1 (.slice none 0 0); have hfz19_0 := fz BK121 0; have hfz19_1 := fz BK121 1) | ((with_reducible refine gate_store (t := 77) (p := 4) rfl ?_); (try (rw [drewN_self w17]; generalize hq_ : World.drewN w17 _ = w17; replace BK117 := Aside0.mk (blk_at hq_ BK117.out); replace BK121 := Aside0.mk (blk_at hq_ BK121.out); replace HB := Aside0.mk (below_at hq_ HB.out); clear hq_)); refine store_event (t := 77) (p := 4) (v := ?vo_w20) (w1 := ((w17.setCell ⟨gb121, 0, none⟩ (.int .i64 ((rd_T77 l0_2 x26_2).f0))).setCell ⟨gb121, 1, none⟩ (.slice A120_1 ((rd_T77 l0_2 x26_2).f1).length c120_1))) ?hg ?ho ?hn ?hr ?_; (case ho => rfl); (case hg => rfl); (case hn => rfl); (case hr => first | (go_simp; done) | (go_simp; rfl) | (have hq0_ := (blk_cell BK121.out 0).trans (show _ = some _ from rfl); have hf0_ := blk_frozen BK121.out 0; have hq1_ := (blk_cell BK121.out 1).trans (show _ = some _ from rfl); have hf1_ := blk_frozen BK121.out 1; first | (go_simp; done) | (go_simp; rfl))); intro w20 hw; replace BK117 : Aside0 (w20.heap[gb117]? = some (.cells #[.int .i64 a0_0, .int .i64 a0_1, .slice (some ad120) l0_2.length c0_2] 50 (0, 0))) := ⟨(by rw [hw]; exact (bG NB117_121 BK117))⟩; replace BK121 : Aside0 (w20.heap[gb121]? = some (.cells #[.int .i64 ((rd_T77 l0_2 x26_2).f0), .slice A120_1 ((rd_T77 l0_2 x26_2).f1).length c120_1] 77 (0, 0))) := ⟨(by rw [hw]; exact (by refine bU ?_; refine blk_put (cs := #[.int .i64 ((rd_T77 l0_2 x26_2).f0), .slice none 0 0]) ?_ 1 _ rfl; refine bU ?_; refine blk_put (cs := #[.int .i64 0, .slice none 0 0]) ?_ 0 _ rfl; refine bU ?_; exact BK121.out))⟩; replace HB : Aside0 (Below w.heap.size w w20) := ⟨(by rw [hw]; exact (lV2 GE117 GE121))⟩; clear hw)))
         (try simp only [Act.put, List.setIfInBounds_toArray, List.set_cons_zero, List.set_cons_succ])
         go_cut [59] (fun v59 wc => ∃ (kq : Nat) (x59_15 : Bool), v59 = .bool x59_15 ∧ Aside0 (spec_GoodWorld.j2 kq l0_2 (l0_2.length : Int) x26_2 x59_15 a0_0 a0_1 l0_2 ((rd_T77 l0_2 x26_2).f0) ((rd_T77 l0_2 x26_2).f1) = some r) ∧ Aside0 (kq ≤ k2) ∧ Aside0 (wc.heap[gb117]? = some (.cells #[.int .i64 a0_0, .int .i64 a0_1, (.slice (some ad120) l0_2.length c0_2)] 50 (0, 0))) ∧ Aside0 (wc.heap[gb121]? = some (.cells #[.int .i64 ((rd_T77 l0_2 x26_2).f0), (.slice A120_1 ((rd_T77 l0_2 x26_2).f1).length c120_1)] 77 (0, 0))) ∧ Aside0 (Below w.heap.size w wc))
         case first =>
          have H := HC16.out
          clear HC16
          replace H := Option.bind_eq_some_iff.mp H
          obtain ⟨t122, A210, H⟩ := H
          replace H : (if t122 = true then (if x26_2 > 0 then (if 0 ≤ (wrap64 (x26_2 - 1)) then (if (wrap64 (x26_2 - 1)) < (l0_2.length : Int) then (if ((rd_T77 l0_2 (wrap64 (x26_2 - 1))).f0) ≥ ((rd_T77 l0_2 x26_2).f0) then (spec_GoodWorld.j2 k2 l0_2 (l0_2.length : Int) x26_2 true a0_0 a0_1 l0_2 ((rd_T77 l0_2 x26_2).f0) ((rd_T77 l0_2 x26_2).f1)) else (spec_GoodWorld.j2 k2 l0_2 (l0_2.length : Int) x26_2 (decide ((((rd_T77 l0_2 x26_2).f1).length : Int) > 12)) a0_0 a0_1 l0_2 ((rd_T77 l0_2 x26_2).f0) ((rd_T77 l0_2 x26_2).f1))) else (none)) else (none)) else (spec_GoodWorld.j2 k2 l0_2 (l0_2.length : Int) x26_2 (decide ((((rd_T77 l0_2 x26_2).f1).length : Int) > 12)) a0_0 a0_1 l0_2 ((rd_T77 l0_2 x26_2).f0) ((rd_T77 l0_2 x26_2).f1))) else (spec_GoodWorld.j2 k2 l0_2 (l0_2.length : Int) x26_2 true a0_0 a0_1 l0_2 ((rd_T77 l0_2 x26_2).f0) ((rd_T77 l0_2 x26_2).f1))) = some r := H
          have A21 := Aside0.mk A210
          clear A210
          by_cases c22 : t122 = true
          ·subst c22
           have H1 : (if x26_2 > 0 then (if 0 ≤ (wrap64 (x26_2 - 1)) then (if (wrap64 (x26_2 - 1)) < (l0_2.length : Int) then (if ((rd_T77 l0_2 (wrap64 (x26_2 - 1))).f0) ≥ ((rd_T77 l0_2 x26_2).f0) then (spec_GoodWorld.j2 k2 l0_2 (l0_2.length : Int) x26_2 true a0_0 a0_1 l0_2 ((rd_T77 l0_2 x26_2).f0) ((rd_T77 l0_2 x26_2).f1)) else (spec_GoodWorld.j2 k2 l0_2 (l0_2.length : Int) x26_2 (decide ((((rd_T77 l0_2 x26_2).f1).length : Int) > 12)) a0_0 a0_1 l0_2 ((rd_T77 l0_2 x26_2).f0) ((rd_T77 l0_2 x26_2).f1))) else (none)) else (none)) else (spec_GoodWorld.j2 k2 l0_2 (l0_2.length : Int) x26_2 (decide ((((rd_T77 l0_2 x26_2).f1).length : Int) > 12)) a0_0 a0_1 l0_2 ((rd_T77 l0_2 x26_2).f0) ((rd_T77 l0_2 x26_2).f1))) = some r := by rw [if_pos rfl] at H; exact H
           clear H
           have H := H1
           clear H1
           by_cases c23 : x26_2 > 0
           ·rw [if_pos c23] at H
            have c23b0 : decide (0 < x26_2) = true := decide_eq_true c23
            clear c23
            (first | rw [c23b0] | (simp only [i64_w, i32_w]; rw [c23b0]) | (rw [c23b2]; simp only [Bool.not_false, Bool.not_true]) | skip)
            obtain ⟨ji24, hji24⟩ : ∃ j_ : Int, (wrap64 (x26_2 - 1)) = j_ := ⟨_, rfl⟩
            replace H : (if 0 ≤ (ji24) then (if (ji24) < (l0_2.length : Int) then (if ((rd_T77 l0_2 (ji24)).f0) ≥ ((rd_T77 l0_2 x26_2).f0) then (spec_GoodWorld.j2 k2 l0_2 (l0_2.length : Int) x26_2 true a0_0 a0_1 l0_2 ((rd_T77 l0_2 x26_2).f0) ((rd_T77 l0_2 x26_2).f1)) else (spec_GoodWorld.j2 k2 l0_2 (l0_2.length : Int) x26_2 (decide ((((rd_T77 l0_2 x26_2).f1).length : Int) > 12)) a0_0 a0_1 l0_2 ((rd_T77 l0_2 x26_2).f0) ((rd_T77 l0_2 x26_2).f1))) else (none)) else (none)) = some r := by first | (rw [hji24] at H; exact H) | (simp only [hji24] at H ⊢; exact H)
            (try rw [hji24] at A21)
            have hji24w : (IntKind.i64.wrap (x26_2 - 1)) = ji24 := (i64_w _).trans hji24
            by_cases c25 : 0 ≤ (ji24)
            ·rw [if_pos c25] at H
             have c25b0 : decide (0 ≤ (ji24)) = true := decide_eq_true c25
             clear c25
             by_cases c26 : (ji24) < (l0_2.length : Int)
             ·rw [if_pos c26] at H
              have c26b0 : decide ((ji24) < (l0_2.length : Int)) = true := decide_eq_true c26
              clear c26
              by_cases c27 : ((rd_T77 l0_2 (ji24)).f0) ≥ ((rd_T77 l0_2 x26_2).f0)
              ·rw [if_pos c27] at H
               have c27b0 : decide (((rd_T77 l0_2 x26_2).f0) ≤ ((rd_T77 l0_2 (ji24)).f0)) = true := decide_eq_true c27
               clear c27
               have H' := Aside0.mk H
               clear H
               have hnb28 := NB121_117.out
               have hnc28 := NB117_121.out
               have hcz29_0 := cz BK121 0 (.int .i64 ((rd_T77 l0_2 x26_2).f0))
               have hcz29_1 := cz BK121 1 (.slice A120_1 ((rd_T77 l0_2 x26_2).f1).length c120_1)
               have hfz29_0 := fz BK121 0
               have hfz29_1 := fz BK121 1
               have hcz30_0 := cz BK117 0 (.int .i64 a0_0)
               have hcz30_1 := cz BK117 1 (.int .i64 a0_1)
               have hcz30_2 := cz BK117 2 (.slice (some ad120) l0_2.length c0_2)
               have hfz30_0 := fz BK117 0
               have hfz30_1 := fz BK117 1
               have hfz30_2 := fz BK117 2
               go_wp2_with (first | (go_at_call 42; (with_reducible refine (spec_l1In.calls ((rd_T77 l0_2 x26_2).f0) 1 (wrap64 (a0_0 - 1)) true _ A21.out).mono ?_); rintro e w' ⟨rfl, ⟨nd, rfl⟩⟩; (try first | exact ⟨rfl, _, World.drewN_drewN _ _ _⟩ | exact ⟨rfl, _, Eq.trans (World.drewN_drewN _ _ _) (congrArg (World.drewN _) (Nat.add_assoc _ _ _))⟩); have p123 : 0 ≤ ((ji24) : Int) := of_decide_eq_true hE; have q123 : (ji24) < (l0_2.length : Int) := of_decide_eq_true hE; obtain ⟨ad123, A123_1, c123_1, e123, hx123_0, hx123_1, hl123_1, hi123_1⟩ := at_T77 HR0_2.out (ji24) p123 q123; obtain rfl : ad120 = ad123 := (by injection e123); replace hx123_0 := (HB.out.cell (World.block_lt_of_cell? w _ hx123_0)).trans hx123_0; replace hx123_1 := (HB.out.cell (World.block_lt_of_cell? w _ hx123_1)).trans hx123_1; have HR123_1 := Aside0.mk hi123_1; have HC123_1 := Aside0.mk hl123_1; clear hi123_1 hl123_1; replace p123 := eq_true p123; replace q123 := eq_true q123))
               have p123 : 0 ≤ ((ji24) : Int) := of_decide_eq_true hE
               have q123 : (ji24) < (l0_2.length : Int) := of_decide_eq_true hE
               obtain ⟨ad123, A123_1, c123_1, e123, hx123_0, hx123_1, hl123_1, hi123_1⟩ := at_T77 HR0_2.out (ji24) p123 q123
               obtain rfl : ad120 = ad123 := (by injection e123)
               replace hx123_0 := (HB.out.cell (World.block_lt_of_cell? w _ hx123_0)).trans hx123_0
               replace hx123_1 := (HB.out.cell (World.block_lt_of_cell? w _ hx123_1)).trans hx123_1
               have HR123_1 := Aside0.mk hi123_1
               have HC123_1 := Aside0.mk hl123_1
               clear hi123_1 hl123_1
               replace p123 := eq_true p123
               replace q123 := eq_true q123
               repeat (go_quiet (first | (go_at_call 42; (with_reducible refine (spec_l1In.calls ((rd_T77 l0_2 x26_2).f0) 1 (wrap64 (a0_0 - 1)) true _ A21.out).mono ?_); rintro e w' ⟨rfl, ⟨nd, rfl⟩⟩; (try first | exact ⟨rfl, _, World.drewN_drewN _ _ _⟩ | exact ⟨rfl, _, Eq.trans (World.drewN_drewN _ _ _) (congrArg (World.drewN _) (Nat.add_assoc _ _ _))⟩)) ); try go_wp2_with (first | (go_at_call 42; (with_reducible refine (spec_l1In.calls ((rd_T77 l0_2 x26_2).f0) 1 (wrap64 (a0_0 - 1)) true _ A21.out).mono ?_); rintro e w' ⟨rfl, ⟨nd, rfl⟩⟩; (try first | exact ⟨rfl, _, World.drewN_drewN _ _ _⟩ | exact ⟨rfl, _, Eq.trans (World.drewN_drewN _ _ _) (congrArg (World.drewN _) (Nat.add_assoc _ _ _))⟩); have p123 : 0 ≤ ((ji24) : Int) := of_decide_eq_true hE; have q123 : (ji24) < (l0_2.length : Int) := of_decide_eq_true hE; obtain ⟨ad123, A123_1, c123_1, e123, hx123_0, hx123_1, hl123_1, hi123_1⟩ := at_T77 HR0_2.out (ji24) p123 q123; obtain rfl : ad120 = ad123 := (by injection e123); replace hx123_0 := (HB.out.cell (World.block_lt_of_cell? w _ hx123_0)).trans hx123_0; replace hx123_1 := (HB.out.cell (World.block_lt_of_cell? w _ hx123_1)).trans hx123_1; have HR123_1 := Aside0.mk hi123_1; have HC123_1 := Aside0.mk hl123_1; clear hi123_1 hl123_1; replace p123 := eq_true p123; replace q123 := eq_true q123)))
               go_meet
               case rel => exact ⟨_, (true), tE, H', ⟨by have := HJ1.out; have := HK2.out; first | omega | exact Nat.le_refl _⟩, ⟨by refine bU ?_; exact BK117.out⟩, ⟨by refine bU ?_; exact BK121.out⟩, ⟨by repeat (first | (with_reducible first | exact HB.out | apply below_alloc | apply pw_below_drewN | apply below_drew1 | refine below_set ?_ GE117.out | refine below_set ?_ GE121.out) | exact HB.out)⟩⟩
              ·rw [if_neg c27] at H
               have c27b0 : decide (((rd_T77 l0_2 x26_2).f0) ≤ ((rd_T77 l0_2 (ji24)).f0)) = false := decide_eq_false c27
               clear c27
               have H' := Aside0.mk H
               clear H
               have hnb31 := NB121_117.out
               have hnc31 := NB117_121.out
               have hcz32_0 := cz BK121 0 (.int .i64 ((rd_T77 l0_2 x26_2).f0))
               have hcz32_1 := cz BK121 1 (.slice A120_1 ((rd_T77 l0_2 x26_2).f1).length c120_1)
               have hfz32_0 := fz BK121 0
               have hfz32_1 := fz BK121 1
               have hcz33_0 := cz BK117 0 (.int .i64 a0_0)
               have hcz33_1 := cz BK117 1 (.int .i64 a0_1)
               have hcz33_2 := cz BK117 2 (.slice (some ad120) l0_2.length c0_2)
               have hfz33_0 := fz BK117 0
               have hfz33_1 := fz BK117 1
               have hfz33_2 := fz BK117 2
               go_wp2_with (first | (go_at_call 42; (with_reducible refine (spec_l1In.calls ((rd_T77 l0_2 x26_2).f0) 1 (wrap64 (a0_0 - 1)) true _ A21.out).mono ?_); rintro e w' ⟨rfl, ⟨nd, rfl⟩⟩; (try first | exact ⟨rfl, _, World.drewN_drewN _ _ _⟩ | exact ⟨rfl, _, Eq.trans (World.drewN_drewN _ _ _) (congrArg (World.drewN _) (Nat.add_assoc _ _ _))⟩); have p123 : 0 ≤ ((ji24) : Int) := of_decide_eq_true hE; have q123 : (ji24) < (l0_2.length : Int) := of_decide_eq_true hE; obtain ⟨ad123, A123_1, c123_1, e123, hx123_0, hx123_1, hl123_1, hi123_1⟩ := at_T77 HR0_2.out (ji24) p123 q123; obtain rfl : ad120 = ad123 := (by injection e123); replace hx123_0 := (HB.out.cell (World.block_lt_of_cell? w _ hx123_0)).trans hx123_0; replace hx123_1 := (HB.out.cell (World.block_lt_of_cell? w _ hx123_1)).trans hx123_1; have HR123_1 := Aside0.mk hi123_1; have HC123_1 := Aside0.mk hl123_1; clear hi123_1 hl123_1; replace p123 := eq_true p123; replace q123 := eq_true q123))
               have p123 : 0 ≤ ((ji24) : Int) := of_decide_eq_true hE
               have q123 : (ji24) < (l0_2.length : Int) := of_decide_eq_true hE
               obtain ⟨ad123, A123_1, c123_1, e123, hx123_0, hx123_1, hl123_1, hi123_1⟩ := at_T77 HR0_2.out (ji24) p123 q123
               obtain rfl : ad120 = ad123 := (by injection e123)
               replace hx123_0 := (HB.out.cell (World.block_lt_of_cell? w _ hx123_0)).trans hx123_0
               replace hx123_1 := (HB.out.cell (World.block_lt_of_cell? w _ hx123_1)).trans hx123_1
               have HR123_1 := Aside0.mk hi123_1
               have HC123_1 := Aside0.mk hl123_1
               clear hi123_1 hl123_1
               replace p123 := eq_true p123
               replace q123 := eq_true q123
               repeat (go_quiet (first | (go_at_call 42; (with_reducible refine (spec_l1In.calls ((rd_T77 l0_2 x26_2).f0) 1 (wrap64 (a0_0 - 1)) true _ A21.out).mono ?_); rintro e w' ⟨rfl, ⟨nd, rfl⟩⟩; (try first | exact ⟨rfl, _, World.drewN_drewN _ _ _⟩ | exact ⟨rfl, _, Eq.trans (World.drewN_drewN _ _ _) (congrArg (World.drewN _) (Nat.add_assoc _ _ _))⟩)) ); try go_wp2_with (first | (go_at_call 42; (with_reducible refine (spec_l1In.calls ((rd_T77 l0_2 x26_2).f0) 1 (wrap64 (a0_0 - 1)) true _ A21.out).mono ?_); rintro e w' ⟨rfl, ⟨nd, rfl⟩⟩; (try first | exact ⟨rfl, _, World.drewN_drewN _ _ _⟩ | exact ⟨rfl, _, Eq.trans (World.drewN_drewN _ _ _) (congrArg (World.drewN _) (Nat.add_assoc _ _ _))⟩); have p123 : 0 ≤ ((ji24) : Int) := of_decide_eq_true hE; have q123 : (ji24) < (l0_2.length : Int) := of_decide_eq_true hE; obtain ⟨ad123, A123_1, c123_1, e123, hx123_0, hx123_1, hl123_1, hi123_1⟩ := at_T77 HR0_2.out (ji24) p123 q123; obtain rfl : ad120 = ad123 := (by injection e123); replace hx123_0 := (HB.out.cell (World.block_lt_of_cell? w _ hx123_0)).trans hx123_0; replace hx123_1 := (HB.out.cell (World.block_lt_of_cell? w _ hx123_1)).trans hx123_1; have HR123_1 := Aside0.mk hi123_1; have HC123_1 := Aside0.mk hl123_1; clear hi123_1 hl123_1; replace p123 := eq_true p123; replace q123 := eq_true q123)))
               go_meet
               case rel => exact ⟨_, (decide ((((rd_T77 l0_2 x26_2).f1).length : Int) > 12)), tE, H', ⟨by have := HJ1.out; have := HK2.out; first | omega | exact Nat.le_refl _⟩, ⟨by refine bU ?_; exact BK117.out⟩, ⟨by refine bU ?_; exact BK121.out⟩, ⟨by repeat (first | (with_reducible first | exact HB.out | apply below_alloc | apply pw_below_drewN | apply below_drew1 | refine below_set ?_ GE117.out | refine below_set ?_ GE121.out) | exact HB.out)⟩⟩
             ·rw [if_neg c26] at H
              exact absurd H (by simp)
            ·rw [if_neg c25] at H
             exact absurd H (by simp)
           ·rw [if_neg c23] at H
            have c23b0 : decide (0 < x26_2) = false := decide_eq_false c23
            clear c23
            (first | rw [c23b0] | (simp only [i64_w, i32_w]; rw [c23b0]) | (rw [c23b2]; simp only [Bool.not_false, Bool.not_true]) | skip)
            have H' := Aside0.mk H
            clear H
            have hnb34 := NB121_117.out
            have hnc34 := NB117_121.out
            have hcz35_0 := cz BK121 0 (.int .i64 ((rd_T77 l0_2 x26_2).f0))
            have hcz35_1 := cz BK121 1 (.slice A120_1 ((rd_T77 l0_2 x26_2).f1).length c120_1)
            have hfz35_0 := fz BK121 0
            have hfz35_1 := fz BK121 1
            have hcz36_0 := cz BK117 0 (.int .i64 a0_0)
            have hcz36_1 := cz BK117 1 (.int .i64 a0_1)
            have hcz36_2 := cz BK117 2 (.slice (some ad120) l0_2.length c0_2)
            have hfz36_0 := fz BK117 0
            have hfz36_1 := fz BK117 1
            have hfz36_2 := fz BK117 2
            go_wp2_with (first | (go_at_call 42; (with_reducible refine (spec_l1In.calls ((rd_T77 l0_2 x26_2).f0) 1 (wrap64 (a0_0 - 1)) true _ A21.out).mono ?_); rintro e w' ⟨rfl, ⟨nd, rfl⟩⟩; (try first | exact ⟨rfl, _, World.drewN_drewN _ _ _⟩ | exact ⟨rfl, _, Eq.trans (World.drewN_drewN _ _ _) (congrArg (World.drewN _) (Nat.add_assoc _ _ _))⟩)))
            repeat (go_quiet (first | (go_at_call 42; (with_reducible refine (spec_l1In.calls ((rd_T77 l0_2 x26_2).f0) 1 (wrap64 (a0_0 - 1)) true _ A21.out).mono ?_); rintro e w' ⟨rfl, ⟨nd, rfl⟩⟩; (try first | exact ⟨rfl, _, World.drewN_drewN _ _ _⟩ | exact ⟨rfl, _, Eq.trans (World.drewN_drewN _ _ _) (congrArg (World.drewN _) (Nat.add_assoc _ _ _))⟩))); try go_wp2_with (first | (go_at_call 42; (with_reducible refine (spec_l1In.calls ((rd_T77 l0_2 x26_2).f0) 1 (wrap64 (a0_0 - 1)) true _ A21.out).mono ?_); rintro e w' ⟨rfl, ⟨nd, rfl⟩⟩; (try first | exact ⟨rfl, _, World.drewN_drewN _ _ _⟩ | exact ⟨rfl, _, Eq.trans (World.drewN_drewN _ _ _) (congrArg (World.drewN _) (Nat.add_assoc _ _ _))⟩))))
            go_meet
            case rel => exact ⟨_, (decide ((((rd_T77 l0_2 x26_2).f1).length : Int) > 12)), tE, H', ⟨by have := HJ1.out; have := HK2.out; first | omega | exact Nat.le_refl _⟩, ⟨by refine bU ?_; exact BK117.out⟩, ⟨by refine bU ?_; exact BK121.out⟩, ⟨by repeat (first | (with_reducible first | exact HB.out | apply below_alloc | apply pw_below_drewN | apply below_drew1 | refine below_set ?_ GE117.out | refine below_set ?_ GE121.out) | exact HB.out)⟩⟩
          ·replace c22 := Bool.eq_false_iff.mpr c22
           subst c22
           have H1 : (spec_GoodWorld.j2 k2 l0_2 (l0_2.length : Int) x26_2 true a0_0 a0_1 l0_2 ((rd_T77 l0_2 x26_2).f0) ((rd_T77 l0_2 x26_2).f1)) = some r := by rw [if_neg (show ¬ (false = true) by decide)] at H; exact H
           clear H
           have H := H1
           clear H1
           have H' := Aside0.mk H
           clear H
           have hnb37 := NB121_117.out
           have hnc37 := NB117_121.out
           have hcz38_0 := cz BK121 0 (.int .i64 ((rd_T77 l0_2 x26_2).f0))
           have hcz38_1 := cz BK121 1 (.slice A120_1 ((rd_T77 l0_2 x26_2).f1).length c120_1)
           have hfz38_0 := fz BK121 0
           have hfz38_1 := fz BK121 1
           have hcz39_0 := cz BK117 0 (.int .i64 a0_0)
           have hcz39_1 := cz BK117 1 (.int .i64 a0_1)
           have hcz39_2 := cz BK117 2 (.slice (some ad120) l0_2.length c0_2)
           have hfz39_0 := fz BK117 0
           have hfz39_1 := fz BK117 1
           have hfz39_2 := fz BK117 2
           go_wp2_with (first | (go_at_call 42; (with_reducible refine (spec_l1In.calls ((rd_T77 l0_2 x26_2).f0) 1 (wrap64 (a0_0 - 1)) false _ A21.out).mono ?_); rintro e w' ⟨rfl, ⟨nd, rfl⟩⟩; (try first | exact ⟨rfl, _, World.drewN_drewN _ _ _⟩ | exact ⟨rfl, _, Eq.trans (World.drewN_drewN _ _ _) (congrArg (World.drewN _) (Nat.add_assoc _ _ _))⟩)))
           repeat (go_quiet (first | (go_at_call 42; (with_reducible refine (spec_l1In.calls ((rd_T77 l0_2 x26_2).f0) 1 (wrap64 (a0_0 - 1)) false _ A21.out).mono ?_); rintro e w' ⟨rfl, ⟨nd, rfl⟩⟩; (try first | exact ⟨rfl, _, World.drewN_drewN _ _ _⟩ | exact ⟨rfl, _, Eq.trans (World.drewN_drewN _ _ _) (congrArg (World.drewN _) (Nat.add_assoc _ _ _))⟩))); try go_wp2_with (first | (go_at_call 42; (with_reducible refine (spec_l1In.calls ((rd_T77 l0_2 x26_2).f0) 1 (wrap64 (a0_0 - 1)) false _ A21.out).mono ?_); rintro e w' ⟨rfl, ⟨nd, rfl⟩⟩; (try first | exact ⟨rfl, _, World.drewN_drewN _ _ _⟩ | exact ⟨rfl, _, Eq.trans (World.drewN_drewN _ _ _) (congrArg (World.drewN _) (Nat.add_assoc _ _ _))⟩))))
           go_meet
           case rel => exact ⟨_, (true), tE, H', ⟨by have := HJ1.out; have := HK2.out; first | omega | exact Nat.le_refl _⟩, ⟨by refine bU ?_; exact BK117.out⟩, ⟨by refine bU ?_; exact BK121.out⟩, ⟨by repeat (first | (with_reducible first | exact HB.out | apply below_alloc | apply pw_below_drewN | apply below_drew1 | refine below_set ?_ GE117.out | refine below_set ?_ GE121.out) | exact HB.out)⟩⟩
         case rest =>
          clear HC16
          try clear c1
          try clear p1
          try clear q1
          try clear hx1
          try clear hf1
          try clear c2
          try clear p2
          try clear c3
          try clear c4
          try clear c5
          try clear p6
          try clear c7
          try clear c11
          try clear c12
          try clear p12
          try clear q12
          try clear hx12
          try clear c13
          try clear c13b0
          try clear c14
          try clear c14b0
          try clear c15
          try clear c15b0
          try clear c18
          try clear c22
          try clear c23
          try clear c23b0
          try clear c23b2
          try clear c25
          try clear c25b0
          try clear c26
          try clear c26b0
          try clear c27
          try clear c27b0
          try clear c28
          try clear c31
          try clear c34
          try clear c37
          try clear hcz10_0
          try clear hcz10_1
          try clear hcz10_2
          try clear hcz12_0
          try clear hcz12_1
          try clear hcz12_2
          try clear hcz19_0
          try clear hcz19_1
          try clear hcz29_0
          try clear hcz29_1
          try clear hcz30_0
          try clear hcz30_1
          try clear hcz30_2
          try clear hcz32_0
          try clear hcz32_1
          try clear hcz33_0
          try clear hcz33_1
          try clear hcz33_2
          try clear hcz35_0
          try clear hcz35_1
          try clear hcz36_0
          try clear hcz36_1
          try clear hcz36_2
          try clear hcz38_0
          try clear hcz38_1
          try clear hcz39_0
          try clear hcz39_1
          try clear hcz39_2
          try clear hcz8_0
          try clear hcz8_1
          try clear hcz8_2
          try clear hcz9_0
          try clear hcz9_1
          try clear hcz9_2
          try clear hfz10_0
          try clear hfz10_1
          try clear hfz10_2
          try clear hfz12_0
          try clear hfz12_1
          try clear hfz12_2
          try clear hfz19_0
          try clear hfz19_1
          try clear hfz29_0
          try clear hfz29_1
          try clear hfz30_0
          try clear hfz30_1
          try clear hfz30_2
          try clear hfz32_0
          try clear hfz32_1
          try clear hfz33_0
          try clear hfz33_1
          try clear hfz33_2
          try clear hfz35_0
          try clear hfz35_1
          try clear hfz36_0
          try clear hfz36_1
          try clear hfz36_2
          try clear hfz38_0
          try clear hfz38_1
          try clear hfz39_0
          try clear hfz39_1
          try clear hfz39_2
          try clear hfz8_0
          try clear hfz8_1
          try clear hfz8_2
          try clear hfz9_0
          try clear hfz9_1
          try clear hfz9_2
          try clear hx120_0
          try clear hx120_1
          try clear hx123_0
          try clear hx123_1
          try clear p120
          try clear p123
          try clear p2
          try clear q120
          try clear q123
          obtain ⟨kq, x59_15, rfl, HA, HJ15, BK117, BK121, HB⟩ := hcut
          cases kq with
          | zero => exact absurd HA.out (by simp [spec_GoodWorld.j2])
          | succ kj15 =>
           have H := HA.out
           clear HA
           simp only [spec_GoodWorld.j2] at H
           by_cases c40 : x59_15 = true
           ·subst c40
            have H1 : (some false) = some r := by rw [if_pos rfl] at H; exact H
            clear H
            have H := H1
            clear H1
            obtain rfl := Option.some.inj H
            go_wp2
            repeat (go_quiet (fail); try go_wp2)
            go_ret
            exact ⟨eE, lV2 GE117 GE121⟩
           ·replace c40 := Bool.eq_false_iff.mpr c40
            subst c40
            have H1 : (spec_GoodWorld.l1 kj15 l0_2 (l0_2.length : Int) x26_2 ((rd_T77 l0_2 x26_2).f1) (((rd_T77 l0_2 x26_2).f1).length : Int) 0 a0_0 a0_1 l0_2 ((rd_T77 l0_2 x26_2).f0) ((rd_T77 l0_2 x26_2).f1)) = some r := by rw [if_neg (show ¬ (false = true) by decide)] at H; exact H
            clear H
            have H := H1
            clear H1
            have H' := Aside0.mk H
            clear H
            have hnb41 := NB121_117.out
            have hnc41 := NB117_121.out
            have hcz42_0 := cz BK121 0 (.int .i64 ((rd_T77 l0_2 x26_2).f0))
            have hcz42_1 := cz BK121 1 (.slice A120_1 ((rd_T77 l0_2 x26_2).f1).length c120_1)
            have hfz42_0 := fz BK121 0
            have hfz42_1 := fz BK121 1
            go_wp2
            repeat (go_quiet (fail); try go_wp2)
            go_loopg [63] kj15 (fun kq v63 w' => ∃ (x63_4 : Int), v63 = .int .i64 x63_4 ∧ Aside0 (spec_GoodWorld.l1 kq l0_2 (l0_2.length : Int) x26_2 ((rd_T77 l0_2 x26_2).f1) (((rd_T77 l0_2 x26_2).f1).length : Int) x63_4 a0_0 a0_1 l0_2 ((rd_T77 l0_2 x26_2).f0) ((rd_T77 l0_2 x26_2).f1) = some r) ∧ Aside0 (kq ≤ kj15) ∧ Aside0 (w'.heap[gb117]? = some (.cells #[.int .i64 a0_0, .int .i64 a0_1, (.slice (some ad120) l0_2.length c0_2)] 50 (0, 0))) ∧ Aside0 (w'.heap[gb121]? = some (.cells #[.int .i64 ((rd_T77 l0_2 x26_2).f0), (.slice A120_1 ((rd_T77 l0_2 x26_2).f1).length c120_1)] 77 (0, 0))) ∧ Aside0 (Below w.heap.size w w'))
            case atStart => exact ⟨(0), tE, H', ⟨Nat.le_refl _⟩, ⟨by refine bU ?_; exact BK117.out⟩, ⟨by refine bU ?_; exact BK121.out⟩, ⟨by repeat (first | (with_reducible first | exact HB.out | apply below_alloc | apply pw_below_drewN | apply below_drew1 | refine below_set ?_ GE117.out | refine below_set ?_ GE121.out) | exact HB.out)⟩⟩
            case round =>
             clear H'
             try clear c1
             try clear p1
             try clear q1
             try clear hx1
             try clear hf1
             try clear c2
             try clear p2
             try clear c3
             try clear c4
             try clear c5
             try clear p6
             try clear c7
             try clear c11
             try clear c12
             try clear p12
             try clear q12
             try clear hx12
             try clear c13
             try clear c13b0
             try clear c14
             try clear c14b0
             try clear c15
             try clear c15b0
             try clear c18
             try clear c22
             try clear c23
             try clear c23b0
             try clear c23b2
             try clear c25
             try clear c25b0
             try clear c26
             try clear c26b0
             try clear c27
             try clear c27b0
             try clear c28
             try clear c31
             try clear c34
             try clear c37
             try clear c40
             try clear c41
             try clear hcz10_0
             try clear hcz10_1
             try clear hcz10_2
             try clear hcz12_0
             try clear hcz12_1
             try clear hcz12_2
             try clear hcz19_0
             try clear hcz19_1
             try clear hcz29_0
             try clear hcz29_1
             try clear hcz30_0
             try clear hcz30_1
             try clear hcz30_2
             try clear hcz32_0
             try clear hcz32_1
             try clear hcz33_0
             try clear hcz33_1
             try clear hcz33_2
             try clear hcz35_0
             try clear hcz35_1
             try clear hcz36_0
             try clear hcz36_1
             try clear hcz36_2
             try clear hcz38_0
             try clear hcz38_1
             try clear hcz39_0
             try clear hcz39_1
             try clear hcz39_2
             try clear hcz42_0
             try clear hcz42_1
             try clear hcz8_0
             try clear hcz8_1
             try clear hcz8_2
             try clear hcz9_0
             try clear hcz9_1
             try clear hcz9_2
             try clear hfz10_0
             try clear hfz10_1
             try clear hfz10_2
             try clear hfz12_0
             try clear hfz12_1
             try clear hfz12_2
             try clear hfz19_0
             try clear hfz19_1
             try clear hfz29_0
             try clear hfz29_1
             try clear hfz30_0
             try clear hfz30_1
             try clear hfz30_2
             try clear hfz32_0
             try clear hfz32_1
             try clear hfz33_0
             try clear hfz33_1
             try clear hfz33_2
             try clear hfz35_0
             try clear hfz35_1
             try clear hfz36_0
             try clear hfz36_1
             try clear hfz36_2
             try clear hfz38_0
             try clear hfz38_1
             try clear hfz39_0
             try clear hfz39_1
             try clear hfz39_2
             try clear hfz42_0
             try clear hfz42_1
             try clear hfz8_0
             try clear hfz8_1
             try clear hfz8_2
             try clear hfz9_0
             try clear hfz9_1
             try clear hfz9_2
             try clear hx120_0
             try clear hx120_1
             try clear hx123_0
             try clear hx123_1
             try clear p1
             try clear p12
             try clear p120
             try clear p123
             try clear p2
             try clear p6
             try clear q1
             try clear q12
             try clear q120
             try clear q123
             obtain ⟨x63_4, rfl, HA, HK4, BK117, BK121, HB⟩ := hrel
             cases gk with
             | zero => exact absurd HA.out (by simp [spec_GoodWorld.l1])
             | succ k4 =>
              have H := HA.out
              clear HA
              simp only [spec_GoodWorld.l1] at H
              by_cases c43 : x63_4 < (((rd_T77 l0_2 x26_2).f1).length : Int)
              ·rw [if_pos c43] at H
               have c43b0 : decide (x63_4 < (((rd_T77 l0_2 x26_2).f1).length : Int)) = true := decide_eq_true c43
               clear c43
               by_cases c44 : 0 ≤ x63_4
               ·rw [if_pos c44] at H
                have c44b0 : decide (0 ≤ x63_4) = true := decide_eq_true c44
                clear c44
                by_cases c45 : x63_4 < (((rd_T77 l0_2 x26_2).f1).length : Int)
                ·rw [if_pos c45] at H
                 have c45b0 : decide (x63_4 < (((rd_T77 l0_2 x26_2).f1).length : Int)) = true := decide_eq_true c45
                 clear c45
                 replace H := Option.bind_eq_some_iff.mp H
                 obtain ⟨t126, A460, H⟩ := H
                 replace H : (if t126 = true then ((spec_l1In.f ((rd_T80 ((rd_T77 l0_2 x26_2).f1) x63_4).f2) 0 a0_1).bind fun t127 => (if t127 = true then (if x63_4 > 0 then (if 0 ≤ (wrap64 (x63_4 - 1)) then (if (wrap64 (x63_4 - 1)) < (((rd_T77 l0_2 x26_2).f1).length : Int) then (if ((Op.bytesLess (((rd_T80 ((rd_T77 l0_2 x26_2).f1) (wrap64 (x63_4 - 1))).f0).toList) (((rd_T80 ((rd_T77 l0_2 x26_2).f1) x63_4).f0).toList)) = true) then (spec_GoodWorld.l1 k4 l0_2 (l0_2.length : Int) x26_2 ((rd_T77 l0_2 x26_2).f1) (((rd_T77 l0_2 x26_2).f1).length : Int) (wrap64 (x63_4 + 1)) a0_0 a0_1 l0_2 ((rd_T77 l0_2 x26_2).f0) ((rd_T77 l0_2 x26_2).f1)) else (some false)) else (none)) else (none)) else (spec_GoodWorld.l1 k4 l0_2 (l0_2.length : Int) x26_2 ((rd_T77 l0_2 x26_2).f1) (((rd_T77 l0_2 x26_2).f1).length : Int) (wrap64 (x63_4 + 1)) a0_0 a0_1 l0_2 ((rd_T77 l0_2 x26_2).f0) ((rd_T77 l0_2 x26_2).f1))) else (some false))) else (some false)) = some r := H
                 have A46 := Aside0.mk A460
                 clear A460
                 by_cases c47 : t126 = true
                 ·subst c47
                  have H1 : ((spec_l1In.f ((rd_T80 ((rd_T77 l0_2 x26_2).f1) x63_4).f2) 0 a0_1).bind fun t127 => (if t127 = true then (if x63_4 > 0 then (if 0 ≤ (wrap64 (x63_4 - 1)) then (if (wrap64 (x63_4 - 1)) < (((rd_T77 l0_2 x26_2).f1).length : Int) then (if ((Op.bytesLess (((rd_T80 ((rd_T77 l0_2 x26_2).f1) (wrap64 (x63_4 - 1))).f0).toList) (((rd_T80 ((rd_T77 l0_2 x26_2).f1) x63_4).f0).toList)) = true) then (spec_GoodWorld.l1 k4 l0_2 (l0_2.length : Int) x26_2 ((rd_T77 l0_2 x26_2).f1) (((rd_T77 l0_2 x26_2).f1).length : Int) (wrap64 (x63_4 + 1)) a0_0 a0_1 l0_2 ((rd_T77 l0_2 x26_2).f0) ((rd_T77 l0_2 x26_2).f1)) else (some false)) else (none)) else (none)) else (spec_GoodWorld.l1 k4 l0_2 (l0_2.length : Int) x26_2 ((rd_T77 l0_2 x26_2).f1) (((rd_T77 l0_2 x26_2).f1).length : Int) (wrap64 (x63_4 + 1)) a0_0 a0_1 l0_2 ((rd_T77 l0_2 x26_2).f0) ((rd_T77 l0_2 x26_2).f1))) else (some false))) = some r := by rw [if_pos rfl] at H; exact H
                  clear H
                  have H := H1
                  clear H1
                  replace H := Option.bind_eq_some_iff.mp H
                  obtain ⟨t127, A480, H⟩ := H
                  replace H : (if t127 = true then (if x63_4 > 0 then (if 0 ≤ (wrap64 (x63_4 - 1)) then (if (wrap64 (x63_4 - 1)) < (((rd_T77 l0_2 x26_2).f1).length : Int) then (if ((Op.bytesLess (((rd_T80 ((rd_T77 l0_2 x26_2).f1) (wrap64 (x63_4 - 1))).f0).toList) (((rd_T80 ((rd_T77 l0_2 x26_2).f1) x63_4).f0).toList)) = true) then (spec_GoodWorld.l1 k4 l0_2 (l0_2.length : Int) x26_2 ((rd_T77 l0_2 x26_2).f1) (((rd_T77 l0_2 x26_2).f1).length : Int) (wrap64 (x63_4 + 1)) a0_0 a0_1 l0_2 ((rd_T77 l0_2 x26_2).f0) ((rd_T77 l0_2 x26_2).f1)) else (some false)) else (none)) else (none)) else (spec_GoodWorld.l1 k4 l0_2 (l0_2.length : Int) x26_2 ((rd_T77 l0_2 x26_2).f1) (((rd_T77 l0_2 x26_2).f1).length : Int) (wrap64 (x63_4 + 1)) a0_0 a0_1 l0_2 ((rd_T77 l0_2 x26_2).f0) ((rd_T77 l0_2 x26_2).f1))) else (some false)) = some r := H
                  have A48 := Aside0.mk A480
                  clear A480
                  by_cases c49 : t127 = true
                  ·subst c49
                   have H1 : (if x63_4 > 0 then (if 0 ≤ (wrap64 (x63_4 - 1)) then (if (wrap64 (x63_4 - 1)) < (((rd_T77 l0_2 x26_2).f1).length : Int) then (if ((Op.bytesLess (((rd_T80 ((rd_T77 l0_2 x26_2).f1) (wrap64 (x63_4 - 1))).f0).toList) (((rd_T80 ((rd_T77 l0_2 x26_2).f1) x63_4).f0).toList)) = true) then (spec_GoodWorld.l1 k4 l0_2 (l0_2.length : Int) x26_2 ((rd_T77 l0_2 x26_2).f1) (((rd_T77 l0_2 x26_2).f1).length : Int) (wrap64 (x63_4 + 1)) a0_0 a0_1 l0_2 ((rd_T77 l0_2 x26_2).f0) ((rd_T77 l0_2 x26_2).f1)) else (some false)) else (none)) else (none)) else (spec_GoodWorld.l1 k4 l0_2 (l0_2.length : Int) x26_2 ((rd_T77 l0_2 x26_2).f1) (((rd_T77 l0_2 x26_2).f1).length : Int) (wrap64 (x63_4 + 1)) a0_0 a0_1 l0_2 ((rd_T77 l0_2 x26_2).f0) ((rd_T77 l0_2 x26_2).f1))) = some r := by rw [if_pos rfl] at H; exact H
                   clear H
                   have H := H1
                   clear H1
                   by_cases c50 : x63_4 > 0
                   ·rw [if_pos c50] at H
                    have c50b0 : decide (0 < x63_4) = true := decide_eq_true c50
                    clear c50
                    obtain ⟨ji51, hji51⟩ : ∃ j_ : Int, (wrap64 (x63_4 - 1)) = j_ := ⟨_, rfl⟩
                    replace H : (if 0 ≤ (ji51) then (if (ji51) < (((rd_T77 l0_2 x26_2).f1).length : Int) then (if ((Op.bytesLess (((rd_T80 ((rd_T77 l0_2 x26_2).f1) (ji51)).f0).toList) (((rd_T80 ((rd_T77 l0_2 x26_2).f1) x63_4).f0).toList)) = true) then (spec_GoodWorld.l1 k4 l0_2 (l0_2.length : Int) x26_2 ((rd_T77 l0_2 x26_2).f1) (((rd_T77 l0_2 x26_2).f1).length : Int) (wrap64 (x63_4 + 1)) a0_0 a0_1 l0_2 ((rd_T77 l0_2 x26_2).f0) ((rd_T77 l0_2 x26_2).f1)) else (some false)) else (none)) else (none)) = some r := by first | (rw [hji51] at H; exact H) | (simp only [hji51] at H ⊢; exact H)
                    (try rw [hji51] at A46)
                    (try rw [hji51] at A48)
                    have hji51w : (IntKind.i64.wrap (x63_4 - 1)) = ji51 := (i64_w _).trans hji51
                    by_cases c52 : 0 ≤ (ji51)
                    ·rw [if_pos c52] at H
                     have c52b0 : decide (0 ≤ (ji51)) = true := decide_eq_true c52
                     clear c52
                     by_cases c53 : (ji51) < (((rd_T77 l0_2 x26_2).f1).length : Int)
                     ·rw [if_pos c53] at H
                      have c53b0 : decide ((ji51) < (((rd_T77 l0_2 x26_2).f1).length : Int)) = true := decide_eq_true c53
                      clear c53
                      by_cases c54 : ((Op.bytesLess (((rd_T80 ((rd_T77 l0_2 x26_2).f1) (ji51)).f0).toList) (((rd_T80 ((rd_T77 l0_2 x26_2).f1) x63_4).f0).toList)) = true)
                      ·rw [if_pos c54] at H
                       have c54b0 : (Op.bytesLess (((rd_T80 ((rd_T77 l0_2 x26_2).f1) (ji51)).f0).toList) (((rd_T80 ((rd_T77 l0_2 x26_2).f1) x63_4).f0).toList)) = true := c54
                       clear c54
                       have H' := Aside0.mk H
                       clear H
                       have p124 : 0 ≤ (x63_4 : Int) := of_decide_eq_true hE
                       have q124 : x63_4 < (((rd_T77 l0_2 x26_2).f1).length : Int) := of_decide_eq_true hE
                       obtain ⟨ad124, e124, hx124_0, hx124_1, hx124_2⟩ := at_T80 HR120_1.out x63_4 p124 q124
                       cases e124
                       replace hx124_0 := (HB.out.cell (World.block_lt_of_cell? w _ hx124_0)).trans hx124_0
                       replace hx124_1 := (HB.out.cell (World.block_lt_of_cell? w _ hx124_1)).trans hx124_1
                       replace hx124_2 := (HB.out.cell (World.block_lt_of_cell? w _ hx124_2)).trans hx124_2
                       replace p124 := eq_true p124
                       replace q124 := eq_true q124
                       go_wp2_with (first | ((with_reducible refine gate_dst (N := 6) rfl ?_); (try (refine gate_guard (by rfl) ?_; dsimp only)); refine box_event rfl (N := 6) rfl (cs := #[.string (⟨#[]⟩ : ByteArray), .int .i64 0, .int .i64 0]) (t := 80) sE ?_; intro gb125 hg w55 hbox hb; have BK125 := Aside0.mk hbox; have GW125 := gS w hg (lV2 GE117 GE121); have GE125 := gS w hg (lV2 GE117 GE121); replace HB := bH (lV2 GE117 GE121) hb; have NB117_125 := nL hg (bV BK117); have NB125_117 := nG hg (bV BK117); replace BK117 := bB (bV BK117) hb; have NB121_125 := nL hg (bV BK121); have NB125_121 := nG hg (bV BK121); replace BK121 := bB (bV BK121) hb; clear hb hbox hg; have hnb56 := NB125_117.out; have hnc56 := NB117_125.out; have hnb57 := NB125_121.out; have hnc57 := NB121_125.out; have hcz58_0 := cz BK125 0 (.string (⟨#[]⟩ : ByteArray)); have hcz58_1 := cz BK125 1 (.int .i64 0); have hcz58_2 := cz BK125 2 (.int .i64 0); have hfz58_0 := fz BK125 0; have hfz58_1 := fz BK125 1; have hfz58_2 := fz BK125 2) | ((with_reducible refine gate_store (t := 80) (p := 6) rfl ?_); (try (rw [drewN_self w55]; generalize hq_ : World.drewN w55 _ = w55; replace BK117 := Aside0.mk (blk_at hq_ BK117.out); replace BK121 := Aside0.mk (blk_at hq_ BK121.out); replace BK125 := Aside0.mk (blk_at hq_ BK125.out); replace HB := Aside0.mk (below_at hq_ HB.out); clear hq_)); refine store_event (t := 80) (p := 6) (v := ?vo_w59) (w1 := (((w55.setCell ⟨gb125, 0, none⟩ (.string ((rd_T80 ((rd_T77 l0_2 x26_2).f1) x63_4).f0))).setCell ⟨gb125, 1, none⟩ (.int .i64 ((rd_T80 ((rd_T77 l0_2 x26_2).f1) x63_4).f1))).setCell ⟨gb125, 2, none⟩ (.int .i64 ((rd_T80 ((rd_T77 l0_2 x26_2).f1) x63_4).f2)))) ?hg ?ho ?hn ?hr ?_; (case ho => rfl); (case hg => rfl); (case hn => rfl); (case hr => first | (go_simp; done) | (go_simp; rfl) | (have hq0_ := (blk_cell BK125.out 0).trans (show _ = some _ from rfl); have hf0_ := blk_frozen BK125.out 0; have hq1_ := (blk_cell BK125.out 1).trans (show _ = some _ from rfl); have hf1_ := blk_frozen BK125.out 1; have hq2_ := (blk_cell BK125.out 2).trans (show _ = some _ from rfl); have hf2_ := blk_frozen BK125.out 2; first | (go_simp; done) | (go_simp; rfl))); intro w59 hw; replace BK117 : Aside0 (w59.heap[gb117]? = some (.cells #[.int .i64 a0_0, .int .i64 a0_1, .slice (some ad120) l0_2.length c0_2] 50 (0, 0))) := ⟨(by rw [hw]; exact (bG NB117_125 BK117))⟩; replace BK121 : Aside0 (w59.heap[gb121]? = some (.cells #[.int .i64 ((rd_T77 l0_2 x26_2).f0), .slice (some ad124) ((rd_T77 l0_2 x26_2).f1).length c120_1] 77 (0, 0))) := ⟨(by rw [hw]; exact (bG NB121_125 BK121))⟩; replace BK125 : Aside0 (w59.heap[gb125]? = some (.cells #[.string ((rd_T80 ((rd_T77 l0_2 x26_2).f1) x63_4).f0), .int .i64 ((rd_T80 ((rd_T77 l0_2 x26_2).f1) x63_4).f1), .int .i64 ((rd_T80 ((rd_T77 l0_2 x26_2).f1) x63_4).f2)] 80 (0, 0))) := ⟨(by rw [hw]; exact (by refine bU ?_; refine blk_put (cs := #[.string ((rd_T80 ((rd_T77 l0_2 x26_2).f1) x63_4).f0), .int .i64 ((rd_T80 ((rd_T77 l0_2 x26_2).f1) x63_4).f1), .int .i64 0]) ?_ 2 _ rfl; refine bU ?_; refine blk_put (cs := #[.string ((rd_T80 ((rd_T77 l0_2 x26_2).f1) x63_4).f0), .int .i64 0, .int .i64 0]) ?_ 1 _ rfl; refine bU ?_; refine blk_put (cs := #[.string (⟨#[]⟩ : ByteArray), .int .i64 0, .int .i64 0]) ?_ 0 _ rfl; refine bU ?_; exact BK125.out))⟩; replace HB : Aside0 (Below w.heap.size w w59) := ⟨(by rw [hw]; exact (lV3 GE117 GE121 GE125))⟩; clear hw; have hcz60_0 := cz BK125 0 (.string ((rd_T80 ((rd_T77 l0_2 x26_2).f1) x63_4).f0)); have hcz60_1 := cz BK125 1 (.int .i64 ((rd_T80 ((rd_T77 l0_2 x26_2).f1) x63_4).f1)); have hcz60_2 := cz BK125 2 (.int .i64 ((rd_T80 ((rd_T77 l0_2 x26_2).f1) x63_4).f2)); have hfz60_0 := fz BK125 0; have hfz60_1 := fz BK125 1; have hfz60_2 := fz BK125 2) | (go_at_call 55; (with_reducible refine (spec_GoodName.calls k4 ((rd_T80 ((rd_T77 l0_2 x26_2).f1) x63_4).f0) true _ A46.out).mono ?_); rintro e w' ⟨rfl, ⟨nd, rfl⟩⟩; (try first | exact ⟨rfl, _, World.drewN_drewN _ _ _⟩ | exact ⟨rfl, _, Eq.trans (World.drewN_drewN _ _ _) (congrArg (World.drewN _) (Nat.add_assoc _ _ _))⟩); have hnb61 := NB117_121.out; have hnc61 := NB121_117.out; have hcz62_0 := cz BK117 0 (.int .i64 a0_0); have hcz62_1 := cz BK117 1 (.int .i64 a0_1); have hcz62_2 := cz BK117 2 (.slice (some ad120) l0_2.length c0_2); have hfz62_0 := fz BK117 0; have hfz62_1 := fz BK117 1; have hfz62_2 := fz BK117 2) | (go_at_call 42; (with_reducible refine (spec_l1In.calls ((rd_T80 ((rd_T77 l0_2 x26_2).f1) x63_4).f2) 0 a0_1 true _ A48.out).mono ?_); rintro e w' ⟨rfl, ⟨nd, rfl⟩⟩; (try first | exact ⟨rfl, _, World.drewN_drewN _ _ _⟩ | exact ⟨rfl, _, Eq.trans (World.drewN_drewN _ _ _) (congrArg (World.drewN _) (Nat.add_assoc _ _ _))⟩); have hcz63_0 := cz BK121 0 (.int .i64 ((rd_T77 l0_2 x26_2).f0)); have hcz63_1 := cz BK121 1 (.slice (some ad124) ((rd_T77 l0_2 x26_2).f1).length c120_1); have hfz63_0 := fz BK121 0; have hfz63_1 := fz BK121 1; have p128 : 0 ≤ ((ji51) : Int) := of_decide_eq_true hE; have q128 : (ji51) < (((rd_T77 l0_2 x26_2).f1).length : Int) := of_decide_eq_true hE; obtain ⟨ad128, e128, hx128_0, hx128_1, hx128_2⟩ := at_T80 HR120_1.out (ji51) p128 q128; obtain rfl : ad124 = ad128 := (by injection e128); replace hx128_0 := (HB.out.cell (World.block_lt_of_cell? w _ hx128_0)).trans hx128_0; replace hx128_1 := (HB.out.cell (World.block_lt_of_cell? w _ hx128_1)).trans hx128_1; replace hx128_2 := (HB.out.cell (World.block_lt_of_cell? w _ hx128_2)).trans hx128_2; replace p128 := eq_true p128; replace q128 := eq_true q128))
                       have hnb61 := NB117_121.out
                       have hnc61 := NB121_117.out
                       have hcz62_0 := cz BK117 0 (.int .i64 a0_0)
                       have hcz62_1 := cz BK117 1 (.int .i64 a0_1)
                       have hcz62_2 := cz BK117 2 (.slice (some ad120) l0_2.length c0_2)
                       have hfz62_0 := fz BK117 0
                       have hfz62_1 := fz BK117 1
                       have hfz62_2 := fz BK117 2
                       have hcz63_0 := cz BK121 0 (.int .i64 ((rd_T77 l0_2 x26_2).f0))
                       have hcz63_1 := cz BK121 1 (.slice (some ad124) ((rd_T77 l0_2 x26_2).f1).length c120_1)
                       have hfz63_0 := fz BK121 0
                       have hfz63_1 := fz BK121 1
                       have p128 : 0 ≤ ((ji51) : Int) := of_decide_eq_true hE
                       have q128 : (ji51) < (((rd_T77 l0_2 x26_2).f1).length : Int) := of_decide_eq_true hE
                       obtain ⟨ad128, e128, hx128_0, hx128_1, hx128_2⟩ := at_T80 HR120_1.out (ji51) p128 q128
                       obtain rfl : ad124 = ad128 := (by injection e128)
                       replace hx128_0 := (HB.out.cell (World.block_lt_of_cell? w _ hx128_0)).trans hx128_0
                       replace hx128_1 := (HB.out.cell (World.block_lt_of_cell? w _ hx128_1)).trans hx128_1
                       replace hx128_2 := (HB.out.cell (World.block_lt_of_cell? w _ hx128_2)).trans hx128_2
                       replace p128 := eq_true p128
                       replace q128 := eq_true q128
                       repeat (go_quiet (first | ((with_reducible refine gate_dst (N := 6) rfl ?_); (try (refine gate_guard (by rfl) ?_; dsimp only)); refine box_event rfl (N := 6) rfl (cs := #[.string (⟨#[]⟩ : ByteArray), .int .i64 0, .int .i64 0]) (t := 80) sE ?_; intro gb125 hg w55 hbox hb; have BK125 := Aside0.mk hbox; have GW125 := gS w hg (lV2 GE117 GE121); have GE125 := gS w hg (lV2 GE117 GE121); replace HB := bH (lV2 GE117 GE121) hb; have NB117_125 := nL hg (bV BK117); have NB125_117 := nG hg (bV BK117); replace BK117 := bB (bV BK117) hb; have NB121_125 := nL hg (bV BK121); have NB125_121 := nG hg (bV BK121); replace BK121 := bB (bV BK121) hb; clear hb hbox hg; have hnb56 := NB125_117.out; have hnc56 := NB117_125.out; have hnb57 := NB125_121.out; have hnc57 := NB121_125.out; have hcz58_0 := cz BK125 0 (.string (⟨#[]⟩ : ByteArray)); have hcz58_1 := cz BK125 1 (.int .i64 0); have hcz58_2 := cz BK125 2 (.int .i64 0); have hfz58_0 := fz BK125 0; have hfz58_1 := fz BK125 1; have hfz58_2 := fz BK125 2) | ((with_reducible refine gate_store (t := 80) (p := 6) rfl ?_); (try (rw [drewN_self w55]; generalize hq_ : World.drewN w55 _ = w55; replace BK117 := Aside0.mk (blk_at hq_ BK117.out); replace BK121 := Aside0.mk (blk_at hq_ BK121.out); replace BK125 := Aside0.mk (blk_at hq_ BK125.out); replace HB := Aside0.mk (below_at hq_ HB.out); clear hq_)); refine store_event (t := 80) (p := 6) (v := ?vo_w59) (w1 := (((w55.setCell ⟨gb125, 0, none⟩ (.string ((rd_T80 ((rd_T77 l0_2 x26_2).f1) x63_4).f0))).setCell ⟨gb125, 1, none⟩ (.int .i64 ((rd_T80 ((rd_T77 l0_2 x26_2).f1) x63_4).f1))).setCell ⟨gb125, 2, none⟩ (.int .i64 ((rd_T80 ((rd_T77 l0_2 x26_2).f1) x63_4).f2)))) ?hg ?ho ?hn ?hr ?_; (case ho => rfl); (case hg => rfl); (case hn => rfl); (case hr => first | (go_simp; done) | (go_simp; rfl) | (have hq0_ := (blk_cell BK125.out 0).trans (show _ = some _ from rfl); have hf0_ := blk_frozen BK125.out 0; have hq1_ := (blk_cell BK125.out 1).trans (show _ = some _ from rfl); have hf1_ := blk_frozen BK125.out 1; have hq2_ := (blk_cell BK125.out 2).trans (show _ = some _ from rfl); have hf2_ := blk_frozen BK125.out 2; first | (go_simp; done) | (go_simp; rfl))); intro w59 hw; replace BK117 : Aside0 (w59.heap[gb117]? = some (.cells #[.int .i64 a0_0, .int .i64 a0_1, .slice (some ad120) l0_2.length c0_2] 50 (0, 0))) := ⟨(by rw [hw]; exact (bG NB117_125 BK117))⟩; replace BK121 : Aside0 (w59.heap[gb121]? = some (.cells #[.int .i64 ((rd_T77 l0_2 x26_2).f0), .slice (some ad124) ((rd_T77 l0_2 x26_2).f1).length c120_1] 77 (0, 0))) := ⟨(by rw [hw]; exact (bG NB121_125 BK121))⟩; replace BK125 : Aside0 (w59.heap[gb125]? = some (.cells #[.string ((rd_T80 ((rd_T77 l0_2 x26_2).f1) x63_4).f0), .int .i64 ((rd_T80 ((rd_T77 l0_2 x26_2).f1) x63_4).f1), .int .i64 ((rd_T80 ((rd_T77 l0_2 x26_2).f1) x63_4).f2)] 80 (0, 0))) := ⟨(by rw [hw]; exact (by refine bU ?_; refine blk_put (cs := #[.string ((rd_T80 ((rd_T77 l0_2 x26_2).f1) x63_4).f0), .int .i64 ((rd_T80 ((rd_T77 l0_2 x26_2).f1) x63_4).f1), .int .i64 0]) ?_ 2 _ rfl; refine bU ?_; refine blk_put (cs := #[.string ((rd_T80 ((rd_T77 l0_2 x26_2).f1) x63_4).f0), .int .i64 0, .int .i64 0]) ?_ 1 _ rfl; refine bU ?_; refine blk_put (cs := #[.string (⟨#[]⟩ : ByteArray), .int .i64 0, .int .i64 0]) ?_ 0 _ rfl; refine bU ?_; exact BK125.out))⟩; replace HB : Aside0 (Below w.heap.size w w59) := ⟨(by rw [hw]; exact (lV3 GE117 GE121 GE125))⟩; clear hw; have hcz60_0 := cz BK125 0 (.string ((rd_T80 ((rd_T77 l0_2 x26_2).f1) x63_4).f0)); have hcz60_1 := cz BK125 1 (.int .i64 ((rd_T80 ((rd_T77 l0_2 x26_2).f1) x63_4).f1)); have hcz60_2 := cz BK125 2 (.int .i64 ((rd_T80 ((rd_T77 l0_2 x26_2).f1) x63_4).f2)); have hfz60_0 := fz BK125 0; have hfz60_1 := fz BK125 1; have hfz60_2 := fz BK125 2) |(go_at_call 55; (with_reducible refine (spec_GoodName.calls k4 ((rd_T80 ((rd_T77 l0_2 x26_2).f1) x63_4).f0) true _ A46.out).mono ?_); rintro e w' ⟨rfl, ⟨nd, rfl⟩⟩; (try first | exact ⟨rfl, _, World.drewN_drewN _ _ _⟩ | exact ⟨rfl, _, Eq.trans (World.drewN_drewN _ _ _) (congrArg (World.drewN _) (Nat.add_assoc _ _ _))⟩)) |(go_at_call 42; (with_reducible refine (spec_l1In.calls ((rd_T80 ((rd_T77 l0_2 x26_2).f1) x63_4).f2) 0 a0_1 true _ A48.out).mono ?_); rintro e w' ⟨rfl, ⟨nd, rfl⟩⟩; (try first | exact ⟨rfl, _, World.drewN_drewN _ _ _⟩ | exact ⟨rfl, _, Eq.trans (World.drewN_drewN _ _ _) (congrArg (World.drewN _) (Nat.add_assoc _ _ _))⟩)) ); try go_wp2_with (first | ((with_reducible refine gate_dst (N := 6) rfl ?_); (try (refine gate_guard (by rfl) ?_; dsimp only)); refine box_event rfl (N := 6) rfl (cs := #[.string (⟨#[]⟩ : ByteArray), .int .i64 0, .int .i64 0]) (t := 80) sE ?_; intro gb125 hg w55 hbox hb; have BK125 := Aside0.mk hbox; have GW125 := gS w hg (lV2 GE117 GE121); have GE125 := gS w hg (lV2 GE117 GE121); replace HB := bH (lV2 GE117 GE121) hb; have NB117_125 := nL hg (bV BK117); have NB125_117 := nG hg (bV BK117); replace BK117 := bB (bV BK117) hb; have NB121_125 := nL hg (bV BK121); have NB125_121 := nG hg (bV BK121); replace BK121 := bB (bV BK121) hb; clear hb hbox hg; have hnb56 := NB125_117.out; have hnc56 := NB117_125.out; have hnb57 := NB125_121.out; have hnc57 := NB121_125.out; have hcz58_0 := cz BK125 0 (.string (⟨#[]⟩ : ByteArray)); have hcz58_1 := cz BK125 1 (.int .i64 0); have hcz58_2 := cz BK125 2 (.int .i64 0); have hfz58_0 := fz BK125 0; have hfz58_1 := fz BK125 1; have hfz58_2 := fz BK125 2) | ((with_reducible refine gate_store (t := 80) (p := 6) rfl ?_); (try (rw [drewN_self w55]; generalize hq_ : World.drewN w55 _ = w55; replace BK117 := Aside0.mk (blk_at hq_ BK117.out); replace BK121 := Aside0.mk (blk_at hq_ BK121.out); replace BK125 := Aside0.mk (blk_at hq_ BK125.out); replace HB := Aside0.mk (below_at hq_ HB.out); clear hq_)); refine store_event (t := 80) (p := 6) (v := ?vo_w59) (w1 := (((w55.setCell ⟨gb125, 0, none⟩ (.string ((rd_T80 ((rd_T77 l0_2 x26_2).f1) x63_4).f0))).setCell ⟨gb125, 1, none⟩ (.int .i64 ((rd_T80 ((rd_T77 l0_2 x26_2).f1) x63_4).f1))).setCell ⟨gb125, 2, none⟩ (.int .i64 ((rd_T80 ((rd_T77 l0_2 x26_2).f1) x63_4).f2)))) ?hg ?ho ?hn ?hr ?_; (case ho => rfl); (case hg => rfl); (case hn => rfl); (case hr => first | (go_simp; done) | (go_simp; rfl) | (have hq0_ := (blk_cell BK125.out 0).trans (show _ = some _ from rfl); have hf0_ := blk_frozen BK125.out 0; have hq1_ := (blk_cell BK125.out 1).trans (show _ = some _ from rfl); have hf1_ := blk_frozen BK125.out 1; have hq2_ := (blk_cell BK125.out 2).trans (show _ = some _ from rfl); have hf2_ := blk_frozen BK125.out 2; first | (go_simp; done) | (go_simp; rfl))); intro w59 hw; replace BK117 : Aside0 (w59.heap[gb117]? = some (.cells #[.int .i64 a0_0, .int .i64 a0_1, .slice (some ad120) l0_2.length c0_2] 50 (0, 0))) := ⟨(by rw [hw]; exact (bG NB117_125 BK117))⟩; replace BK121 : Aside0 (w59.heap[gb121]? = some (.cells #[.int .i64 ((rd_T77 l0_2 x26_2).f0), .slice (some ad124) ((rd_T77 l0_2 x26_2).f1).length c120_1] 77 (0, 0))) := ⟨(by rw [hw]; exact (bG NB121_125 BK121))⟩; replace BK125 : Aside0 (w59.heap[gb125]? = some (.cells #[.string ((rd_T80 ((rd_T77 l0_2 x26_2).f1) x63_4).f0), .int .i64 ((rd_T80 ((rd_T77 l0_2 x26_2).f1) x63_4).f1), .int .i64 ((rd_T80 ((rd_T77 l0_2 x26_2).f1) x63_4).f2)] 80 (0, 0))) := ⟨(by rw [hw]; exact (by refine bU ?_; refine blk_put (cs := #[.string ((rd_T80 ((rd_T77 l0_2 x26_2).f1) x63_4).f0), .int .i64 ((rd_T80 ((rd_T77 l0_2 x26_2).f1) x63_4).f1), .int .i64 0]) ?_ 2 _ rfl; refine bU ?_; refine blk_put (cs := #[.string ((rd_T80 ((rd_T77 l0_2 x26_2).f1) x63_4).f0), .int .i64 0, .int .i64 0]) ?_ 1 _ rfl; refine bU ?_; refine blk_put (cs := #[.string (⟨#[]⟩ : ByteArray), .int .i64 0, .int .i64 0]) ?_ 0 _ rfl; refine bU ?_; exact BK125.out))⟩; replace HB : Aside0 (Below w.heap.size w w59) := ⟨(by rw [hw]; exact (lV3 GE117 GE121 GE125))⟩; clear hw; have hcz60_0 := cz BK125 0 (.string ((rd_T80 ((rd_T77 l0_2 x26_2).f1) x63_4).f0)); have hcz60_1 := cz BK125 1 (.int .i64 ((rd_T80 ((rd_T77 l0_2 x26_2).f1) x63_4).f1)); have hcz60_2 := cz BK125 2 (.int .i64 ((rd_T80 ((rd_T77 l0_2 x26_2).f1) x63_4).f2)); have hfz60_0 := fz BK125 0; have hfz60_1 := fz BK125 1; have hfz60_2 := fz BK125 2) | (go_at_call 55; (with_reducible refine (spec_GoodName.calls k4 ((rd_T80 ((rd_T77 l0_2 x26_2).f1) x63_4).f0) true _ A46.out).mono ?_); rintro e w' ⟨rfl, ⟨nd, rfl⟩⟩; (try first | exact ⟨rfl, _, World.drewN_drewN _ _ _⟩ | exact ⟨rfl, _, Eq.trans (World.drewN_drewN _ _ _) (congrArg (World.drewN _) (Nat.add_assoc _ _ _))⟩); have hnb61 := NB117_121.out; have hnc61 := NB121_117.out; have hcz62_0 := cz BK117 0 (.int .i64 a0_0); have hcz62_1 := cz BK117 1 (.int .i64 a0_1); have hcz62_2 := cz BK117 2 (.slice (some ad120) l0_2.length c0_2); have hfz62_0 := fz BK117 0; have hfz62_1 := fz BK117 1; have hfz62_2 := fz BK117 2) | (go_at_call 42; (with_reducible refine (spec_l1In.calls ((rd_T80 ((rd_T77 l0_2 x26_2).f1) x63_4).f2) 0 a0_1 true _ A48.out).mono ?_); rintro e w' ⟨rfl, ⟨nd, rfl⟩⟩; (try first | exact ⟨rfl, _, World.drewN_drewN _ _ _⟩ | exact ⟨rfl, _, Eq.trans (World.drewN_drewN _ _ _) (congrArg (World.drewN _) (Nat.add_assoc _ _ _))⟩); have hcz63_0 := cz BK121 0 (.int .i64 ((rd_T77 l0_2 x26_2).f0)); have hcz63_1 := cz BK121 1 (.slice (some ad124) ((rd_T77 l0_2 x26_2).f1).length c120_1); have hfz63_0 := fz BK121 0; have hfz63_1 := fz BK121 1; have p128 : 0 ≤ ((ji51) : Int) := of_decide_eq_true hE; have q128 : (ji51) < (((rd_T77 l0_2 x26_2).f1).length : Int) := of_decide_eq_true hE; obtain ⟨ad128, e128, hx128_0, hx128_1, hx128_2⟩ := at_T80 HR120_1.out (ji51) p128 q128; obtain rfl : ad124 = ad128 := (by injection e128); replace hx128_0 := (HB.out.cell (World.block_lt_of_cell? w _ hx128_0)).trans hx128_0; replace hx128_1 := (HB.out.cell (World.block_lt_of_cell? w _ hx128_1)).trans hx128_1; replace hx128_2 := (HB.out.cell (World.block_lt_of_cell? w _ hx128_2)).trans hx128_2; replace p128 := eq_true p128; replace q128 := eq_true q128)))
                       go_roundg k4
                       case measure => have := HJ1.out; have := HK2.out; have := HJ15.out; have := HK4.out; omega
                       case rel => exact ⟨(wrap64 (x63_4 + 1)), tE, H', ⟨by have := HJ1.out; have := HK2.out; have := HJ15.out; have := HK4.out; omega⟩, ⟨by refine bU ?_; exact BK117.out⟩, ⟨by refine bU ?_; exact BK121.out⟩, ⟨by repeat (first | (with_reducible first | exact HB.out | apply below_alloc | apply pw_below_drewN | apply below_drew1 | refine below_set ?_ GE117.out | refine below_set ?_ GE121.out | refine below_set ?_ GE125.out) | exact HB.out)⟩⟩
                      ·rw [if_neg c54] at H
                       have c54b0 : (Op.bytesLess (((rd_T80 ((rd_T77 l0_2 x26_2).f1) (ji51)).f0).toList) (((rd_T80 ((rd_T77 l0_2 x26_2).f1) x63_4).f0).toList)) = false := by simpa using c54
                       clear c54
                       obtain rfl := Option.some.inj H
                       have p124 : 0 ≤ (x63_4 : Int) := of_decide_eq_true hE
                       have q124 : x63_4 < (((rd_T77 l0_2 x26_2).f1).length : Int) := of_decide_eq_true hE
                       obtain ⟨ad124, e124, hx124_0, hx124_1, hx124_2⟩ := at_T80 HR120_1.out x63_4 p124 q124
                       cases e124
                       replace hx124_0 := (HB.out.cell (World.block_lt_of_cell? w _ hx124_0)).trans hx124_0
                       replace hx124_1 := (HB.out.cell (World.block_lt_of_cell? w _ hx124_1)).trans hx124_1
                       replace hx124_2 := (HB.out.cell (World.block_lt_of_cell? w _ hx124_2)).trans hx124_2
                       replace p124 := eq_true p124
                       replace q124 := eq_true q124
                       go_wp2_with (first | ((with_reducible refine gate_dst (N := 6) rfl ?_); (try (refine gate_guard (by rfl) ?_; dsimp only)); refine box_event rfl (N := 6) rfl (cs := #[.string (⟨#[]⟩ : ByteArray), .int .i64 0, .int .i64 0]) (t := 80) sE ?_; intro gb125 hg w64 hbox hb; have BK125 := Aside0.mk hbox; have GW125 := gS w hg (lV2 GE117 GE121); have GE125 := gS w hg (lV2 GE117 GE121); replace HB := bH (lV2 GE117 GE121) hb; have NB117_125 := nL hg (bV BK117); have NB125_117 := nG hg (bV BK117); replace BK117 := bB (bV BK117) hb; have NB121_125 := nL hg (bV BK121); have NB125_121 := nG hg (bV BK121); replace BK121 := bB (bV BK121) hb; clear hb hbox hg; have hnb65 := NB125_117.out; have hnc65 := NB117_125.out; have hnb66 := NB125_121.out; have hnc66 := NB121_125.out; have hcz67_0 := cz BK125 0 (.string (⟨#[]⟩ : ByteArray)); have hcz67_1 := cz BK125 1 (.int .i64 0); have hcz67_2 := cz BK125 2 (.int .i64 0); have hfz67_0 := fz BK125 0; have hfz67_1 := fz BK125 1; have hfz67_2 := fz BK125 2) | ((with_reducible refine gate_store (t := 80) (p := 6) rfl ?_); (try (rw [drewN_self w64]; generalize hq_ : World.drewN w64 _ = w64; replace BK117 := Aside0.mk (blk_at hq_ BK117.out); replace BK121 := Aside0.mk (blk_at hq_ BK121.out); replace BK125 := Aside0.mk (blk_at hq_ BK125.out); replace HB := Aside0.mk (below_at hq_ HB.out); clear hq_)); refine store_event (t := 80) (p := 6) (v := ?vo_w68) (w1 := (((w64.setCell ⟨gb125, 0, none⟩ (.string ((rd_T80 ((rd_T77 l0_2 x26_2).f1) x63_4).f0))).setCell ⟨gb125, 1, none⟩ (.int .i64 ((rd_T80 ((rd_T77 l0_2 x26_2).f1) x63_4).f1))).setCell ⟨gb125, 2, none⟩ (.int .i64 ((rd_T80 ((rd_T77 l0_2 x26_2).f1) x63_4).f2)))) ?hg ?ho ?hn ?hr ?_; (case ho => rfl); (case hg => rfl); (case hn => rfl); (case hr => first | (go_simp; done) | (go_simp; rfl) | (have hq0_ := (blk_cell BK125.out 0).trans (show _ = some _ from rfl); have hf0_ := blk_frozen BK125.out 0; have hq1_ := (blk_cell BK125.out 1).trans (show _ = some _ from rfl); have hf1_ := blk_frozen BK125.out 1; have hq2_ := (blk_cell BK125.out 2).trans (show _ = some _ from rfl); have hf2_ := blk_frozen BK125.out 2; first | (go_simp; done) | (go_simp; rfl))); intro w68 hw; replace BK117 : Aside0 (w68.heap[gb117]? = some (.cells #[.int .i64 a0_0, .int .i64 a0_1, .slice (some ad120) l0_2.length c0_2] 50 (0, 0))) := ⟨(by rw [hw]; exact (bG NB117_125 BK117))⟩; replace BK121 : Aside0 (w68.heap[gb121]? = some (.cells #[.int .i64 ((rd_T77 l0_2 x26_2).f0), .slice (some ad124) ((rd_T77 l0_2 x26_2).f1).length c120_1] 77 (0, 0))) := ⟨(by rw [hw]; exact (bG NB121_125 BK121))⟩; replace BK125 : Aside0 (w68.heap[gb125]? = some (.cells #[.string ((rd_T80 ((rd_T77 l0_2 x26_2).f1) x63_4).f0), .int .i64 ((rd_T80 ((rd_T77 l0_2 x26_2).f1) x63_4).f1), .int .i64 ((rd_T80 ((rd_T77 l0_2 x26_2).f1) x63_4).f2)] 80 (0, 0))) := ⟨(by rw [hw]; exact (by refine bU ?_; refine blk_put (cs := #[.string ((rd_T80 ((rd_T77 l0_2 x26_2).f1) x63_4).f0), .int .i64 ((rd_T80 ((rd_T77 l0_2 x26_2).f1) x63_4).f1), .int .i64 0]) ?_ 2 _ rfl; refine bU ?_; refine blk_put (cs := #[.string ((rd_T80 ((rd_T77 l0_2 x26_2).f1) x63_4).f0), .int .i64 0, .int .i64 0]) ?_ 1 _ rfl; refine bU ?_; refine blk_put (cs := #[.string (⟨#[]⟩ : ByteArray), .int .i64 0, .int .i64 0]) ?_ 0 _ rfl; refine bU ?_; exact BK125.out))⟩; replace HB : Aside0 (Below w.heap.size w w68) := ⟨(by rw [hw]; exact (lV3 GE117 GE121 GE125))⟩; clear hw; have hcz69_0 := cz BK125 0 (.string ((rd_T80 ((rd_T77 l0_2 x26_2).f1) x63_4).f0)); have hcz69_1 := cz BK125 1 (.int .i64 ((rd_T80 ((rd_T77 l0_2 x26_2).f1) x63_4).f1)); have hcz69_2 := cz BK125 2 (.int .i64 ((rd_T80 ((rd_T77 l0_2 x26_2).f1) x63_4).f2)); have hfz69_0 := fz BK125 0; have hfz69_1 := fz BK125 1; have hfz69_2 := fz BK125 2) | (go_at_call 55; (with_reducible refine (spec_GoodName.calls k4 ((rd_T80 ((rd_T77 l0_2 x26_2).f1) x63_4).f0) true _ A46.out).mono ?_); rintro e w' ⟨rfl, ⟨nd, rfl⟩⟩; (try first | exact ⟨rfl, _, World.drewN_drewN _ _ _⟩ | exact ⟨rfl, _, Eq.trans (World.drewN_drewN _ _ _) (congrArg (World.drewN _) (Nat.add_assoc _ _ _))⟩); have hnb70 := NB117_121.out; have hnc70 := NB121_117.out; have hcz71_0 := cz BK117 0 (.int .i64 a0_0); have hcz71_1 := cz BK117 1 (.int .i64 a0_1); have hcz71_2 := cz BK117 2 (.slice (some ad120) l0_2.length c0_2); have hfz71_0 := fz BK117 0; have hfz71_1 := fz BK117 1; have hfz71_2 := fz BK117 2) | (go_at_call 42; (with_reducible refine (spec_l1In.calls ((rd_T80 ((rd_T77 l0_2 x26_2).f1) x63_4).f2) 0 a0_1 true _ A48.out).mono ?_); rintro e w' ⟨rfl, ⟨nd, rfl⟩⟩; (try first | exact ⟨rfl, _, World.drewN_drewN _ _ _⟩ | exact ⟨rfl, _, Eq.trans (World.drewN_drewN _ _ _) (congrArg (World.drewN _) (Nat.add_assoc _ _ _))⟩); have hcz72_0 := cz BK121 0 (.int .i64 ((rd_T77 l0_2 x26_2).f0)); have hcz72_1 := cz BK121 1 (.slice (some ad124) ((rd_T77 l0_2 x26_2).f1).length c120_1); have hfz72_0 := fz BK121 0; have hfz72_1 := fz BK121 1; have p128 : 0 ≤ ((ji51) : Int) := of_decide_eq_true hE; have q128 : (ji51) < (((rd_T77 l0_2 x26_2).f1).length : Int) := of_decide_eq_true hE; obtain ⟨ad128, e128, hx128_0, hx128_1, hx128_2⟩ := at_T80 HR120_1.out (ji51) p128 q128; obtain rfl : ad124 = ad128 := (by injection e128); replace hx128_0 := (HB.out.cell (World.block_lt_of_cell? w _ hx128_0)).trans hx128_0; replace hx128_1 := (HB.out.cell (World.block_lt_of_cell? w _ hx128_1)).trans hx128_1; replace hx128_2 := (HB.out.cell (World.block_lt_of_cell? w _ hx128_2)).trans hx128_2; replace p128 := eq_true p128; replace q128 := eq_true q128))
                       have hnb70 := NB117_121.out
                       have hnc70 := NB121_117.out
                       have hcz71_0 := cz BK117 0 (.int .i64 a0_0)
                       have hcz71_1 := cz BK117 1 (.int .i64 a0_1)
                       have hcz71_2 := cz BK117 2 (.slice (some ad120) l0_2.length c0_2)
                       have hfz71_0 := fz BK117 0
                       have hfz71_1 := fz BK117 1
                       have hfz71_2 := fz BK117 2
                       have hcz72_0 := cz BK121 0 (.int .i64 ((rd_T77 l0_2 x26_2).f0))
                       have hcz72_1 := cz BK121 1 (.slice (some ad124) ((rd_T77 l0_2 x26_2).f1).length c120_1)
                       have hfz72_0 := fz BK121 0
                       have hfz72_1 := fz BK121 1
                       have p128 : 0 ≤ ((ji51) : Int) := of_decide_eq_true hE
                       have q128 : (ji51) < (((rd_T77 l0_2 x26_2).f1).length : Int) := of_decide_eq_true hE
                       obtain ⟨ad128, e128, hx128_0, hx128_1, hx128_2⟩ := at_T80 HR120_1.out (ji51) p128 q128
                       obtain rfl : ad124 = ad128 := (by injection e128)
                       replace hx128_0 := (HB.out.cell (World.block_lt_of_cell? w _ hx128_0)).trans hx128_0
                       replace hx128_1 := (HB.out.cell (World.block_lt_of_cell? w _ hx128_1)).trans hx128_1
                       replace hx128_2 := (HB.out.cell (World.block_lt_of_cell? w _ hx128_2)).trans hx128_2
                       replace p128 := eq_true p128
                       replace q128 := eq_true q128
                       repeat (go_quiet (first | ((with_reducible refine gate_dst (N := 6) rfl ?_); (try (refine gate_guard (by rfl) ?_; dsimp only)); refine box_event rfl (N := 6) rfl (cs := #[.string (⟨#[]⟩ : ByteArray), .int .i64 0, .int .i64 0]) (t := 80) sE ?_; intro gb125 hg w64 hbox hb; have BK125 := Aside0.mk hbox; have GW125 := gS w hg (lV2 GE117 GE121); have GE125 := gS w hg (lV2 GE117 GE121); replace HB := bH (lV2 GE117 GE121) hb; have NB117_125 := nL hg (bV BK117); have NB125_117 := nG hg (bV BK117); replace BK117 := bB (bV BK117) hb; have NB121_125 := nL hg (bV BK121); have NB125_121 := nG hg (bV BK121); replace BK121 := bB (bV BK121) hb; clear hb hbox hg; have hnb65 := NB125_117.out; have hnc65 := NB117_125.out; have hnb66 := NB125_121.out; have hnc66 := NB121_125.out; have hcz67_0 := cz BK125 0 (.string (⟨#[]⟩ : ByteArray)); have hcz67_1 := cz BK125 1 (.int .i64 0); have hcz67_2 := cz BK125 2 (.int .i64 0); have hfz67_0 := fz BK125 0; have hfz67_1 := fz BK125 1; have hfz67_2 := fz BK125 2) | ((with_reducible refine gate_store (t := 80) (p := 6) rfl ?_); (try (rw [drewN_self w64]; generalize hq_ : World.drewN w64 _ = w64; replace BK117 := Aside0.mk (blk_at hq_ BK117.out); replace BK121 := Aside0.mk (blk_at hq_ BK121.out); replace BK125 := Aside0.mk (blk_at hq_ BK125.out); replace HB := Aside0.mk (below_at hq_ HB.out); clear hq_)); refine store_event (t := 80) (p := 6) (v := ?vo_w68) (w1 := (((w64.setCell ⟨gb125, 0, none⟩ (.string ((rd_T80 ((rd_T77 l0_2 x26_2).f1) x63_4).f0))).setCell ⟨gb125, 1, none⟩ (.int .i64 ((rd_T80 ((rd_T77 l0_2 x26_2).f1) x63_4).f1))).setCell ⟨gb125, 2, none⟩ (.int .i64 ((rd_T80 ((rd_T77 l0_2 x26_2).f1) x63_4).f2)))) ?hg ?ho ?hn ?hr ?_; (case ho => rfl); (case hg => rfl); (case hn => rfl); (case hr => first | (go_simp; done) | (go_simp; rfl) | (have hq0_ := (blk_cell BK125.out 0).trans (show _ = some _ from rfl); have hf0_ := blk_frozen BK125.out 0; have hq1_ := (blk_cell BK125.out 1).trans (show _ = some _ from rfl); have hf1_ := blk_frozen BK125.out 1; have hq2_ := (blk_cell BK125.out 2).trans (show _ = some _ from rfl); have hf2_ := blk_frozen BK125.out 2; first | (go_simp; done) | (go_simp; rfl))); intro w68 hw; replace BK117 : Aside0 (w68.heap[gb117]? = some (.cells #[.int .i64 a0_0, .int .i64 a0_1, .slice (some ad120) l0_2.length c0_2] 50 (0, 0))) := ⟨(by rw [hw]; exact (bG NB117_125 BK117))⟩; replace BK121 : Aside0 (w68.heap[gb121]? = some (.cells #[.int .i64 ((rd_T77 l0_2 x26_2).f0), .slice (some ad124) ((rd_T77 l0_2 x26_2).f1).length c120_1] 77 (0, 0))) := ⟨(by rw [hw]; exact (bG NB121_125 BK121))⟩; replace BK125 : Aside0 (w68.heap[gb125]? = some (.cells #[.string ((rd_T80 ((rd_T77 l0_2 x26_2).f1) x63_4).f0), .int .i64 ((rd_T80 ((rd_T77 l0_2 x26_2).f1) x63_4).f1), .int .i64 ((rd_T80 ((rd_T77 l0_2 x26_2).f1) x63_4).f2)] 80 (0, 0))) := ⟨(by rw [hw]; exact (by refine bU ?_; refine blk_put (cs := #[.string ((rd_T80 ((rd_T77 l0_2 x26_2).f1) x63_4).f0), .int .i64 ((rd_T80 ((rd_T77 l0_2 x26_2).f1) x63_4).f1), .int .i64 0]) ?_ 2 _ rfl; refine bU ?_; refine blk_put (cs := #[.string ((rd_T80 ((rd_T77 l0_2 x26_2).f1) x63_4).f0), .int .i64 0, .int .i64 0]) ?_ 1 _ rfl; refine bU ?_; refine blk_put (cs := #[.string (⟨#[]⟩ : ByteArray), .int .i64 0, .int .i64 0]) ?_ 0 _ rfl; refine bU ?_; exact BK125.out))⟩; replace HB : Aside0 (Below w.heap.size w w68) := ⟨(by rw [hw]; exact (lV3 GE117 GE121 GE125))⟩; clear hw; have hcz69_0 := cz BK125 0 (.string ((rd_T80 ((rd_T77 l0_2 x26_2).f1) x63_4).f0)); have hcz69_1 := cz BK125 1 (.int .i64 ((rd_T80 ((rd_T77 l0_2 x26_2).f1) x63_4).f1)); have hcz69_2 := cz BK125 2 (.int .i64 ((rd_T80 ((rd_T77 l0_2 x26_2).f1) x63_4).f2)); have hfz69_0 := fz BK125 0; have hfz69_1 := fz BK125 1; have hfz69_2 := fz BK125 2) |(go_at_call 55; (with_reducible refine (spec_GoodName.calls k4 ((rd_T80 ((rd_T77 l0_2 x26_2).f1) x63_4).f0) true _ A46.out).mono ?_); rintro e w' ⟨rfl, ⟨nd, rfl⟩⟩; (try first | exact ⟨rfl, _, World.drewN_drewN _ _ _⟩ | exact ⟨rfl, _, Eq.trans (World.drewN_drewN _ _ _) (congrArg (World.drewN _) (Nat.add_assoc _ _ _))⟩)) |(go_at_call 42; (with_reducible refine (spec_l1In.calls ((rd_T80 ((rd_T77 l0_2 x26_2).f1) x63_4).f2) 0 a0_1 true _ A48.out).mono ?_); rintro e w' ⟨rfl, ⟨nd, rfl⟩⟩; (try first | exact ⟨rfl, _, World.drewN_drewN _ _ _⟩ | exact ⟨rfl, _, Eq.trans (World.drewN_drewN _ _ _) (congrArg (World.drewN _) (Nat.add_assoc _ _ _))⟩)) ); try go_wp2_with (first | ((with_reducible refine gate_dst (N := 6) rfl ?_); (try (refine gate_guard (by rfl) ?_; dsimp only)); refine box_event rfl (N := 6) rfl (cs := #[.string (⟨#[]⟩ : ByteArray), .int .i64 0, .int .i64 0]) (t := 80) sE ?_; intro gb125 hg w64 hbox hb; have BK125 := Aside0.mk hbox; have GW125 := gS w hg (lV2 GE117 GE121); have GE125 := gS w hg (lV2 GE117 GE121); replace HB := bH (lV2 GE117 GE121) hb; have NB117_125 := nL hg (bV BK117); have NB125_117 := nG hg (bV BK117); replace BK117 := bB (bV BK117) hb; have NB121_125 := nL hg (bV BK121); have NB125_121 := nG hg (bV BK121); replace BK121 := bB (bV BK121) hb; clear hb hbox hg; have hnb65 := NB125_117.out; have hnc65 := NB117_125.out; have hnb66 := NB125_121.out; have hnc66 := NB121_125.out; have hcz67_0 := cz BK125 0 (.string (⟨#[]⟩ : ByteArray)); have hcz67_1 := cz BK125 1 (.int .i64 0); have hcz67_2 := cz BK125 2 (.int .i64 0); have hfz67_0 := fz BK125 0; have hfz67_1 := fz BK125 1; have hfz67_2 := fz BK125 2) | ((with_reducible refine gate_store (t := 80) (p := 6) rfl ?_); (try (rw [drewN_self w64]; generalize hq_ : World.drewN w64 _ = w64; replace BK117 := Aside0.mk (blk_at hq_ BK117.out); replace BK121 := Aside0.mk (blk_at hq_ BK121.out); replace BK125 := Aside0.mk (blk_at hq_ BK125.out); replace HB := Aside0.mk (below_at hq_ HB.out); clear hq_)); refine store_event (t := 80) (p := 6) (v := ?vo_w68) (w1 := (((w64.setCell ⟨gb125, 0, none⟩ (.string ((rd_T80 ((rd_T77 l0_2 x26_2).f1) x63_4).f0))).setCell ⟨gb125, 1, none⟩ (.int .i64 ((rd_T80 ((rd_T77 l0_2 x26_2).f1) x63_4).f1))).setCell ⟨gb125, 2, none⟩ (.int .i64 ((rd_T80 ((rd_T77 l0_2 x26_2).f1) x63_4).f2)))) ?hg ?ho ?hn ?hr ?_; (case ho => rfl); (case hg => rfl); (case hn => rfl); (case hr => first | (go_simp; done) | (go_simp; rfl) | (have hq0_ := (blk_cell BK125.out 0).trans (show _ = some _ from rfl); have hf0_ := blk_frozen BK125.out 0; have hq1_ := (blk_cell BK125.out 1).trans (show _ = some _ from rfl); have hf1_ := blk_frozen BK125.out 1; have hq2_ := (blk_cell BK125.out 2).trans (show _ = some _ from rfl); have hf2_ := blk_frozen BK125.out 2; first | (go_simp; done) | (go_simp; rfl))); intro w68 hw; replace BK117 : Aside0 (w68.heap[gb117]? = some (.cells #[.int .i64 a0_0, .int .i64 a0_1, .slice (some ad120) l0_2.length c0_2] 50 (0, 0))) := ⟨(by rw [hw]; exact (bG NB117_125 BK117))⟩; replace BK121 : Aside0 (w68.heap[gb121]? = some (.cells #[.int .i64 ((rd_T77 l0_2 x26_2).f0), .slice (some ad124) ((rd_T77 l0_2 x26_2).f1).length c120_1] 77 (0, 0))) := ⟨(by rw [hw]; exact (bG NB121_125 BK121))⟩; replace BK125 : Aside0 (w68.heap[gb125]? = some (.cells #[.string ((rd_T80 ((rd_T77 l0_2 x26_2).f1) x63_4).f0), .int .i64 ((rd_T80 ((rd_T77 l0_2 x26_2).f1) x63_4).f1), .int .i64 ((rd_T80 ((rd_T77 l0_2 x26_2).f1) x63_4).f2)] 80 (0, 0))) := ⟨(by rw [hw]; exact (by refine bU ?_; refine blk_put (cs := #[.string ((rd_T80 ((rd_T77 l0_2 x26_2).f1) x63_4).f0), .int .i64 ((rd_T80 ((rd_T77 l0_2 x26_2).f1) x63_4).f1), .int .i64 0]) ?_ 2 _ rfl; refine bU ?_; refine blk_put (cs := #[.string ((rd_T80 ((rd_T77 l0_2 x26_2).f1) x63_4).f0), .int .i64 0, .int .i64 0]) ?_ 1 _ rfl; refine bU ?_; refine blk_put (cs := #[.string (⟨#[]⟩ : ByteArray), .int .i64 0, .int .i64 0]) ?_ 0 _ rfl; refine bU ?_; exact BK125.out))⟩; replace HB : Aside0 (Below w.heap.size w w68) := ⟨(by rw [hw]; exact (lV3 GE117 GE121 GE125))⟩; clear hw; have hcz69_0 := cz BK125 0 (.string ((rd_T80 ((rd_T77 l0_2 x26_2).f1) x63_4).f0)); have hcz69_1 := cz BK125 1 (.int .i64 ((rd_T80 ((rd_T77 l0_2 x26_2).f1) x63_4).f1)); have hcz69_2 := cz BK125 2 (.int .i64 ((rd_T80 ((rd_T77 l0_2 x26_2).f1) x63_4).f2)); have hfz69_0 := fz BK125 0; have hfz69_1 := fz BK125 1; have hfz69_2 := fz BK125 2) | (go_at_call 55; (with_reducible refine (spec_GoodName.calls k4 ((rd_T80 ((rd_T77 l0_2 x26_2).f1) x63_4).f0) true _ A46.out).mono ?_); rintro e w' ⟨rfl, ⟨nd, rfl⟩⟩; (try first | exact ⟨rfl, _, World.drewN_drewN _ _ _⟩ | exact ⟨rfl, _, Eq.trans (World.drewN_drewN _ _ _) (congrArg (World.drewN _) (Nat.add_assoc _ _ _))⟩); have hnb70 := NB117_121.out; have hnc70 := NB121_117.out; have hcz71_0 := cz BK117 0 (.int .i64 a0_0); have hcz71_1 := cz BK117 1 (.int .i64 a0_1); have hcz71_2 := cz BK117 2 (.slice (some ad120) l0_2.length c0_2); have hfz71_0 := fz BK117 0; have hfz71_1 := fz BK117 1; have hfz71_2 := fz BK117 2) | (go_at_call 42; (with_reducible refine (spec_l1In.calls ((rd_T80 ((rd_T77 l0_2 x26_2).f1) x63_4).f2) 0 a0_1 true _ A48.out).mono ?_); rintro e w' ⟨rfl, ⟨nd, rfl⟩⟩; (try first | exact ⟨rfl, _, World.drewN_drewN _ _ _⟩ | exact ⟨rfl, _, Eq.trans (World.drewN_drewN _ _ _) (congrArg (World.drewN _) (Nat.add_assoc _ _ _))⟩); have hcz72_0 := cz BK121 0 (.int .i64 ((rd_T77 l0_2 x26_2).f0)); have hcz72_1 := cz BK121 1 (.slice (some ad124) ((rd_T77 l0_2 x26_2).f1).length c120_1); have hfz72_0 := fz BK121 0; have hfz72_1 := fz BK121 1; have p128 : 0 ≤ ((ji51) : Int) := of_decide_eq_true hE; have q128 : (ji51) < (((rd_T77 l0_2 x26_2).f1).length : Int) := of_decide_eq_true hE; obtain ⟨ad128, e128, hx128_0, hx128_1, hx128_2⟩ := at_T80 HR120_1.out (ji51) p128 q128; obtain rfl : ad124 = ad128 := (by injection e128); replace hx128_0 := (HB.out.cell (World.block_lt_of_cell? w _ hx128_0)).trans hx128_0; replace hx128_1 := (HB.out.cell (World.block_lt_of_cell? w _ hx128_1)).trans hx128_1; replace hx128_2 := (HB.out.cell (World.block_lt_of_cell? w _ hx128_2)).trans hx128_2; replace p128 := eq_true p128; replace q128 := eq_true q128)))
                       go_ret
                       exact ⟨by first | rfl | (simp [errW_none, errW_some] <;> rfl) | (simp only [← hji51]; first | rfl | (simp [errW_none, errW_some] <;> rfl)) | (simp [*, errW_none, errW_some] <;> rfl), lV3 GE117 GE121 GE125⟩
                     ·rw [if_neg c53] at H
                      exact absurd H (by simp)
                    ·rw [if_neg c52] at H
                     exact absurd H (by simp)
                   ·rw [if_neg c50] at H
                    have c50b0 : decide (0 < x63_4) = false := decide_eq_false c50
                    clear c50
                    have H' := Aside0.mk H
                    clear H
                    have p124 : 0 ≤ (x63_4 : Int) := of_decide_eq_true hE
                    have q124 : x63_4 < (((rd_T77 l0_2 x26_2).f1).length : Int) := of_decide_eq_true hE
                    obtain ⟨ad124, e124, hx124_0, hx124_1, hx124_2⟩ := at_T80 HR120_1.out x63_4 p124 q124
                    cases e124
                    replace hx124_0 := (HB.out.cell (World.block_lt_of_cell? w _ hx124_0)).trans hx124_0
                    replace hx124_1 := (HB.out.cell (World.block_lt_of_cell? w _ hx124_1)).trans hx124_1
                    replace hx124_2 := (HB.out.cell (World.block_lt_of_cell? w _ hx124_2)).trans hx124_2
                    replace p124 := eq_true p124
                    replace q124 := eq_true q124
                    go_wp2_with (first | ((with_reducible refine gate_dst (N := 6) rfl ?_); (try (refine gate_guard (by rfl) ?_; dsimp only)); refine box_event rfl (N := 6) rfl (cs := #[.string (⟨#[]⟩ : ByteArray), .int .i64 0, .int .i64 0]) (t := 80) sE ?_; intro gb125 hg w73 hbox hb; have BK125 := Aside0.mk hbox; have GW125 := gS w hg (lV2 GE117 GE121); have GE125 := gS w hg (lV2 GE117 GE121); replace HB := bH (lV2 GE117 GE121) hb; have NB117_125 := nL hg (bV BK117); have NB125_117 := nG hg (bV BK117); replace BK117 := bB (bV BK117) hb; have NB121_125 := nL hg (bV BK121); have NB125_121 := nG hg (bV BK121); replace BK121 := bB (bV BK121) hb; clear hb hbox hg; have hnb74 := NB125_117.out; have hnc74 := NB117_125.out; have hnb75 := NB125_121.out; have hnc75 := NB121_125.out; have hcz76_0 := cz BK125 0 (.string (⟨#[]⟩ : ByteArray)); have hcz76_1 := cz BK125 1 (.int .i64 0); have hcz76_2 := cz BK125 2 (.int .i64 0); have hfz76_0 := fz BK125 0; have hfz76_1 := fz BK125 1; have hfz76_2 := fz BK125 2) | ((with_reducible refine gate_store (t := 80) (p := 6) rfl ?_); (try (rw [drewN_self w73]; generalize hq_ : World.drewN w73 _ = w73; replace BK117 := Aside0.mk (blk_at hq_ BK117.out); replace BK121 := Aside0.mk (blk_at hq_ BK121.out); replace BK125 := Aside0.mk (blk_at hq_ BK125.out); replace HB := Aside0.mk (below_at hq_ HB.out); clear hq_)); refine store_event (t := 80) (p := 6) (v := ?vo_w77) (w1 := (((w73.setCell ⟨gb125, 0, none⟩ (.string ((rd_T80 ((rd_T77 l0_2 x26_2).f1) x63_4).f0))).setCell ⟨gb125, 1, none⟩ (.int .i64 ((rd_T80 ((rd_T77 l0_2 x26_2).f1) x63_4).f1))).setCell ⟨gb125, 2, none⟩ (.int .i64 ((rd_T80 ((rd_T77 l0_2 x26_2).f1) x63_4).f2)))) ?hg ?ho ?hn ?hr ?_; (case ho => rfl); (case hg => rfl); (case hn => rfl); (case hr => first | (go_simp; done) | (go_simp; rfl) | (have hq0_ := (blk_cell BK125.out 0).trans (show _ = some _ from rfl); have hf0_ := blk_frozen BK125.out 0; have hq1_ := (blk_cell BK125.out 1).trans (show _ = some _ from rfl); have hf1_ := blk_frozen BK125.out 1; have hq2_ := (blk_cell BK125.out 2).trans (show _ = some _ from rfl); have hf2_ := blk_frozen BK125.out 2; first | (go_simp; done) | (go_simp; rfl))); intro w77 hw; replace BK117 : Aside0 (w77.heap[gb117]? = some (.cells #[.int .i64 a0_0, .int .i64 a0_1, .slice (some ad120) l0_2.length c0_2] 50 (0, 0))) := ⟨(by rw [hw]; exact (bG NB117_125 BK117))⟩; replace BK121 : Aside0 (w77.heap[gb121]? = some (.cells #[.int .i64 ((rd_T77 l0_2 x26_2).f0), .slice (some ad124) ((rd_T77 l0_2 x26_2).f1).length c120_1] 77 (0, 0))) := ⟨(by rw [hw]; exact (bG NB121_125 BK121))⟩; replace BK125 : Aside0 (w77.heap[gb125]? = some (.cells #[.string ((rd_T80 ((rd_T77 l0_2 x26_2).f1) x63_4).f0), .int .i64 ((rd_T80 ((rd_T77 l0_2 x26_2).f1) x63_4).f1), .int .i64 ((rd_T80 ((rd_T77 l0_2 x26_2).f1) x63_4).f2)] 80 (0, 0))) := ⟨(by rw [hw]; exact (by refine bU ?_; refine blk_put (cs := #[.string ((rd_T80 ((rd_T77 l0_2 x26_2).f1) x63_4).f0), .int .i64 ((rd_T80 ((rd_T77 l0_2 x26_2).f1) x63_4).f1), .int .i64 0]) ?_ 2 _ rfl; refine bU ?_; refine blk_put (cs := #[.string ((rd_T80 ((rd_T77 l0_2 x26_2).f1) x63_4).f0), .int .i64 0, .int .i64 0]) ?_ 1 _ rfl; refine bU ?_; refine blk_put (cs := #[.string (⟨#[]⟩ : ByteArray), .int .i64 0, .int .i64 0]) ?_ 0 _ rfl; refine bU ?_; exact BK125.out))⟩; replace HB : Aside0 (Below w.heap.size w w77) := ⟨(by rw [hw]; exact (lV3 GE117 GE121 GE125))⟩; clear hw; have hcz78_0 := cz BK125 0 (.string ((rd_T80 ((rd_T77 l0_2 x26_2).f1) x63_4).f0)); have hcz78_1 := cz BK125 1 (.int .i64 ((rd_T80 ((rd_T77 l0_2 x26_2).f1) x63_4).f1)); have hcz78_2 := cz BK125 2 (.int .i64 ((rd_T80 ((rd_T77 l0_2 x26_2).f1) x63_4).f2)); have hfz78_0 := fz BK125 0; have hfz78_1 := fz BK125 1; have hfz78_2 := fz BK125 2) | (go_at_call 55; (with_reducible refine (spec_GoodName.calls k4 ((rd_T80 ((rd_T77 l0_2 x26_2).f1) x63_4).f0) true _ A46.out).mono ?_); rintro e w' ⟨rfl, ⟨nd, rfl⟩⟩; (try first | exact ⟨rfl, _, World.drewN_drewN _ _ _⟩ | exact ⟨rfl, _, Eq.trans (World.drewN_drewN _ _ _) (congrArg (World.drewN _) (Nat.add_assoc _ _ _))⟩); have hnb79 := NB117_121.out; have hnc79 := NB121_117.out; have hcz80_0 := cz BK117 0 (.int .i64 a0_0); have hcz80_1 := cz BK117 1 (.int .i64 a0_1); have hcz80_2 := cz BK117 2 (.slice (some ad120) l0_2.length c0_2); have hfz80_0 := fz BK117 0; have hfz80_1 := fz BK117 1; have hfz80_2 := fz BK117 2) | (go_at_call 42; (with_reducible refine (spec_l1In.calls ((rd_T80 ((rd_T77 l0_2 x26_2).f1) x63_4).f2) 0 a0_1 true _ A48.out).mono ?_); rintro e w' ⟨rfl, ⟨nd, rfl⟩⟩; (try first | exact ⟨rfl, _, World.drewN_drewN _ _ _⟩ | exact ⟨rfl, _, Eq.trans (World.drewN_drewN _ _ _) (congrArg (World.drewN _) (Nat.add_assoc _ _ _))⟩)))
                    have hnb79 := NB117_121.out
                    have hnc79 := NB121_117.out
                    have hcz80_0 := cz BK117 0 (.int .i64 a0_0)
                    have hcz80_1 := cz BK117 1 (.int .i64 a0_1)
                    have hcz80_2 := cz BK117 2 (.slice (some ad120) l0_2.length c0_2)
                    have hfz80_0 := fz BK117 0
                    have hfz80_1 := fz BK117 1
                    have hfz80_2 := fz BK117 2
                    repeat (go_quiet (first | ((with_reducible refine gate_dst (N := 6) rfl ?_); (try (refine gate_guard (by rfl) ?_; dsimp only)); refine box_event rfl (N := 6) rfl (cs := #[.string (⟨#[]⟩ : ByteArray), .int .i64 0, .int .i64 0]) (t := 80) sE ?_; intro gb125 hg w73 hbox hb; have BK125 := Aside0.mk hbox; have GW125 := gS w hg (lV2 GE117 GE121); have GE125 := gS w hg (lV2 GE117 GE121); replace HB := bH (lV2 GE117 GE121) hb; have NB117_125 := nL hg (bV BK117); have NB125_117 := nG hg (bV BK117); replace BK117 := bB (bV BK117) hb; have NB121_125 := nL hg (bV BK121); have NB125_121 := nG hg (bV BK121); replace BK121 := bB (bV BK121) hb; clear hb hbox hg; have hnb74 := NB125_117.out; have hnc74 := NB117_125.out; have hnb75 := NB125_121.out; have hnc75 := NB121_125.out; have hcz76_0 := cz BK125 0 (.string (⟨#[]⟩ : ByteArray)); have hcz76_1 := cz BK125 1 (.int .i64 0); have hcz76_2 := cz BK125 2 (.int .i64 0); have hfz76_0 := fz BK125 0; have hfz76_1 := fz BK125 1; have hfz76_2 := fz BK125 2) | ((with_reducible refine gate_store (t := 80) (p := 6) rfl ?_); (try (rw [drewN_self w73]; generalize hq_ : World.drewN w73 _ = w73; replace BK117 := Aside0.mk (blk_at hq_ BK117.out); replace BK121 := Aside0.mk (blk_at hq_ BK121.out); replace BK125 := Aside0.mk (blk_at hq_ BK125.out); replace HB := Aside0.mk (below_at hq_ HB.out); clear hq_)); refine store_event (t := 80) (p := 6) (v := ?vo_w77) (w1 := (((w73.setCell ⟨gb125, 0, none⟩ (.string ((rd_T80 ((rd_T77 l0_2 x26_2).f1) x63_4).f0))).setCell ⟨gb125, 1, none⟩ (.int .i64 ((rd_T80 ((rd_T77 l0_2 x26_2).f1) x63_4).f1))).setCell ⟨gb125, 2, none⟩ (.int .i64 ((rd_T80 ((rd_T77 l0_2 x26_2).f1) x63_4).f2)))) ?hg ?ho ?hn ?hr ?_; (case ho => rfl); (case hg => rfl); (case hn => rfl); (case hr => first | (go_simp; done) | (go_simp; rfl) | (have hq0_ := (blk_cell BK125.out 0).trans (show _ = some _ from rfl); have hf0_ := blk_frozen BK125.out 0; have hq1_ := (blk_cell BK125.out 1).trans (show _ = some _ from rfl); have hf1_ := blk_frozen BK125.out 1; have hq2_ := (blk_cell BK125.out 2).trans (show _ = some _ from rfl); have hf2_ := blk_frozen BK125.out 2; first | (go_simp; done) | (go_simp; rfl))); intro w77 hw; replace BK117 : Aside0 (w77.heap[gb117]? = some (.cells #[.int .i64 a0_0, .int .i64 a0_1, .slice (some ad120) l0_2.length c0_2] 50 (0, 0))) := ⟨(by rw [hw]; exact (bG NB117_125 BK117))⟩; replace BK121 : Aside0 (w77.heap[gb121]? = some (.cells #[.int .i64 ((rd_T77 l0_2 x26_2).f0), .slice (some ad124) ((rd_T77 l0_2 x26_2).f1).length c120_1] 77 (0, 0))) := ⟨(by rw [hw]; exact (bG NB121_125 BK121))⟩; replace BK125 : Aside0 (w77.heap[gb125]? = some (.cells #[.string ((rd_T80 ((rd_T77 l0_2 x26_2).f1) x63_4).f0), .int .i64 ((rd_T80 ((rd_T77 l0_2 x26_2).f1) x63_4).f1), .int .i64 ((rd_T80 ((rd_T77 l0_2 x26_2).f1) x63_4).f2)] 80 (0, 0))) := ⟨(by rw [hw]; exact (by refine bU ?_; refine blk_put (cs := #[.string ((rd_T80 ((rd_T77 l0_2 x26_2).f1) x63_4).f0), .int .i64 ((rd_T80 ((rd_T77 l0_2 x26_2).f1) x63_4).f1), .int .i64 0]) ?_ 2 _ rfl; refine bU ?_; refine blk_put (cs := #[.string ((rd_T80 ((rd_T77 l0_2 x26_2).f1) x63_4).f0), .int .i64 0, .int .i64 0]) ?_ 1 _ rfl; refine bU ?_; refine blk_put (cs := #[.string (⟨#[]⟩ : ByteArray), .int .i64 0, .int .i64 0]) ?_ 0 _ rfl; refine bU ?_; exact BK125.out))⟩; replace HB : Aside0 (Below w.heap.size w w77) := ⟨(by rw [hw]; exact (lV3 GE117 GE121 GE125))⟩; clear hw; have hcz78_0 := cz BK125 0 (.string ((rd_T80 ((rd_T77 l0_2 x26_2).f1) x63_4).f0)); have hcz78_1 := cz BK125 1 (.int .i64 ((rd_T80 ((rd_T77 l0_2 x26_2).f1) x63_4).f1)); have hcz78_2 := cz BK125 2 (.int .i64 ((rd_T80 ((rd_T77 l0_2 x26_2).f1) x63_4).f2)); have hfz78_0 := fz BK125 0; have hfz78_1 := fz BK125 1; have hfz78_2 := fz BK125 2) |(go_at_call 55; (with_reducible refine (spec_GoodName.calls k4 ((rd_T80 ((rd_T77 l0_2 x26_2).f1) x63_4).f0) true _ A46.out).mono ?_); rintro e w' ⟨rfl, ⟨nd, rfl⟩⟩; (try first | exact ⟨rfl, _, World.drewN_drewN _ _ _⟩ | exact ⟨rfl, _, Eq.trans (World.drewN_drewN _ _ _) (congrArg (World.drewN _) (Nat.add_assoc _ _ _))⟩)) | (go_at_call 42; (with_reducible refine (spec_l1In.calls ((rd_T80 ((rd_T77 l0_2 x26_2).f1) x63_4).f2) 0 a0_1 true _ A48.out).mono ?_); rintro e w' ⟨rfl, ⟨nd, rfl⟩⟩; (try first | exact ⟨rfl, _, World.drewN_drewN _ _ _⟩ | exact ⟨rfl, _, Eq.trans (World.drewN_drewN _ _ _) (congrArg (World.drewN _) (Nat.add_assoc _ _ _))⟩))); try go_wp2_with (first | ((with_reducible refine gate_dst (N := 6) rfl ?_); (try (refine gate_guard (by rfl) ?_; dsimp only)); refine box_event rfl (N := 6) rfl (cs := #[.string (⟨#[]⟩ : ByteArray), .int .i64 0, .int .i64 0]) (t := 80) sE ?_; intro gb125 hg w73 hbox hb; have BK125 := Aside0.mk hbox; have GW125 := gS w hg (lV2 GE117 GE121); have GE125 := gS w hg (lV2 GE117 GE121); replace HB := bH (lV2 GE117 GE121) hb; have NB117_125 := nL hg (bV BK117); have NB125_117 := nG hg (bV BK117); replace BK117 := bB (bV BK117) hb; have NB121_125 := nL hg (bV BK121); have NB125_121 := nG hg (bV BK121); replace BK121 := bB (bV BK121) hb; clear hb hbox hg; have hnb74 := NB125_117.out; have hnc74 := NB117_125.out; have hnb75 := NB125_121.out; have hnc75 := NB121_125.out; have hcz76_0 := cz BK125 0 (.string (⟨#[]⟩ : ByteArray)); have hcz76_1 := cz BK125 1 (.int .i64 0); have hcz76_2 := cz BK125 2 (.int .i64 0); have hfz76_0 := fz BK125 0; have hfz76_1 := fz BK125 1; have hfz76_2 := fz BK125 2) | ((with_reducible refine gate_store (t := 80) (p := 6) rfl ?_); (try (rw [drewN_self w73]; generalize hq_ : World.drewN w73 _ = w73; replace BK117 := Aside0.mk (blk_at hq_ BK117.out); replace BK121 := Aside0.mk (blk_at hq_ BK121.out); replace BK125 := Aside0.mk (blk_at hq_ BK125.out); replace HB := Aside0.mk (below_at hq_ HB.out); clear hq_)); refine store_event (t := 80) (p := 6) (v := ?vo_w77) (w1 := (((w73.setCell ⟨gb125, 0, none⟩ (.string ((rd_T80 ((rd_T77 l0_2 x26_2).f1) x63_4).f0))).setCell ⟨gb125, 1, none⟩ (.int .i64 ((rd_T80 ((rd_T77 l0_2 x26_2).f1) x63_4).f1))).setCell ⟨gb125, 2, none⟩ (.int .i64 ((rd_T80 ((rd_T77 l0_2 x26_2).f1) x63_4).f2)))) ?hg ?ho ?hn ?hr ?_; (case ho => rfl); (case hg => rfl); (case hn => rfl); (case hr => first | (go_simp; done) | (go_simp; rfl) | (have hq0_ := (blk_cell BK125.out 0).trans (show _ = some _ from rfl); have hf0_ := blk_frozen BK125.out 0; have hq1_ := (blk_cell BK125.out 1).trans (show _ = some _ from rfl); have hf1_ := blk_frozen BK125.out 1; have hq2_ := (blk_cell BK125.out 2).trans (show _ = some _ from rfl); have hf2_ := blk_frozen BK125.out 2; first | (go_simp; done) | (go_simp; rfl))); intro w77 hw; replace BK117 : Aside0 (w77.heap[gb117]? = some (.cells #[.int .i64 a0_0, .int .i64 a0_1, .slice (some ad120) l0_2.length c0_2] 50 (0, 0))) := ⟨(by rw [hw]; exact (bG NB117_125 BK117))⟩; replace BK121 : Aside0 (w77.heap[gb121]? = some (.cells #[.int .i64 ((rd_T77 l0_2 x26_2).f0), .slice (some ad124) ((rd_T77 l0_2 x26_2).f1).length c120_1] 77 (0, 0))) := ⟨(by rw [hw]; exact (bG NB121_125 BK121))⟩; replace BK125 : Aside0 (w77.heap[gb125]? = some (.cells #[.string ((rd_T80 ((rd_T77 l0_2 x26_2).f1) x63_4).f0), .int .i64 ((rd_T80 ((rd_T77 l0_2 x26_2).f1) x63_4).f1), .int .i64 ((rd_T80 ((rd_T77 l0_2 x26_2).f1) x63_4).f2)] 80 (0, 0))) := ⟨(by rw [hw]; exact (by refine bU ?_; refine blk_put (cs := #[.string ((rd_T80 ((rd_T77 l0_2 x26_2).f1) x63_4).f0), .int .i64 ((rd_T80 ((rd_T77 l0_2 x26_2).f1) x63_4).f1), .int .i64 0]) ?_ 2 _ rfl; refine bU ?_; refine blk_put (cs := #[.string ((rd_T80 ((rd_T77 l0_2 x26_2).f1) x63_4).f0), .int .i64 0, .int .i64 0]) ?_ 1 _ rfl; refine bU ?_; refine blk_put (cs := #[.string (⟨#[]⟩ : ByteArray), .int .i64 0, .int .i64 0]) ?_ 0 _ rfl; refine bU ?_; exact BK125.out))⟩; replace HB : Aside0 (Below w.heap.size w w77) := ⟨(by rw [hw]; exact (lV3 GE117 GE121 GE125))⟩; clear hw; have hcz78_0 := cz BK125 0 (.string ((rd_T80 ((rd_T77 l0_2 x26_2).f1) x63_4).f0)); have hcz78_1 := cz BK125 1 (.int .i64 ((rd_T80 ((rd_T77 l0_2 x26_2).f1) x63_4).f1)); have hcz78_2 := cz BK125 2 (.int .i64 ((rd_T80 ((rd_T77 l0_2 x26_2).f1) x63_4).f2)); have hfz78_0 := fz BK125 0; have hfz78_1 := fz BK125 1; have hfz78_2 := fz BK125 2) | (go_at_call 55; (with_reducible refine (spec_GoodName.calls k4 ((rd_T80 ((rd_T77 l0_2 x26_2).f1) x63_4).f0) true _ A46.out).mono ?_); rintro e w' ⟨rfl, ⟨nd, rfl⟩⟩; (try first | exact ⟨rfl, _, World.drewN_drewN _ _ _⟩ | exact ⟨rfl, _, Eq.trans (World.drewN_drewN _ _ _) (congrArg (World.drewN _) (Nat.add_assoc _ _ _))⟩); have hnb79 := NB117_121.out; have hnc79 := NB121_117.out; have hcz80_0 := cz BK117 0 (.int .i64 a0_0); have hcz80_1 := cz BK117 1 (.int .i64 a0_1); have hcz80_2 := cz BK117 2 (.slice (some ad120) l0_2.length c0_2); have hfz80_0 := fz BK117 0; have hfz80_1 := fz BK117 1; have hfz80_2 := fz BK117 2) | (go_at_call 42; (with_reducible refine (spec_l1In.calls ((rd_T80 ((rd_T77 l0_2 x26_2).f1) x63_4).f2) 0 a0_1 true _ A48.out).mono ?_); rintro e w' ⟨rfl, ⟨nd, rfl⟩⟩; (try first | exact ⟨rfl, _, World.drewN_drewN _ _ _⟩ | exact ⟨rfl, _, Eq.trans (World.drewN_drewN _ _ _) (congrArg (World.drewN _) (Nat.add_assoc _ _ _))⟩))))
                    go_roundg k4
                    case measure => have := HJ1.out; have := HK2.out; have := HJ15.out; have := HK4.out; omega
                    case rel => exact ⟨(wrap64 (x63_4 + 1)), tE, H', ⟨by have := HJ1.out; have := HK2.out; have := HJ15.out; have := HK4.out; omega⟩, ⟨by refine bU ?_; exact BK117.out⟩, ⟨by refine bU ?_; exact BK121.out⟩, ⟨by repeat (first | (with_reducible first | exact HB.out | apply below_alloc | apply pw_below_drewN | apply below_drew1 | refine below_set ?_ GE117.out | refine below_set ?_ GE121.out | refine below_set ?_ GE125.out) | exact HB.out)⟩⟩
                  ·replace c49 := Bool.eq_false_iff.mpr c49
                   subst c49
                   have H1 : (some false) = some r := by rw [if_neg (show ¬ (false = true) by decide)] at H; exact H
                   clear H
                   have H := H1
                   clear H1
                   obtain rfl := Option.some.inj H
                   have p124 : 0 ≤ (x63_4 : Int) := of_decide_eq_true hE
                   have q124 : x63_4 < (((rd_T77 l0_2 x26_2).f1).length : Int) := of_decide_eq_true hE
                   obtain ⟨ad124, e124, hx124_0, hx124_1, hx124_2⟩ := at_T80 HR120_1.out x63_4 p124 q124
                   cases e124
                   replace hx124_0 := (HB.out.cell (World.block_lt_of_cell? w _ hx124_0)).trans hx124_0
                   replace hx124_1 := (HB.out.cell (World.block_lt_of_cell? w _ hx124_1)).trans hx124_1
                   replace hx124_2 := (HB.out.cell (World.block_lt_of_cell? w _ hx124_2)).trans hx124_2
                   replace p124 := eq_true p124
                   replace q124 := eq_true q124
                   go_wp2_with (first | ((with_reducible refine gate_dst (N := 6) rfl ?_); (try (refine gate_guard (by rfl) ?_; dsimp only)); refine box_event rfl (N := 6) rfl (cs := #[.string (⟨#[]⟩ : ByteArray), .int .i64 0, .int .i64 0]) (t := 80) sE ?_; intro gb125 hg w81 hbox hb; have BK125 := Aside0.mk hbox; have GW125 := gS w hg (lV2 GE117 GE121); have GE125 := gS w hg (lV2 GE117 GE121); replace HB := bH (lV2 GE117 GE121) hb; have NB117_125 := nL hg (bV BK117); have NB125_117 := nG hg (bV BK117); replace BK117 := bB (bV BK117) hb; have NB121_125 := nL hg (bV BK121); have NB125_121 := nG hg (bV BK121); replace BK121 := bB (bV BK121) hb; clear hb hbox hg; have hnb82 := NB125_117.out; have hnc82 := NB117_125.out; have hnb83 := NB125_121.out; have hnc83 := NB121_125.out; have hcz84_0 := cz BK125 0 (.string (⟨#[]⟩ : ByteArray)); have hcz84_1 := cz BK125 1 (.int .i64 0); have hcz84_2 := cz BK125 2 (.int .i64 0); have hfz84_0 := fz BK125 0; have hfz84_1 := fz BK125 1; have hfz84_2 := fz BK125 2) | ((with_reducible refine gate_store (t := 80) (p := 6) rfl ?_); (try (rw [drewN_self w81]; generalize hq_ : World.drewN w81 _ = w81; replace BK117 := Aside0.mk (blk_at hq_ BK117.out); replace BK121 := Aside0.mk (blk_at hq_ BK121.out); replace BK125 := Aside0.mk (blk_at hq_ BK125.out); replace HB := Aside0.mk (below_at hq_ HB.out); clear hq_)); refine store_event (t := 80) (p := 6) (v := ?vo_w85) (w1 := (((w81.setCell ⟨gb125, 0, none⟩ (.string ((rd_T80 ((rd_T77 l0_2 x26_2).f1) x63_4).f0))).setCell ⟨gb125, 1, none⟩ (.int .i64 ((rd_T80 ((rd_T77 l0_2 x26_2).f1) x63_4).f1))).setCell ⟨gb125, 2, none⟩ (.int .i64 ((rd_T80 ((rd_T77 l0_2 x26_2).f1) x63_4).f2)))) ?hg ?ho ?hn ?hr ?_; (case ho => rfl); (case hg => rfl); (case hn => rfl); (case hr => first | (go_simp; done) | (go_simp; rfl) | (have hq0_ := (blk_cell BK125.out 0).trans (show _ = some _ from rfl); have hf0_ := blk_frozen BK125.out 0; have hq1_ := (blk_cell BK125.out 1).trans (show _ = some _ from rfl); have hf1_ := blk_frozen BK125.out 1; have hq2_ := (blk_cell BK125.out 2).trans (show _ = some _ from rfl); have hf2_ := blk_frozen BK125.out 2; first | (go_simp; done) | (go_simp; rfl))); intro w85 hw; replace BK117 : Aside0 (w85.heap[gb117]? = some (.cells #[.int .i64 a0_0, .int .i64 a0_1, .slice (some ad120) l0_2.length c0_2] 50 (0, 0))) := ⟨(by rw [hw]; exact (bG NB117_125 BK117))⟩; replace BK121 : Aside0 (w85.heap[gb121]? = some (.cells #[.int .i64 ((rd_T77 l0_2 x26_2).f0), .slice (some ad124) ((rd_T77 l0_2 x26_2).f1).length c120_1] 77 (0, 0))) := ⟨(by rw [hw]; exact (bG NB121_125 BK121))⟩; replace BK125 : Aside0 (w85.heap[gb125]? = some (.cells #[.string ((rd_T80 ((rd_T77 l0_2 x26_2).f1) x63_4).f0), .int .i64 ((rd_T80 ((rd_T77 l0_2 x26_2).f1) x63_4).f1), .int .i64 ((rd_T80 ((rd_T77 l0_2 x26_2).f1) x63_4).f2)] 80 (0, 0))) := ⟨(by rw [hw]; exact (by refine bU ?_; refine blk_put (cs := #[.string ((rd_T80 ((rd_T77 l0_2 x26_2).f1) x63_4).f0), .int .i64 ((rd_T80 ((rd_T77 l0_2 x26_2).f1) x63_4).f1), .int .i64 0]) ?_ 2 _ rfl; refine bU ?_; refine blk_put (cs := #[.string ((rd_T80 ((rd_T77 l0_2 x26_2).f1) x63_4).f0), .int .i64 0, .int .i64 0]) ?_ 1 _ rfl; refine bU ?_; refine blk_put (cs := #[.string (⟨#[]⟩ : ByteArray), .int .i64 0, .int .i64 0]) ?_ 0 _ rfl; refine bU ?_; exact BK125.out))⟩; replace HB : Aside0 (Below w.heap.size w w85) := ⟨(by rw [hw]; exact (lV3 GE117 GE121 GE125))⟩; clear hw; have hcz86_0 := cz BK125 0 (.string ((rd_T80 ((rd_T77 l0_2 x26_2).f1) x63_4).f0)); have hcz86_1 := cz BK125 1 (.int .i64 ((rd_T80 ((rd_T77 l0_2 x26_2).f1) x63_4).f1)); have hcz86_2 := cz BK125 2 (.int .i64 ((rd_T80 ((rd_T77 l0_2 x26_2).f1) x63_4).f2)); have hfz86_0 := fz BK125 0; have hfz86_1 := fz BK125 1; have hfz86_2 := fz BK125 2) | (go_at_call 55; (with_reducible refine (spec_GoodName.calls k4 ((rd_T80 ((rd_T77 l0_2 x26_2).f1) x63_4).f0) true _ A46.out).mono ?_); rintro e w' ⟨rfl, ⟨nd, rfl⟩⟩; (try first | exact ⟨rfl, _, World.drewN_drewN _ _ _⟩ | exact ⟨rfl, _, Eq.trans (World.drewN_drewN _ _ _) (congrArg (World.drewN _) (Nat.add_assoc _ _ _))⟩); have hnb87 := NB117_121.out; have hnc87 := NB121_117.out; have hcz88_0 := cz BK117 0 (.int .i64 a0_0); have hcz88_1 := cz BK117 1 (.int .i64 a0_1); have hcz88_2 := cz BK117 2 (.slice (some ad120) l0_2.length c0_2); have hfz88_0 := fz BK117 0; have hfz88_1 := fz BK117 1; have hfz88_2 := fz BK117 2) | (go_at_call 42; (with_reducible refine (spec_l1In.calls ((rd_T80 ((rd_T77 l0_2 x26_2).f1) x63_4).f2) 0 a0_1 false _ A48.out).mono ?_); rintro e w' ⟨rfl, ⟨nd, rfl⟩⟩; (try first | exact ⟨rfl, _, World.drewN_drewN _ _ _⟩ | exact ⟨rfl, _, Eq.trans (World.drewN_drewN _ _ _) (congrArg (World.drewN _) (Nat.add_assoc _ _ _))⟩)))
                   have hnb87 := NB117_121.out
                   have hnc87 := NB121_117.out
                   have hcz88_0 := cz BK117 0 (.int .i64 a0_0)
                   have hcz88_1 := cz BK117 1 (.int .i64 a0_1)
                   have hcz88_2 := cz BK117 2 (.slice (some ad120) l0_2.length c0_2)
                   have hfz88_0 := fz BK117 0
                   have hfz88_1 := fz BK117 1
                   have hfz88_2 := fz BK117 2
                   repeat (go_quiet (first | ((with_reducible refine gate_dst (N := 6) rfl ?_); (try (refine gate_guard (by rfl) ?_; dsimp only)); refine box_event rfl (N := 6) rfl (cs := #[.string (⟨#[]⟩ : ByteArray), .int .i64 0, .int .i64 0]) (t := 80) sE ?_; intro gb125 hg w81 hbox hb; have BK125 := Aside0.mk hbox; have GW125 := gS w hg (lV2 GE117 GE121); have GE125 := gS w hg (lV2 GE117 GE121); replace HB := bH (lV2 GE117 GE121) hb; have NB117_125 := nL hg (bV BK117); have NB125_117 := nG hg (bV BK117); replace BK117 := bB (bV BK117) hb; have NB121_125 := nL hg (bV BK121); have NB125_121 := nG hg (bV BK121); replace BK121 := bB (bV BK121) hb; clear hb hbox hg; have hnb82 := NB125_117.out; have hnc82 := NB117_125.out; have hnb83 := NB125_121.out; have hnc83 := NB121_125.out; have hcz84_0 := cz BK125 0 (.string (⟨#[]⟩ : ByteArray)); have hcz84_1 := cz BK125 1 (.int .i64 0); have hcz84_2 := cz BK125 2 (.int .i64 0); have hfz84_0 := fz BK125 0; have hfz84_1 := fz BK125 1; have hfz84_2 := fz BK125 2) | ((with_reducible refine gate_store (t := 80) (p := 6) rfl ?_); (try (rw [drewN_self w81]; generalize hq_ : World.drewN w81 _ = w81; replace BK117 := Aside0.mk (blk_at hq_ BK117.out); replace BK121 := Aside0.mk (blk_at hq_ BK121.out); replace BK125 := Aside0.mk (blk_at hq_ BK125.out); replace HB := Aside0.mk (below_at hq_ HB.out); clear hq_)); refine store_event (t := 80) (p := 6) (v := ?vo_w85) (w1 := (((w81.setCell ⟨gb125, 0, none⟩ (.string ((rd_T80 ((rd_T77 l0_2 x26_2).f1) x63_4).f0))).setCell ⟨gb125, 1, none⟩ (.int .i64 ((rd_T80 ((rd_T77 l0_2 x26_2).f1) x63_4).f1))).setCell ⟨gb125, 2, none⟩ (.int .i64 ((rd_T80 ((rd_T77 l0_2 x26_2).f1) x63_4).f2)))) ?hg ?ho ?hn ?hr ?_; (case ho => rfl); (case hg => rfl); (case hn => rfl); (case hr => first | (go_simp; done) | (go_simp; rfl) | (have hq0_ := (blk_cell BK125.out 0).trans (show _ = some _ from rfl); have hf0_ := blk_frozen BK125.out 0; have hq1_ := (blk_cell BK125.out 1).trans (show _ = some _ from rfl); have hf1_ := blk_frozen BK125.out 1; have hq2_ := (blk_cell BK125.out 2).trans (show _ = some _ from rfl); have hf2_ := blk_frozen BK125.out 2; first | (go_simp; done) | (go_simp; rfl))); intro w85 hw; replace BK117 : Aside0 (w85.heap[gb117]? = some (.cells #[.int .i64 a0_0, .int .i64 a0_1, .slice (some ad120) l0_2.length c0_2] 50 (0, 0))) := ⟨(by rw [hw]; exact (bG NB117_125 BK117))⟩; replace BK121 : Aside0 (w85.heap[gb121]? = some (.cells #[.int .i64 ((rd_T77 l0_2 x26_2).f0), .slice (some ad124) ((rd_T77 l0_2 x26_2).f1).length c120_1] 77 (0, 0))) := ⟨(by rw [hw]; exact (bG NB121_125 BK121))⟩; replace BK125 : Aside0 (w85.heap[gb125]? = some (.cells #[.string ((rd_T80 ((rd_T77 l0_2 x26_2).f1) x63_4).f0), .int .i64 ((rd_T80 ((rd_T77 l0_2 x26_2).f1) x63_4).f1), .int .i64 ((rd_T80 ((rd_T77 l0_2 x26_2).f1) x63_4).f2)] 80 (0, 0))) := ⟨(by rw [hw]; exact (by refine bU ?_; refine blk_put (cs := #[.string ((rd_T80 ((rd_T77 l0_2 x26_2).f1) x63_4).f0), .int .i64 ((rd_T80 ((rd_T77 l0_2 x26_2).f1) x63_4).f1), .int .i64 0]) ?_ 2 _ rfl; refine bU ?_; refine blk_put (cs := #[.string ((rd_T80 ((rd_T77 l0_2 x26_2).f1) x63_4).f0), .int .i64 0, .int .i64 0]) ?_ 1 _ rfl; refine bU ?_; refine blk_put (cs := #[.string (⟨#[]⟩ : ByteArray), .int .i64 0, .int .i64 0]) ?_ 0 _ rfl; refine bU ?_; exact BK125.out))⟩; replace HB : Aside0 (Below w.heap.size w w85) := ⟨(by rw [hw]; exact (lV3 GE117 GE121 GE125))⟩; clear hw; have hcz86_0 := cz BK125 0 (.string ((rd_T80 ((rd_T77 l0_2 x26_2).f1) x63_4).f0)); have hcz86_1 := cz BK125 1 (.int .i64 ((rd_T80 ((rd_T77 l0_2 x26_2).f1) x63_4).f1)); have hcz86_2 := cz BK125 2 (.int .i64 ((rd_T80 ((rd_T77 l0_2 x26_2).f1) x63_4).f2)); have hfz86_0 := fz BK125 0; have hfz86_1 := fz BK125 1; have hfz86_2 := fz BK125 2) |(go_at_call 55; (with_reducible refine (spec_GoodName.calls k4 ((rd_T80 ((rd_T77 l0_2 x26_2).f1) x63_4).f0) true _ A46.out).mono ?_); rintro e w' ⟨rfl, ⟨nd, rfl⟩⟩; (try first | exact ⟨rfl, _, World.drewN_drewN _ _ _⟩ | exact ⟨rfl, _, Eq.trans (World.drewN_drewN _ _ _) (congrArg (World.drewN _) (Nat.add_assoc _ _ _))⟩)) | (go_at_call 42; (with_reducible refine (spec_l1In.calls ((rd_T80 ((rd_T77 l0_2 x26_2).f1) x63_4).f2) 0 a0_1 false _ A48.out).mono ?_); rintro e w' ⟨rfl, ⟨nd, rfl⟩⟩; (try first | exact ⟨rfl, _, World.drewN_drewN _ _ _⟩ | exact ⟨rfl, _, Eq.trans (World.drewN_drewN _ _ _) (congrArg (World.drewN _) (Nat.add_assoc _ _ _))⟩))); try go_wp2_with (first | ((with_reducible refine gate_dst (N := 6) rfl ?_); (try (refine gate_guard (by rfl) ?_; dsimp only)); refine box_event rfl (N := 6) rfl (cs := #[.string (⟨#[]⟩ : ByteArray), .int .i64 0, .int .i64 0]) (t := 80) sE ?_; intro gb125 hg w81 hbox hb; have BK125 := Aside0.mk hbox; have GW125 := gS w hg (lV2 GE117 GE121); have GE125 := gS w hg (lV2 GE117 GE121); replace HB := bH (lV2 GE117 GE121) hb; have NB117_125 := nL hg (bV BK117); have NB125_117 := nG hg (bV BK117); replace BK117 := bB (bV BK117) hb; have NB121_125 := nL hg (bV BK121); have NB125_121 := nG hg (bV BK121); replace BK121 := bB (bV BK121) hb; clear hb hbox hg; have hnb82 := NB125_117.out; have hnc82 := NB117_125.out; have hnb83 := NB125_121.out; have hnc83 := NB121_125.out; have hcz84_0 := cz BK125 0 (.string (⟨#[]⟩ : ByteArray)); have hcz84_1 := cz BK125 1 (.int .i64 0); have hcz84_2 := cz BK125 2 (.int .i64 0); have hfz84_0 := fz BK125 0; have hfz84_1 := fz BK125 1; have hfz84_2 := fz BK125 2) | ((with_reducible refine gate_store (t := 80) (p := 6) rfl ?_); (try (rw [drewN_self w81]; generalize hq_ : World.drewN w81 _ = w81; replace BK117 := Aside0.mk (blk_at hq_ BK117.out); replace BK121 := Aside0.mk (blk_at hq_ BK121.out); replace BK125 := Aside0.mk (blk_at hq_ BK125.out); replace HB := Aside0.mk (below_at hq_ HB.out); clear hq_)); refine store_event (t := 80) (p := 6) (v := ?vo_w85) (w1 := (((w81.setCell ⟨gb125, 0, none⟩ (.string ((rd_T80 ((rd_T77 l0_2 x26_2).f1) x63_4).f0))).setCell ⟨gb125, 1, none⟩ (.int .i64 ((rd_T80 ((rd_T77 l0_2 x26_2).f1) x63_4).f1))).setCell ⟨gb125, 2, none⟩ (.int .i64 ((rd_T80 ((rd_T77 l0_2 x26_2).f1) x63_4).f2)))) ?hg ?ho ?hn ?hr ?_; (case ho => rfl); (case hg => rfl); (case hn => rfl); (case hr => first | (go_simp; done) | (go_simp; rfl) | (have hq0_ := (blk_cell BK125.out 0).trans (show _ = some _ from rfl); have hf0_ := blk_frozen BK125.out 0; have hq1_ := (blk_cell BK125.out 1).trans (show _ = some _ from rfl); have hf1_ := blk_frozen BK125.out 1; have hq2_ := (blk_cell BK125.out 2).trans (show _ = some _ from rfl); have hf2_ := blk_frozen BK125.out 2; first | (go_simp; done) | (go_simp; rfl))); intro w85 hw; replace BK117 : Aside0 (w85.heap[gb117]? = some (.cells #[.int .i64 a0_0, .int .i64 a0_1, .slice (some ad120) l0_2.length c0_2] 50 (0, 0))) := ⟨(by rw [hw]; exact (bG NB117_125 BK117))⟩; replace BK121 : Aside0 (w85.heap[gb121]? = some (.cells #[.int .i64 ((rd_T77 l0_2 x26_2).f0), .slice (some ad124) ((rd_T77 l0_2 x26_2).f1).length c120_1] 77 (0, 0))) := ⟨(by rw [hw]; exact (bG NB121_125 BK121))⟩; replace BK125 : Aside0 (w85.heap[gb125]? = some (.cells #[.string ((rd_T80 ((rd_T77 l0_2 x26_2).f1) x63_4).f0), .int .i64 ((rd_T80 ((rd_T77 l0_2 x26_2).f1) x63_4).f1), .int .i64 ((rd_T80 ((rd_T77 l0_2 x26_2).f1) x63_4).f2)] 80 (0, 0))) := ⟨(by rw [hw]; exact (by refine bU ?_; refine blk_put (cs := #[.string ((rd_T80 ((rd_T77 l0_2 x26_2).f1) x63_4).f0), .int .i64 ((rd_T80 ((rd_T77 l0_2 x26_2).f1) x63_4).f1), .int .i64 0]) ?_ 2 _ rfl; refine bU ?_; refine blk_put (cs := #[.string ((rd_T80 ((rd_T77 l0_2 x26_2).f1) x63_4).f0), .int .i64 0, .int .i64 0]) ?_ 1 _ rfl; refine bU ?_; refine blk_put (cs := #[.string (⟨#[]⟩ : ByteArray), .int .i64 0, .int .i64 0]) ?_ 0 _ rfl; refine bU ?_; exact BK125.out))⟩; replace HB : Aside0 (Below w.heap.size w w85) := ⟨(by rw [hw]; exact (lV3 GE117 GE121 GE125))⟩; clear hw; have hcz86_0 := cz BK125 0 (.string ((rd_T80 ((rd_T77 l0_2 x26_2).f1) x63_4).f0)); have hcz86_1 := cz BK125 1 (.int .i64 ((rd_T80 ((rd_T77 l0_2 x26_2).f1) x63_4).f1)); have hcz86_2 := cz BK125 2 (.int .i64 ((rd_T80 ((rd_T77 l0_2 x26_2).f1) x63_4).f2)); have hfz86_0 := fz BK125 0; have hfz86_1 := fz BK125 1; have hfz86_2 := fz BK125 2) | (go_at_call 55; (with_reducible refine (spec_GoodName.calls k4 ((rd_T80 ((rd_T77 l0_2 x26_2).f1) x63_4).f0) true _ A46.out).mono ?_); rintro e w' ⟨rfl, ⟨nd, rfl⟩⟩; (try first | exact ⟨rfl, _, World.drewN_drewN _ _ _⟩ | exact ⟨rfl, _, Eq.trans (World.drewN_drewN _ _ _) (congrArg (World.drewN _) (Nat.add_assoc _ _ _))⟩); have hnb87 := NB117_121.out; have hnc87 := NB121_117.out; have hcz88_0 := cz BK117 0 (.int .i64 a0_0); have hcz88_1 := cz BK117 1 (.int .i64 a0_1); have hcz88_2 := cz BK117 2 (.slice (some ad120) l0_2.length c0_2); have hfz88_0 := fz BK117 0; have hfz88_1 := fz BK117 1; have hfz88_2 := fz BK117 2) | (go_at_call 42; (with_reducible refine (spec_l1In.calls ((rd_T80 ((rd_T77 l0_2 x26_2).f1) x63_4).f2) 0 a0_1 false _ A48.out).mono ?_); rintro e w' ⟨rfl, ⟨nd, rfl⟩⟩; (try first | exact ⟨rfl, _, World.drewN_drewN _ _ _⟩ | exact ⟨rfl, _, Eq.trans (World.drewN_drewN _ _ _) (congrArg (World.drewN _) (Nat.add_assoc _ _ _))⟩))))
                   go_ret
                   exact ⟨eE, lV3 GE117 GE121 GE125⟩
                 ·replace c47 := Bool.eq_false_iff.mpr c47
                  subst c47
                  have H1 : (some false) = some r := by rw [if_neg (show ¬ (false = true) by decide)] at H; exact H
                  clear H
                  have H := H1
                  clear H1
                  obtain rfl := Option.some.inj H
                  have p124 : 0 ≤ (x63_4 : Int) := of_decide_eq_true hE
                  have q124 : x63_4 < (((rd_T77 l0_2 x26_2).f1).length : Int) := of_decide_eq_true hE
                  obtain ⟨ad124, e124, hx124_0, hx124_1, hx124_2⟩ := at_T80 HR120_1.out x63_4 p124 q124
                  cases e124
                  replace hx124_0 := (HB.out.cell (World.block_lt_of_cell? w _ hx124_0)).trans hx124_0
                  replace hx124_1 := (HB.out.cell (World.block_lt_of_cell? w _ hx124_1)).trans hx124_1
                  replace hx124_2 := (HB.out.cell (World.block_lt_of_cell? w _ hx124_2)).trans hx124_2
                  replace p124 := eq_true p124
                  replace q124 := eq_true q124
                  go_wp2_with (first | ((with_reducible refine gate_dst (N := 6) rfl ?_); (try (refine gate_guard (by rfl) ?_; dsimp only)); refine box_event rfl (N := 6) rfl (cs := #[.string (⟨#[]⟩ : ByteArray), .int .i64 0, .int .i64 0]) (t := 80) sE ?_; intro gb125 hg w89 hbox hb; have BK125 := Aside0.mk hbox; have GW125 := gS w hg (lV2 GE117 GE121); have GE125 := gS w hg (lV2 GE117 GE121); replace HB := bH (lV2 GE117 GE121) hb; have NB117_125 := nL hg (bV BK117); have NB125_117 := nG hg (bV BK117); replace BK117 := bB (bV BK117) hb; have NB121_125 := nL hg (bV BK121); have NB125_121 := nG hg (bV BK121); replace BK121 := bB (bV BK121) hb; clear hb hbox hg; have hnb90 := NB125_117.out; have hnc90 := NB117_125.out; have hnb91 := NB125_121.out; have hnc91 := NB121_125.out; have hcz92_0 := cz BK125 0 (.string (⟨#[]⟩ : ByteArray)); have hcz92_1 := cz BK125 1 (.int .i64 0); have hcz92_2 := cz BK125 2 (.int .i64 0); have hfz92_0 := fz BK125 0; have hfz92_1 := fz BK125 1; have hfz92_2 := fz BK125 2) | ((with_reducible refine gate_store (t := 80) (p := 6) rfl ?_); (try (rw [drewN_self w89]; generalize hq_ : World.drewN w89 _ = w89; replace BK117 := Aside0.mk (blk_at hq_ BK117.out); replace BK121 := Aside0.mk (blk_at hq_ BK121.out); replace BK125 := Aside0.mk (blk_at hq_ BK125.out); replace HB := Aside0.mk (below_at hq_ HB.out); clear hq_)); refine store_event (t := 80) (p := 6) (v := ?vo_w93) (w1 := (((w89.setCell ⟨gb125, 0, none⟩ (.string ((rd_T80 ((rd_T77 l0_2 x26_2).f1) x63_4).f0))).setCell ⟨gb125, 1, none⟩ (.int .i64 ((rd_T80 ((rd_T77 l0_2 x26_2).f1) x63_4).f1))).setCell ⟨gb125, 2, none⟩ (.int .i64 ((rd_T80 ((rd_T77 l0_2 x26_2).f1) x63_4).f2)))) ?hg ?ho ?hn ?hr ?_; (case ho => rfl); (case hg => rfl); (case hn => rfl); (case hr => first | (go_simp; done) | (go_simp; rfl) | (have hq0_ := (blk_cell BK125.out 0).trans (show _ = some _ from rfl); have hf0_ := blk_frozen BK125.out 0; have hq1_ := (blk_cell BK125.out 1).trans (show _ = some _ from rfl); have hf1_ := blk_frozen BK125.out 1; have hq2_ := (blk_cell BK125.out 2).trans (show _ = some _ from rfl); have hf2_ := blk_frozen BK125.out 2; first | (go_simp; done) | (go_simp; rfl))); intro w93 hw; replace BK117 : Aside0 (w93.heap[gb117]? = some (.cells #[.int .i64 a0_0, .int .i64 a0_1, .slice (some ad120) l0_2.length c0_2] 50 (0, 0))) := ⟨(by rw [hw]; exact (bG NB117_125 BK117))⟩; replace BK121 : Aside0 (w93.heap[gb121]? = some (.cells #[.int .i64 ((rd_T77 l0_2 x26_2).f0), .slice (some ad124) ((rd_T77 l0_2 x26_2).f1).length c120_1] 77 (0, 0))) := ⟨(by rw [hw]; exact (bG NB121_125 BK121))⟩; replace BK125 : Aside0 (w93.heap[gb125]? = some (.cells #[.string ((rd_T80 ((rd_T77 l0_2 x26_2).f1) x63_4).f0), .int .i64 ((rd_T80 ((rd_T77 l0_2 x26_2).f1) x63_4).f1), .int .i64 ((rd_T80 ((rd_T77 l0_2 x26_2).f1) x63_4).f2)] 80 (0, 0))) := ⟨(by rw [hw]; exact (by refine bU ?_; refine blk_put (cs := #[.string ((rd_T80 ((rd_T77 l0_2 x26_2).f1) x63_4).f0), .int .i64 ((rd_T80 ((rd_T77 l0_2 x26_2).f1) x63_4).f1), .int .i64 0]) ?_ 2 _ rfl; refine bU ?_; refine blk_put (cs := #[.string ((rd_T80 ((rd_T77 l0_2 x26_2).f1) x63_4).f0), .int .i64 0, .int .i64 0]) ?_ 1 _ rfl; refine bU ?_; refine blk_put (cs := #[.string (⟨#[]⟩ : ByteArray), .int .i64 0, .int .i64 0]) ?_ 0 _ rfl; refine bU ?_; exact BK125.out))⟩; replace HB : Aside0 (Below w.heap.size w w93) := ⟨(by rw [hw]; exact (lV3 GE117 GE121 GE125))⟩; clear hw; have hcz94_0 := cz BK125 0 (.string ((rd_T80 ((rd_T77 l0_2 x26_2).f1) x63_4).f0)); have hcz94_1 := cz BK125 1 (.int .i64 ((rd_T80 ((rd_T77 l0_2 x26_2).f1) x63_4).f1)); have hcz94_2 := cz BK125 2 (.int .i64 ((rd_T80 ((rd_T77 l0_2 x26_2).f1) x63_4).f2)); have hfz94_0 := fz BK125 0; have hfz94_1 := fz BK125 1; have hfz94_2 := fz BK125 2) | (go_at_call 55; (with_reducible refine (spec_GoodName.calls k4 ((rd_T80 ((rd_T77 l0_2 x26_2).f1) x63_4).f0) false _ A46.out).mono ?_); rintro e w' ⟨rfl, ⟨nd, rfl⟩⟩; (try first | exact ⟨rfl, _, World.drewN_drewN _ _ _⟩ | exact ⟨rfl, _, Eq.trans (World.drewN_drewN _ _ _) (congrArg (World.drewN _) (Nat.add_assoc _ _ _))⟩)))
                  repeat (go_quiet (first | ((with_reducible refine gate_dst (N := 6) rfl ?_); (try (refine gate_guard (by rfl) ?_; dsimp only)); refine box_event rfl (N := 6) rfl (cs := #[.string (⟨#[]⟩ : ByteArray), .int .i64 0, .int .i64 0]) (t := 80) sE ?_; intro gb125 hg w89 hbox hb; have BK125 := Aside0.mk hbox; have GW125 := gS w hg (lV2 GE117 GE121); have GE125 := gS w hg (lV2 GE117 GE121); replace HB := bH (lV2 GE117 GE121) hb; have NB117_125 := nL hg (bV BK117); have NB125_117 := nG hg (bV BK117); replace BK117 := bB (bV BK117) hb; have NB121_125 := nL hg (bV BK121); have NB125_121 := nG hg (bV BK121); replace BK121 := bB (bV BK121) hb; clear hb hbox hg; have hnb90 := NB125_117.out; have hnc90 := NB117_125.out; have hnb91 := NB125_121.out; have hnc91 := NB121_125.out; have hcz92_0 := cz BK125 0 (.string (⟨#[]⟩ : ByteArray)); have hcz92_1 := cz BK125 1 (.int .i64 0); have hcz92_2 := cz BK125 2 (.int .i64 0); have hfz92_0 := fz BK125 0; have hfz92_1 := fz BK125 1; have hfz92_2 := fz BK125 2) | ((with_reducible refine gate_store (t := 80) (p := 6) rfl ?_); (try (rw [drewN_self w89]; generalize hq_ : World.drewN w89 _ = w89; replace BK117 := Aside0.mk (blk_at hq_ BK117.out); replace BK121 := Aside0.mk (blk_at hq_ BK121.out); replace BK125 := Aside0.mk (blk_at hq_ BK125.out); replace HB := Aside0.mk (below_at hq_ HB.out); clear hq_)); refine store_event (t := 80) (p := 6) (v := ?vo_w93) (w1 := (((w89.setCell ⟨gb125, 0, none⟩ (.string ((rd_T80 ((rd_T77 l0_2 x26_2).f1) x63_4).f0))).setCell ⟨gb125, 1, none⟩ (.int .i64 ((rd_T80 ((rd_T77 l0_2 x26_2).f1) x63_4).f1))).setCell ⟨gb125, 2, none⟩ (.int .i64 ((rd_T80 ((rd_T77 l0_2 x26_2).f1) x63_4).f2)))) ?hg ?ho ?hn ?hr ?_; (case ho => rfl); (case hg => rfl); (case hn => rfl); (case hr => first | (go_simp; done) | (go_simp; rfl) | (have hq0_ := (blk_cell BK125.out 0).trans (show _ = some _ from rfl); have hf0_ := blk_frozen BK125.out 0; have hq1_ := (blk_cell BK125.out 1).trans (show _ = some _ from rfl); have hf1_ := blk_frozen BK125.out 1; have hq2_ := (blk_cell BK125.out 2).trans (show _ = some _ from rfl); have hf2_ := blk_frozen BK125.out 2; first | (go_simp; done) | (go_simp; rfl))); intro w93 hw; replace BK117 : Aside0 (w93.heap[gb117]? = some (.cells #[.int .i64 a0_0, .int .i64 a0_1, .slice (some ad120) l0_2.length c0_2] 50 (0, 0))) := ⟨(by rw [hw]; exact (bG NB117_125 BK117))⟩; replace BK121 : Aside0 (w93.heap[gb121]? = some (.cells #[.int .i64 ((rd_T77 l0_2 x26_2).f0), .slice (some ad124) ((rd_T77 l0_2 x26_2).f1).length c120_1] 77 (0, 0))) := ⟨(by rw [hw]; exact (bG NB121_125 BK121))⟩; replace BK125 : Aside0 (w93.heap[gb125]? = some (.cells #[.string ((rd_T80 ((rd_T77 l0_2 x26_2).f1) x63_4).f0), .int .i64 ((rd_T80 ((rd_T77 l0_2 x26_2).f1) x63_4).f1), .int .i64 ((rd_T80 ((rd_T77 l0_2 x26_2).f1) x63_4).f2)] 80 (0, 0))) := ⟨(by rw [hw]; exact (by refine bU ?_; refine blk_put (cs := #[.string ((rd_T80 ((rd_T77 l0_2 x26_2).f1) x63_4).f0), .int .i64 ((rd_T80 ((rd_T77 l0_2 x26_2).f1) x63_4).f1), .int .i64 0]) ?_ 2 _ rfl; refine bU ?_; refine blk_put (cs := #[.string ((rd_T80 ((rd_T77 l0_2 x26_2).f1) x63_4).f0), .int .i64 0, .int .i64 0]) ?_ 1 _ rfl; refine bU ?_; refine blk_put (cs := #[.string (⟨#[]⟩ : ByteArray), .int .i64 0, .int .i64 0]) ?_ 0 _ rfl; refine bU ?_; exact BK125.out))⟩; replace HB : Aside0 (Below w.heap.size w w93) := ⟨(by rw [hw]; exact (lV3 GE117 GE121 GE125))⟩; clear hw; have hcz94_0 := cz BK125 0 (.string ((rd_T80 ((rd_T77 l0_2 x26_2).f1) x63_4).f0)); have hcz94_1 := cz BK125 1 (.int .i64 ((rd_T80 ((rd_T77 l0_2 x26_2).f1) x63_4).f1)); have hcz94_2 := cz BK125 2 (.int .i64 ((rd_T80 ((rd_T77 l0_2 x26_2).f1) x63_4).f2)); have hfz94_0 := fz BK125 0; have hfz94_1 := fz BK125 1; have hfz94_2 := fz BK125 2) | (go_at_call 55; (with_reducible refine (spec_GoodName.calls k4 ((rd_T80 ((rd_T77 l0_2 x26_2).f1) x63_4).f0) false _ A46.out).mono ?_); rintro e w' ⟨rfl, ⟨nd, rfl⟩⟩; (try first | exact ⟨rfl, _, World.drewN_drewN _ _ _⟩ | exact ⟨rfl, _, Eq.trans (World.drewN_drewN _ _ _) (congrArg (World.drewN _) (Nat.add_assoc _ _ _))⟩))); try go_wp2_with (first | ((with_reducible refine gate_dst (N := 6) rfl ?_); (try (refine gate_guard (by rfl) ?_; dsimp only)); refine box_event rfl (N := 6) rfl (cs := #[.string (⟨#[]⟩ : ByteArray), .int .i64 0, .int .i64 0]) (t := 80) sE ?_; intro gb125 hg w89 hbox hb; have BK125 := Aside0.mk hbox; have GW125 := gS w hg (lV2 GE117 GE121); have GE125 := gS w hg (lV2 GE117 GE121); replace HB := bH (lV2 GE117 GE121) hb; have NB117_125 := nL hg (bV BK117); have NB125_117 := nG hg (bV BK117); replace BK117 := bB (bV BK117) hb; have NB121_125 := nL hg (bV BK121); have NB125_121 := nG hg (bV BK121); replace BK121 := bB (bV BK121) hb; clear hb hbox hg; have hnb90 := NB125_117.out; have hnc90 := NB117_125.out; have hnb91 := NB125_121.out; have hnc91 := NB121_125.out; have hcz92_0 := cz BK125 0 (.string (⟨#[]⟩ : ByteArray)); have hcz92_1 := cz BK125 1 (.int .i64 0); have hcz92_2 := cz BK125 2 (.int .i64 0); have hfz92_0 := fz BK125 0; have hfz92_1 := fz BK125 1; have hfz92_2 := fz BK125 2) | ((with_reducible refine gate_store (t := 80) (p := 6) rfl ?_); (try (rw [drewN_self w89]; generalize hq_ : World.drewN w89 _ = w89; replace BK117 := Aside0.mk (blk_at hq_ BK117.out); replace BK121 := Aside0.mk (blk_at hq_ BK121.out); replace BK125 := Aside0.mk (blk_at hq_ BK125.out); replace HB := Aside0.mk (below_at hq_ HB.out); clear hq_)); refine store_event (t := 80) (p := 6) (v := ?vo_w93) (w1 := (((w89.setCell ⟨gb125, 0, none⟩ (.string ((rd_T80 ((rd_T77 l0_2 x26_2).f1) x63_4).f0))).setCell ⟨gb125, 1, none⟩ (.int .i64 ((rd_T80 ((rd_T77 l0_2 x26_2).f1) x63_4).f1))).setCell ⟨gb125, 2, none⟩ (.int .i64 ((rd_T80 ((rd_T77 l0_2 x26_2).f1) x63_4).f2)))) ?hg ?ho ?hn ?hr ?_; (case ho => rfl); (case hg => rfl); (case hn => rfl); (case hr => first | (go_simp; done) | (go_simp; rfl) | (have hq0_ := (blk_cell BK125.out 0).trans (show _ = some _ from rfl); have hf0_ := blk_frozen BK125.out 0; have hq1_ := (blk_cell BK125.out 1).trans (show _ = some _ from rfl); have hf1_ := blk_frozen BK125.out 1; have hq2_ := (blk_cell BK125.out 2).trans (show _ = some _ from rfl); have hf2_ := blk_frozen BK125.out 2; first | (go_simp; done) | (go_simp; rfl))); intro w93 hw; replace BK117 : Aside0 (w93.heap[gb117]? = some (.cells #[.int .i64 a0_0, .int .i64 a0_1, .slice (some ad120) l0_2.length c0_2] 50 (0, 0))) := ⟨(by rw [hw]; exact (bG NB117_125 BK117))⟩; replace BK121 : Aside0 (w93.heap[gb121]? = some (.cells #[.int .i64 ((rd_T77 l0_2 x26_2).f0), .slice (some ad124) ((rd_T77 l0_2 x26_2).f1).length c120_1] 77 (0, 0))) := ⟨(by rw [hw]; exact (bG NB121_125 BK121))⟩; replace BK125 : Aside0 (w93.heap[gb125]? = some (.cells #[.string ((rd_T80 ((rd_T77 l0_2 x26_2).f1) x63_4).f0), .int .i64 ((rd_T80 ((rd_T77 l0_2 x26_2).f1) x63_4).f1), .int .i64 ((rd_T80 ((rd_T77 l0_2 x26_2).f1) x63_4).f2)] 80 (0, 0))) := ⟨(by rw [hw]; exact (by refine bU ?_; refine blk_put (cs := #[.string ((rd_T80 ((rd_T77 l0_2 x26_2).f1) x63_4).f0), .int .i64 ((rd_T80 ((rd_T77 l0_2 x26_2).f1) x63_4).f1), .int .i64 0]) ?_ 2 _ rfl; refine bU ?_; refine blk_put (cs := #[.string ((rd_T80 ((rd_T77 l0_2 x26_2).f1) x63_4).f0), .int .i64 0, .int .i64 0]) ?_ 1 _ rfl; refine bU ?_; refine blk_put (cs := #[.string (⟨#[]⟩ : ByteArray), .int .i64 0, .int .i64 0]) ?_ 0 _ rfl; refine bU ?_; exact BK125.out))⟩; replace HB : Aside0 (Below w.heap.size w w93) := ⟨(by rw [hw]; exact (lV3 GE117 GE121 GE125))⟩; clear hw; have hcz94_0 := cz BK125 0 (.string ((rd_T80 ((rd_T77 l0_2 x26_2).f1) x63_4).f0)); have hcz94_1 := cz BK125 1 (.int .i64 ((rd_T80 ((rd_T77 l0_2 x26_2).f1) x63_4).f1)); have hcz94_2 := cz BK125 2 (.int .i64 ((rd_T80 ((rd_T77 l0_2 x26_2).f1) x63_4).f2)); have hfz94_0 := fz BK125 0; have hfz94_1 := fz BK125 1; have hfz94_2 := fz BK125 2) | (go_at_call 55; (with_reducible refine (spec_GoodName.calls k4 ((rd_T80 ((rd_T77 l0_2 x26_2).f1) x63_4).f0) false _ A46.out).mono ?_); rintro e w' ⟨rfl, ⟨nd, rfl⟩⟩; (try first | exact ⟨rfl, _, World.drewN_drewN _ _ _⟩ | exact ⟨rfl, _, Eq.trans (World.drewN_drewN _ _ _) (congrArg (World.drewN _) (Nat.add_assoc _ _ _))⟩))))
                  go_ret
                  exact ⟨eE, lV3 GE117 GE121 GE125⟩
                ·rw [if_neg c45] at H
                 exact absurd H (by simp)
               ·rw [if_neg c44] at H
                exact absurd H (by simp)
              ·rw [if_neg c43] at H
               have c43b0 : decide (x63_4 < (((rd_T77 l0_2 x26_2).f1).length : Int)) = false := decide_eq_false c43
               clear c43
               have H' := Aside0.mk H
               clear H
               go_wp2
               repeat (go_quiet (fail); try go_wp2)
               go_roundg k4
               case measure => have := HJ1.out; have := HK2.out; have := HJ15.out; have := HK4.out; omega
               case rel => exact ⟨(wrap64 (x26_2 + 1)), tE, H', ⟨by have := HJ1.out; have := HK2.out; have := HJ15.out; have := HK4.out; omega⟩, ⟨by refine bU ?_; exact BK117.out⟩, ⟨by repeat (first | (with_reducible first | exact HB.out | apply below_alloc | apply pw_below_drewN | apply below_drew1 | refine below_set ?_ GE117.out | refine below_set ?_ GE121.out) | exact HB.out)⟩⟩
        ·rw [if_neg c15] at H
         exact absurd H (by simp)
       ·rw [if_neg c14] at H
        exact absurd H (by simp)
      ·rw [if_neg c13] at H
       have c13b0 : decide (x26_2 < (l0_2.length : Int)) = false := decide_eq_false c13
       clear c13
       obtain rfl := Option.some.inj H
       go_wp2
       repeat (go_quiet (fail); try go_wp2)
       go_ret
       exact ⟨eE, lV1 GE117⟩
end Go.Proofs.Ytcpodjegdpbalaa.PFnExactQueryWorld
namespace Go.Proofs.Ytcpodjegdpbalaa.PFnExactQueryWorld
open Go.RowKit Go.Proofs.YtcpodjegdpbalaaW.PrintWords Go.Proofs.YtcpodjegdpbalaaW.PrintLast Go.Proofs.YtcpodjegdpbalaaW.PrintMore
attribute [local go_sem] max2_int min2_int max_two min_two max_three min_three max_four min_four   -- for this text's walks alone
set_option linter.unusedVariables false
set_option linter.unusedSimpArgs false
def spec_l3Names.l0 : Nat → List ByteArray → List ByteArray → Int → Int → Option (Bool)
 | 0, _, _, _, _ => none
 | k + 1, x0, x11, x12, x13 => if x13 < x12 then (if 0 ≤ x13 then (if x13 < (x11.length : Int) then ((spec_GoodName.f k (rdOf ByteArray.empty x11 x13)).bind fun t130 => (if t130 = true then (if x13 > 0 then (if 0 ≤ (wrap64 (x13 - 1)) then (if (wrap64 (x13 - 1)) < (x0.length : Int) then (if ((Op.bytesLess ((rdOf ByteArray.empty x0 (wrap64 (x13 - 1))).toList) ((rdOf ByteArray.empty x11 x13).toList)) = true) then (spec_l3Names.l0 k x0 x11 x12 (wrap64 (x13 + 1))) else (some false)) else (none)) else (none)) else (spec_l3Names.l0 k x0 x11 x12 (wrap64 (x13 + 1)))) else (some false))) else (none)) else (none)) else (some true)
def spec_l3Names.f (k : Nat) (l0 : List ByteArray) (a1 : Int) : Option (Bool) := if (l0.length : Int) > a1 then (some false) else (spec_l3Names.l0 k l0 l0 (l0.length : Int) 0)
theorem spec_l3Names.mono_l : ∀ k, (∀ y0 y1 y2 y3, LeO (spec_l3Names.l0 k y0 y1 y2 y3) (spec_l3Names.l0 (k + 1) y0 y1 y2 y3))
 | 0 => fun _ _ _ _ r h => by simp [spec_l3Names.l0] at h
 | k + 1 => by
  have ih0 := spec_l3Names.mono_l k
  ·intro y0 y1 y2 y3
   unfold spec_l3Names.l0
   repeat' first
   | (with_reducible exact ih0 _ _ _ _)
   | (with_reducible exact spec_GoodName.mono _ _)
   | (with_reducible exact LeO.refl _)
   | (with_reducible exact LeO.none _)
   | (with_reducible refine LeO.ite ?_ ?_)
   | (with_reducible refine LeO.bind ?_ (fun _ => ?_))
   | exact ih0 _ _ _ _
   | exact spec_GoodName.mono _ _
   | exact LeO.none _
   | refine LeO.ite ?_ ?_
   | refine LeO.bind ?_ (fun _ => ?_)
theorem spec_l3Names.mono : ∀ a0 a1 k, LeO (spec_l3Names.f k a0 a1) (spec_l3Names.f (k + 1) a0 a1) := by
 intro a0 a1 k
 have ih0 := spec_l3Names.mono_l k
 unfold spec_l3Names.f
 repeat' first
   | (with_reducible exact ih0 _ _ _ _)
   | (with_reducible exact spec_GoodName.mono _ _)
   | (with_reducible exact LeO.refl _)
   | (with_reducible exact LeO.none _)
   | (with_reducible refine LeO.ite ?_ ?_)
   | (with_reducible refine LeO.bind ?_ (fun _ => ?_))
   | exact ih0 _ _ _ _
   | exact spec_GoodName.mono _ _
   | exact LeO.none _
   | refine LeO.ite ?_ ?_
   | refine LeO.bind ?_ (fun _ => ?_)
set_option maxHeartbeats 8000000 in
set_option maxRecDepth 100000 in
theorem spec_l3Names.calls (k : Nat) (A0 : Option Addr) (c0 : Nat) (l0 : List ByteArray) (a1 : Int) (r : Bool) (w : World) (hr0 : Kd.C Kd.string w A0 l0.length l0) (hc0 : l0.length ≤ c0) (h : spec_l3Names.f k l0 a1 = some r) :
  Calls Try.prog 41 #[.slice A0 l0.length c0, .int .i64 a1] w fun e w' => e = .returned (.bool r) ∧ Drawn0 w w' := by
 have HR0 := Aside0.mk hr0
 have HC0 := Aside0.mk hc0
 clear hr0 hc0
 have H : (if (l0.length : Int) > a1 then (some false) else (spec_l3Names.l0 k l0 l0 (l0.length : Int) 0)) = some r := h
 clear h
 by_cases c3 : (l0.length : Int) > a1
 ·rw [if_pos c3] at H
  have c3b0 : decide (a1 < (l0.length : Int)) = true := decide_eq_true c3
  clear c3
  obtain rfl := Option.some.inj H
  go_enter Try.func41, Try.ntmps41
  go_wp2
  go_ret
  exact ⟨by first | rfl | (simp; done) | (simp [*]; done) | exact not_isEmpty _ | exact (not_isEmpty _).symm | exact is_empty _ | exact (is_empty _).symm, by repeat (first | exact Drawn0.refl _ | apply Drawn0.step)⟩
 ·rw [if_neg c3] at H
  have c3b0 : decide (a1 < (l0.length : Int)) = false := decide_eq_false c3
  clear c3
  have H' := Aside0.mk H
  clear H
  go_enter Try.func41, Try.ntmps41
  go_wp2
  go_loopg [13] k (fun kq v13 w' => ∃ (x13_1 : Int), v13 = .int .i64 x13_1 ∧ Aside0 (spec_l3Names.l0 kq l0 l0 (l0.length : Int) x13_1 = some r) ∧ Aside0 (kq ≤ k) ∧ Drawn0 w w')
  case atStart => exact ⟨(0), tE, H', ⟨Nat.le_refl _⟩, by repeat (first | exact Drawn0.refl _ | apply Drawn0.step)⟩
  case round =>
   clear H'
   try clear p2
   try clear c3
   try clear c3b0
   obtain ⟨x13_1, rfl, HA, HK1, ⟨m1, rfl⟩⟩ := hrel
   cases gk with
   | zero => exact absurd HA.out (by simp [spec_l3Names.l0])
   | succ k1 =>
    have H := HA.out
    clear HA
    simp only [spec_l3Names.l0] at H
    by_cases c4 : x13_1 < (l0.length : Int)
    ·rw [if_pos c4] at H
     have c4b0 : decide (x13_1 < (l0.length : Int)) = true := decide_eq_true c4
     clear c4
     by_cases c5 : 0 ≤ x13_1
     ·rw [if_pos c5] at H
      have c5b0 : decide (0 ≤ x13_1) = true := decide_eq_true c5
      clear c5
      by_cases c6 : x13_1 < (l0.length : Int)
      ·rw [if_pos c6] at H
       have c6b0 : decide (x13_1 < (l0.length : Int)) = true := decide_eq_true c6
       clear c6
       replace H := Option.bind_eq_some_iff.mp H
       obtain ⟨t130, A70, H⟩ := H
       replace H : (if t130 = true then (if x13_1 > 0 then (if 0 ≤ (wrap64 (x13_1 - 1)) then (if (wrap64 (x13_1 - 1)) < (l0.length : Int) then (if ((Op.bytesLess ((rdOf ByteArray.empty l0 (wrap64 (x13_1 - 1))).toList) ((rdOf ByteArray.empty l0 x13_1).toList)) = true) then (spec_l3Names.l0 k1 l0 l0 (l0.length : Int) (wrap64 (x13_1 + 1))) else (some false)) else (none)) else (none)) else (spec_l3Names.l0 k1 l0 l0 (l0.length : Int) (wrap64 (x13_1 + 1)))) else (some false)) = some r := H
       have A7 := Aside0.mk A70
       clear A70
       by_cases c8 : t130 = true
       ·subst c8
        have H1 : (if x13_1 > 0 then (if 0 ≤ (wrap64 (x13_1 - 1)) then (if (wrap64 (x13_1 - 1)) < (l0.length : Int) then (if ((Op.bytesLess ((rdOf ByteArray.empty l0 (wrap64 (x13_1 - 1))).toList) ((rdOf ByteArray.empty l0 x13_1).toList)) = true) then (spec_l3Names.l0 k1 l0 l0 (l0.length : Int) (wrap64 (x13_1 + 1))) else (some false)) else (none)) else (none)) else (spec_l3Names.l0 k1 l0 l0 (l0.length : Int) (wrap64 (x13_1 + 1)))) = some r := by rw [if_pos rfl] at H; exact H
        clear H
        have H := H1
        clear H1
        by_cases c9 : x13_1 > 0
        ·rw [if_pos c9] at H
         have c9b0 : decide (0 < x13_1) = true := decide_eq_true c9
         clear c9
         obtain ⟨ji10, hji10⟩ : ∃ j_ : Int, (wrap64 (x13_1 - 1)) = j_ := ⟨_, rfl⟩
         replace H : (if 0 ≤ (ji10) then (if (ji10) < (l0.length : Int) then (if ((Op.bytesLess ((rdOf ByteArray.empty l0 (ji10)).toList) ((rdOf ByteArray.empty l0 x13_1).toList)) = true) then (spec_l3Names.l0 k1 l0 l0 (l0.length : Int) (wrap64 (x13_1 + 1))) else (some false)) else (none)) else (none)) = some r := by first | (rw [hji10] at H; exact H) | (simp only [hji10] at H ⊢; exact H)
         (try rw [hji10] at A7)
         have hji10w : (IntKind.i64.wrap (x13_1 - 1)) = ji10 := (i64_w _).trans hji10
         by_cases c11 : 0 ≤ (ji10)
         ·rw [if_pos c11] at H
          have c11b0 : decide (0 ≤ (ji10)) = true := decide_eq_true c11
          clear c11
          by_cases c12 : (ji10) < (l0.length : Int)
          ·rw [if_pos c12] at H
           have c12b0 : decide ((ji10) < (l0.length : Int)) = true := decide_eq_true c12
           clear c12
           by_cases c13 : ((Op.bytesLess ((rdOf ByteArray.empty l0 (ji10)).toList) ((rdOf ByteArray.empty l0 x13_1).toList)) = true)
           ·rw [if_pos c13] at H
            have c13b0 : (Op.bytesLess ((rdOf ByteArray.empty l0 (ji10)).toList) ((rdOf ByteArray.empty l0 x13_1).toList)) = true := c13
            clear c13
            have H' := Aside0.mk H
            clear H
            have p129 : 0 ≤ (x13_1 : Int) := of_decide_eq_true hE
            have q129 : x13_1 < (l0.length : Int) := of_decide_eq_true hE
            obtain ⟨ad129, e129, hx129_0⟩ := Kd.at_string HR0.out x13_1 p129 q129
            cases e129
            replace p129 := eq_true p129
            replace q129 := eq_true q129
            go_wp2_with (first | ((with_reducible refine gate_callee (f := 55) rfl ?_); refine goesL_ (some 19) rfl rfl Try.func55 (by kernel_rfl) rfl #[.string (rdOf ByteArray.empty l0 x13_1)] rfl aE ?_; (with_reducible refine (spec_GoodName.calls k1 (rdOf ByteArray.empty l0 x13_1) true _ A7.out).mono ?_); rintro e w' ⟨rfl, ⟨nd, rfl⟩⟩; refine ⟨_, rfl, ?_⟩; have p131 : 0 ≤ ((ji10) : Int) := of_decide_eq_true hE; have q131 : (ji10) < (l0.length : Int) := of_decide_eq_true hE; obtain ⟨ad131, e131, hx131_0⟩ := Kd.at_string HR0.out (ji10) p131 q131; obtain rfl : ad129 = ad131 := (by injection e131); replace p131 := eq_true p131; replace q131 := eq_true q131))
            go_roundg k1
            case measure => have := HK1.out; omega
            case rel => exact ⟨(wrap64 (x13_1 + 1)), tE, H', ⟨by have := HK1.out; omega⟩, by repeat (first | exact Drawn0.refl _ | apply Drawn0.step)⟩
           ·rw [if_neg c13] at H
            have c13b0 : (Op.bytesLess ((rdOf ByteArray.empty l0 (ji10)).toList) ((rdOf ByteArray.empty l0 x13_1).toList)) = false := by simpa using c13
            clear c13
            obtain rfl := Option.some.inj H
            have p129 : 0 ≤ (x13_1 : Int) := of_decide_eq_true hE
            have q129 : x13_1 < (l0.length : Int) := of_decide_eq_true hE
            obtain ⟨ad129, e129, hx129_0⟩ := Kd.at_string HR0.out x13_1 p129 q129
            cases e129
            replace p129 := eq_true p129
            replace q129 := eq_true q129
            go_wp2_with (first | ((with_reducible refine gate_callee (f := 55) rfl ?_); refine goesL_ (some 19) rfl rfl Try.func55 (by kernel_rfl) rfl #[.string (rdOf ByteArray.empty l0 x13_1)] rfl aE ?_; (with_reducible refine (spec_GoodName.calls k1 (rdOf ByteArray.empty l0 x13_1) true _ A7.out).mono ?_); rintro e w' ⟨rfl, ⟨nd, rfl⟩⟩; refine ⟨_, rfl, ?_⟩; have p131 : 0 ≤ ((ji10) : Int) := of_decide_eq_true hE; have q131 : (ji10) < (l0.length : Int) := of_decide_eq_true hE; obtain ⟨ad131, e131, hx131_0⟩ := Kd.at_string HR0.out (ji10) p131 q131; obtain rfl : ad129 = ad131 := (by injection e131); replace p131 := eq_true p131; replace q131 := eq_true q131))
            go_ret
            exact ⟨by first | rfl | (simp; done) | (simp only [← hji10] <;> (first | rfl | simp)) | (simp [*]; done) | exact not_isEmpty _ | exact (not_isEmpty _).symm | exact is_empty _ | exact (is_empty _).symm, by repeat (first | exact Drawn0.refl _ | apply Drawn0.step)⟩
          ·rw [if_neg c12] at H
           exact absurd H (by simp)
         ·rw [if_neg c11] at H
          exact absurd H (by simp)
        ·rw [if_neg c9] at H
         have c9b0 : decide (0 < x13_1) = false := decide_eq_false c9
         clear c9
         have H' := Aside0.mk H
         clear H
         have p129 : 0 ≤ (x13_1 : Int) := of_decide_eq_true hE
         have q129 : x13_1 < (l0.length : Int) := of_decide_eq_true hE
         obtain ⟨ad129, e129, hx129_0⟩ := Kd.at_string HR0.out x13_1 p129 q129
         cases e129
         replace p129 := eq_true p129
         replace q129 := eq_true q129
         go_wp2_with (first | ((with_reducible refine gate_callee (f := 55) rfl ?_); refine goesL_ (some 19) rfl rfl Try.func55 (by kernel_rfl) rfl #[.string (rdOf ByteArray.empty l0 x13_1)] rfl aE ?_; (with_reducible refine (spec_GoodName.calls k1 (rdOf ByteArray.empty l0 x13_1) true _ A7.out).mono ?_); rintro e w' ⟨rfl, ⟨nd, rfl⟩⟩; refine ⟨_, rfl, ?_⟩))
         go_roundg k1
         case measure => have := HK1.out; omega
         case rel => exact ⟨(wrap64 (x13_1 + 1)), tE, H', ⟨by have := HK1.out; omega⟩, by repeat (first | exact Drawn0.refl _ | apply Drawn0.step)⟩
       ·replace c8 := Bool.eq_false_iff.mpr c8
        subst c8
        have H1 : (some false) = some r := by rw [if_neg (show ¬ (false = true) by decide)] at H; exact H
        clear H
        have H := H1
        clear H1
        obtain rfl := Option.some.inj H
        have p129 : 0 ≤ (x13_1 : Int) := of_decide_eq_true hE
        have q129 : x13_1 < (l0.length : Int) := of_decide_eq_true hE
        obtain ⟨ad129, e129, hx129_0⟩ := Kd.at_string HR0.out x13_1 p129 q129
        cases e129
        replace p129 := eq_true p129
        replace q129 := eq_true q129
        go_wp2_with (first | ((with_reducible refine gate_callee (f := 55) rfl ?_); refine goesL_ (some 19) rfl rfl Try.func55 (by kernel_rfl) rfl #[.string (rdOf ByteArray.empty l0 x13_1)] rfl aE ?_; (with_reducible refine (spec_GoodName.calls k1 (rdOf ByteArray.empty l0 x13_1) false _ A7.out).mono ?_); rintro e w' ⟨rfl, ⟨nd, rfl⟩⟩; refine ⟨_, rfl, ?_⟩))
        go_ret
        exact ⟨by first | rfl | (simp; done) | (simp [*]; done) | exact not_isEmpty _ | exact (not_isEmpty _).symm | exact is_empty _ | exact (is_empty _).symm, by repeat (first | exact Drawn0.refl _ | apply Drawn0.step)⟩
      ·rw [if_neg c6] at H
       exact absurd H (by simp)
     ·rw [if_neg c5] at H
      exact absurd H (by simp)
    ·rw [if_neg c4] at H
     have c4b0 : decide (x13_1 < (l0.length : Int)) = false := decide_eq_false c4
     clear c4
     obtain rfl := Option.some.inj H
     go_wp2
     go_ret
     exact ⟨by first | rfl | (simp; done) | (simp [*]; done) | exact not_isEmpty _ | exact (not_isEmpty _).symm | exact is_empty _ | exact (is_empty _).symm, by repeat (first | exact Drawn0.refl _ | apply Drawn0.step)⟩
def spec_l3Part.l0 : Nat → ByteArray → List (S80) → Int → Int → Option (Int)
 | 0, _, _, _, _ => none
 | k + 1, x1, x8, x9, x10 => if x10 < x9 then (if 0 ≤ x10 then (if x10 < (x8.length : Int) then (if ((rd_T80 x8 x10).f0).toList = x1.toList then (some x10) else (spec_l3Part.l0 k x1 x8 x9 (wrap64 (x10 + 1)))) else (none)) else (none)) else (some (-1))
def spec_l3Part.f (k : Nat) (a0_0 : Int) (l0_1 : List (S80)) (a1 : ByteArray) : Option (Int) := spec_l3Part.l0 k a1 l0_1 (l0_1.length : Int) 0
theorem spec_l3Part.mono_l : ∀ k, (∀ y0 y1 y2 y3, LeO (spec_l3Part.l0 k y0 y1 y2 y3) (spec_l3Part.l0 (k + 1) y0 y1 y2 y3))
 | 0 => fun _ _ _ _ r h => by simp [spec_l3Part.l0] at h
 | k + 1 => by
  have ih0 := spec_l3Part.mono_l k
  ·intro y0 y1 y2 y3
   unfold spec_l3Part.l0
   repeat' first
   | (with_reducible exact ih0 _ _ _ _)
   | (with_reducible exact LeO.refl _)
   | (with_reducible exact LeO.none _)
   | (with_reducible refine LeO.ite ?_ ?_)
   | (with_reducible refine LeO.bind ?_ (fun _ => ?_))
   | exact ih0 _ _ _ _
   | exact LeO.none _
   | refine LeO.ite ?_ ?_
   | refine LeO.bind ?_ (fun _ => ?_)
theorem spec_l3Part.mono : ∀ a0 a1 a2 k, LeO (spec_l3Part.f k a0 a1 a2) (spec_l3Part.f (k + 1) a0 a1 a2) := by
 intro a0 a1 a2 k
 have ih0 := spec_l3Part.mono_l k
 unfold spec_l3Part.f
 repeat' first
   | (with_reducible exact ih0 _ _ _ _)
   | (with_reducible exact LeO.refl _)
   | (with_reducible exact LeO.none _)
   | (with_reducible refine LeO.ite ?_ ?_)
   | (with_reducible refine LeO.bind ?_ (fun _ => ?_))
   | exact ih0 _ _ _ _
   | exact LeO.none _
   | refine LeO.ite ?_ ?_
   | refine LeO.bind ?_ (fun _ => ?_)
set_option maxHeartbeats 8000000 in
set_option maxRecDepth 100000 in
theorem spec_l3Part.calls (k : Nat) (a0_0 : Int) (A0_1 : Option Addr) (c0_1 : Nat) (l0_1 : List (S80)) (a1 : ByteArray) (r : Int) (w : World) (hr0_1 : Kd.C k80 w A0_1 l0_1.length l0_1) (hc0_1 : l0_1.length ≤ c0_1) (h : spec_l3Part.f k a0_0 l0_1 a1 = some r) :
  Calls Try.prog 43 #[.agg #[.int .i64 a0_0, .slice A0_1 l0_1.length c0_1], .string a1] w fun e w' => e = .returned (.int .i64 r) ∧ Below w.heap.size w w' := by
 have hu77 := Try.underlying77
 have hu80 := Try.underlying80
 have HR0_1 := Aside0.mk hr0_1
 have HC0_1 := Aside0.mk hc0_1
 clear hr0_1 hc0_1
 have HB := Aside0.mk (Below.refl w.heap.size w)
 have H : (spec_l3Part.l0 k a1 l0_1 (l0_1.length : Int) 0) = some r := h
 clear h
 have H' := Aside0.mk H
 clear H
 go_enter Try.func43, Try.ntmps43
 go_wp2_with (first | ((with_reducible refine gate_dst (N := 2) rfl ?_); refine box_event rfl (N := 2) rfl (cs := #[.int .i64 a0_0, .slice A0_1 l0_1.length c0_1]) (t := 77) sE ?_; intro gb132 hg w3 hbox hb; have BK132 := Aside0.mk hbox; have GW132 := gS w hg (lU); have GE132 := gS w hg (lU); replace HB := bH (lU) hb; clear hb hbox hg; have hcz4_0 := cz BK132 0 (.int .i64 a0_0); have hcz4_1 := cz BK132 1 (.slice A0_1 l0_1.length c0_1); have hfz4_0 := fz BK132 0; have hfz4_1 := fz BK132 1))
 (try simp only [Act.put, List.setIfInBounds_toArray, List.set_cons_zero, List.set_cons_succ])
 go_loopg [10] k (fun kq v10 w' => ∃ (x10_1 : Int), v10 = .int .i64 x10_1 ∧ Aside0 (spec_l3Part.l0 kq a1 l0_1 (l0_1.length : Int) x10_1 = some r) ∧ Aside0 (kq ≤ k) ∧ Aside0 (w'.heap[gb132]? = some (.cells #[.int .i64 a0_0, (.slice A0_1 l0_1.length c0_1)] 77 (0, 0))) ∧ Aside0 (Below w.heap.size w w'))
 case atStart => exact ⟨(0), tE, H', ⟨Nat.le_refl _⟩, ⟨by refine bU ?_; exact BK132.out⟩, ⟨by repeat (first | (with_reducible first | exact HB.out | apply below_alloc | apply pw_below_drewN | apply below_drew1 | refine below_set ?_ GE132.out) | exact HB.out)⟩⟩
 case round =>
  clear H'
  try clear p2
  try clear c4
  try clear hcz4_0
  try clear hcz4_1
  try clear hfz4_0
  try clear hfz4_1
  obtain ⟨x10_1, rfl, HA, HK1, BK132, HB⟩ := hrel
  cases gk with
  | zero => exact absurd HA.out (by simp [spec_l3Part.l0])
  | succ k1 =>
   have H := HA.out
   clear HA
   simp only [spec_l3Part.l0] at H
   by_cases c5 : x10_1 < (l0_1.length : Int)
   ·rw [if_pos c5] at H
    have c5b0 : decide (x10_1 < (l0_1.length : Int)) = true := decide_eq_true c5
    clear c5
    by_cases c6 : 0 ≤ x10_1
    ·rw [if_pos c6] at H
     have c6b0 : decide (0 ≤ x10_1) = true := decide_eq_true c6
     clear c6
     by_cases c7 : x10_1 < (l0_1.length : Int)
     ·rw [if_pos c7] at H
      have c7b0 : decide (x10_1 < (l0_1.length : Int)) = true := decide_eq_true c7
      clear c7
      by_cases c8 : ((rd_T80 l0_1 x10_1).f0).toList = a1.toList
      ·rw [if_pos c8] at H
       have c8b0 : (((rd_T80 l0_1 x10_1).f0).toList == a1.toList) = true := beq_iff_eq.mpr c8
       have c8b1 : (((rd_T80 l0_1 x10_1).f0).toList != a1.toList) = false := bne_eq_false_iff_eq.mpr c8
       clear c8
       obtain rfl := Option.some.inj H
       have p133 : 0 ≤ (x10_1 : Int) := of_decide_eq_true hE
       have q133 : x10_1 < (l0_1.length : Int) := of_decide_eq_true hE
       obtain ⟨ad133, e133, hx133_0, hx133_1, hx133_2⟩ := at_T80 HR0_1.out x10_1 p133 q133
       cases e133
       replace hx133_0 := (HB.out.cell (World.block_lt_of_cell? w _ hx133_0)).trans hx133_0
       replace hx133_1 := (HB.out.cell (World.block_lt_of_cell? w _ hx133_1)).trans hx133_1
       replace hx133_2 := (HB.out.cell (World.block_lt_of_cell? w _ hx133_2)).trans hx133_2
       replace p133 := eq_true p133
       replace q133 := eq_true q133
       go_wp2_with (first | ((with_reducible refine gate_dst (N := 6) rfl ?_); refine box_event rfl (N := 6) rfl (cs := #[.string (⟨#[]⟩ : ByteArray), .int .i64 0, .int .i64 0]) (t := 80) sE ?_; intro gb134 hg w9 hbox hb; have BK134 := Aside0.mk hbox; have GW134 := gS w hg (lV1 GE132); have GE134 := gS w hg (lV1 GE132); replace HB := bH (lV1 GE132) hb; have NB132_134 := nL hg (bV BK132); have NB134_132 := nG hg (bV BK132); replace BK132 := bB (bV BK132) hb; clear hb hbox hg; have hnb10 := NB134_132.out; have hnc10 := NB132_134.out; have hcz11_0 := cz BK134 0 (.string (⟨#[]⟩ : ByteArray)); have hcz11_1 := cz BK134 1 (.int .i64 0); have hcz11_2 := cz BK134 2 (.int .i64 0); have hfz11_0 := fz BK134 0; have hfz11_1 := fz BK134 1; have hfz11_2 := fz BK134 2) | ((with_reducible refine gate_store (t := 80) (p := 6) rfl ?_); refine store_event (t := 80) (p := 6) (v := ?vo_w12) (w1 := (((w9.setCell ⟨gb134, 0, none⟩ (.string ((rd_T80 l0_1 x10_1).f0))).setCell ⟨gb134, 1, none⟩ (.int .i64 ((rd_T80 l0_1 x10_1).f1))).setCell ⟨gb134, 2, none⟩ (.int .i64 ((rd_T80 l0_1 x10_1).f2)))) ?hg ?ho ?hn ?hr ?_; (case ho => rfl); (case hg => rfl); (case hn => rfl); (case hr => first | (go_simp; done) | (go_simp; rfl) | (have hq0_ := (blk_cell BK134.out 0).trans (show _ = some _ from rfl); have hf0_ := blk_frozen BK134.out 0; have hq1_ := (blk_cell BK134.out 1).trans (show _ = some _ from rfl); have hf1_ := blk_frozen BK134.out 1; have hq2_ := (blk_cell BK134.out 2).trans (show _ = some _ from rfl); have hf2_ := blk_frozen BK134.out 2; first | (go_simp; done) | (go_simp; rfl))); intro w12 hw; replace BK132 : Aside0 (w12.heap[gb132]? = some (.cells #[.int .i64 a0_0, .slice (some ad133) l0_1.length c0_1] 77 (0, 0))) := ⟨(by rw [hw]; exact (bG NB132_134 BK132))⟩; replace BK134 : Aside0 (w12.heap[gb134]? = some (.cells #[.string ((rd_T80 l0_1 x10_1).f0), .int .i64 ((rd_T80 l0_1 x10_1).f1), .int .i64 ((rd_T80 l0_1 x10_1).f2)] 80 (0, 0))) := ⟨(by rw [hw]; exact (by refine bU ?_; refine blk_put (cs := #[.string ((rd_T80 l0_1 x10_1).f0), .int .i64 ((rd_T80 l0_1 x10_1).f1), .int .i64 0]) ?_ 2 _ rfl; refine bU ?_; refine blk_put (cs := #[.string ((rd_T80 l0_1 x10_1).f0), .int .i64 0, .int .i64 0]) ?_ 1 _ rfl; refine bU ?_; refine blk_put (cs := #[.string (⟨#[]⟩ : ByteArray), .int .i64 0, .int .i64 0]) ?_ 0 _ rfl; refine bU ?_; exact BK134.out))⟩; replace HB : Aside0 (Below w.heap.size w w12) := ⟨(by rw [hw]; exact (lV2 GE132 GE134))⟩; clear hw; have hcz13_0 := cz BK134 0 (.string ((rd_T80 l0_1 x10_1).f0)); have hcz13_1 := cz BK134 1 (.int .i64 ((rd_T80 l0_1 x10_1).f1)); have hcz13_2 := cz BK134 2 (.int .i64 ((rd_T80 l0_1 x10_1).f2)); have hfz13_0 := fz BK134 0; have hfz13_1 := fz BK134 1; have hfz13_2 := fz BK134 2))
       go_ret
       exact ⟨eE, lV2 GE132 GE134⟩
      ·rw [if_neg c8] at H
       have c8b0 : (((rd_T80 l0_1 x10_1).f0).toList == a1.toList) = false := beq_eq_false_iff_ne.mpr c8
       have c8b1 : (((rd_T80 l0_1 x10_1).f0).toList != a1.toList) = true := bne_iff_ne.mpr c8
       have H' := Aside0.mk H
       clear H
       have p133 : 0 ≤ (x10_1 : Int) := of_decide_eq_true hE
       have q133 : x10_1 < (l0_1.length : Int) := of_decide_eq_true hE
       obtain ⟨ad133, e133, hx133_0, hx133_1, hx133_2⟩ := at_T80 HR0_1.out x10_1 p133 q133
       cases e133
       replace hx133_0 := (HB.out.cell (World.block_lt_of_cell? w _ hx133_0)).trans hx133_0
       replace hx133_1 := (HB.out.cell (World.block_lt_of_cell? w _ hx133_1)).trans hx133_1
       replace hx133_2 := (HB.out.cell (World.block_lt_of_cell? w _ hx133_2)).trans hx133_2
       replace p133 := eq_true p133
       replace q133 := eq_true q133
       go_wp2_with (first | ((with_reducible refine gate_dst (N := 6) rfl ?_); refine box_event rfl (N := 6) rfl (cs := #[.string (⟨#[]⟩ : ByteArray), .int .i64 0, .int .i64 0]) (t := 80) sE ?_; intro gb134 hg w14 hbox hb; have BK134 := Aside0.mk hbox; have GW134 := gS w hg (lV1 GE132); have GE134 := gS w hg (lV1 GE132); replace HB := bH (lV1 GE132) hb; have NB132_134 := nL hg (bV BK132); have NB134_132 := nG hg (bV BK132); replace BK132 := bB (bV BK132) hb; clear hb hbox hg; have hnb15 := NB134_132.out; have hnc15 := NB132_134.out; have hcz16_0 := cz BK134 0 (.string (⟨#[]⟩ : ByteArray)); have hcz16_1 := cz BK134 1 (.int .i64 0); have hcz16_2 := cz BK134 2 (.int .i64 0); have hfz16_0 := fz BK134 0; have hfz16_1 := fz BK134 1; have hfz16_2 := fz BK134 2) | ((with_reducible refine gate_store (t := 80) (p := 6) rfl ?_); refine store_event (t := 80) (p := 6) (v := ?vo_w17) (w1 := (((w14.setCell ⟨gb134, 0, none⟩ (.string ((rd_T80 l0_1 x10_1).f0))).setCell ⟨gb134, 1, none⟩ (.int .i64 ((rd_T80 l0_1 x10_1).f1))).setCell ⟨gb134, 2, none⟩ (.int .i64 ((rd_T80 l0_1 x10_1).f2)))) ?hg ?ho ?hn ?hr ?_; (case ho => rfl); (case hg => rfl); (case hn => rfl); (case hr => first | (go_simp; done) | (go_simp; rfl) | (have hq0_ := (blk_cell BK134.out 0).trans (show _ = some _ from rfl); have hf0_ := blk_frozen BK134.out 0; have hq1_ := (blk_cell BK134.out 1).trans (show _ = some _ from rfl); have hf1_ := blk_frozen BK134.out 1; have hq2_ := (blk_cell BK134.out 2).trans (show _ = some _ from rfl); have hf2_ := blk_frozen BK134.out 2; first | (go_simp; done) | (go_simp; rfl))); intro w17 hw; replace BK132 : Aside0 (w17.heap[gb132]? = some (.cells #[.int .i64 a0_0, .slice (some ad133) l0_1.length c0_1] 77 (0, 0))) := ⟨(by rw [hw]; exact (bG NB132_134 BK132))⟩; replace BK134 : Aside0 (w17.heap[gb134]? = some (.cells #[.string ((rd_T80 l0_1 x10_1).f0), .int .i64 ((rd_T80 l0_1 x10_1).f1), .int .i64 ((rd_T80 l0_1 x10_1).f2)] 80 (0, 0))) := ⟨(by rw [hw]; exact (by refine bU ?_; refine blk_put (cs := #[.string ((rd_T80 l0_1 x10_1).f0), .int .i64 ((rd_T80 l0_1 x10_1).f1), .int .i64 0]) ?_ 2 _ rfl; refine bU ?_; refine blk_put (cs := #[.string ((rd_T80 l0_1 x10_1).f0), .int .i64 0, .int .i64 0]) ?_ 1 _ rfl; refine bU ?_; refine blk_put (cs := #[.string (⟨#[]⟩ : ByteArray), .int .i64 0, .int .i64 0]) ?_ 0 _ rfl; refine bU ?_; exact BK134.out))⟩; replace HB : Aside0 (Below w.heap.size w w17) := ⟨(by rw [hw]; exact (lV2 GE132 GE134))⟩; clear hw; have hcz18_0 := cz BK134 0 (.string ((rd_T80 l0_1 x10_1).f0)); have hcz18_1 := cz BK134 1 (.int .i64 ((rd_T80 l0_1 x10_1).f1)); have hcz18_2 := cz BK134 2 (.int .i64 ((rd_T80 l0_1 x10_1).f2)); have hfz18_0 := fz BK134 0; have hfz18_1 := fz BK134 1; have hfz18_2 := fz BK134 2))
       go_roundg k1
       case measure => have := HK1.out; omega
       case rel => exact ⟨(wrap64 (x10_1 + 1)), tE, H', ⟨by have := HK1.out; omega⟩, ⟨by refine bU ?_; exact BK132.out⟩, ⟨by repeat (first | (with_reducible first | exact HB.out | apply below_alloc | apply pw_below_drewN | apply below_drew1 | refine below_set ?_ GE132.out | refine below_set ?_ GE134.out) | exact HB.out)⟩⟩
     ·rw [if_neg c7] at H
      exact absurd H (by simp)
    ·rw [if_neg c6] at H
     exact absurd H (by simp)
   ·rw [if_neg c5] at H
    have c5b0 : decide (x10_1 < (l0_1.length : Int)) = false := decide_eq_false c5
    clear c5
    obtain rfl := Option.some.inj H
    go_wp2
    go_ret
    exact ⟨eE, lV1 GE132⟩
end Go.Proofs.Ytcpodjegdpbalaa.PFnExactQueryWorld
